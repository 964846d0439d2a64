/- TernTells: for every input the call returns true, and each argument reads behind it as before. No condition. -/
import Derived.Test.YthpnooookkpkaaaMTernTells1
import Derived.Outline
import Derived.LoopN
import Derived.Test.YthpnooookkpkaaaMTernTells0
import Derived.Test.YthpnooookkpkaaaRows
import Derived.WalkKit
import Derived.ProofKit
import Derived.OpenShut
import Derived.ShutString
import Derived.ChangeOld
import Derived.Below
import Derived.SizedLaws
import Derived.Lib.SmallJoins
import Derived.Test.YthpnooookkpkaaaWSized
namespace Go.Proofs.Ythpnooookkpkaaa.T
open Go.RowKit Go.Proofs.Ythpnooookkpkaaa.F Go.Proofs.YthpnooookkpkaaaW.PrintWords Go.Proofs.YthpnooookkpkaaaW.PrintMore

/-! ### what a loop over all places builds -/
def Built (f g : Nat → Bool) (i z o : Nat) : Prop := z < 2 ^ 64 ∧ o < 2 ^ 64 ∧ ∀ j, j < i → z.testBit j = f j ∧ o.testBit j = g j
theorem Built.start (f g : Nat → Bool) : Built f g 0 0 0 := ⟨by omega, by omega, fun j h => by omega⟩
theorem Built.next {f g : Nat → Bool} {i z o : Nat} (h : Built f g i z o) (hi : i < 64) {b c : Bool} (hb : b = f i) (hc : c = g i) : Built f g (i + 1) (setb z i b) (setb o i c) := by
  obtain ⟨h1, h2, h3⟩ := h
  refine ⟨setb_lt h1 hi, setb_lt h2 hi, fun j hj => ?_⟩
  rw [setb_bit hi j (by omega), setb_bit hi j (by omega)]
  by_cases e : i = j
  · subst e; simp [hb, hc]
  · simpa [e] using h3 j (by omega)
theorem Built.done {f g : Nat → Bool} {z o a b : Nat} (h : Built f g 64 z o) (ha : a < 2 ^ 64) (hb : b < 2 ^ 64) (h1 : ∀ j, j < 64 → a.testBit j = f j) (h2 : ∀ j, j < 64 → b.testBit j = g j) : z = a ∧ o = b :=
  ⟨ext64 h.1 ha fun i hi => by rw [h1 i hi, (h.2.2 i hi).1], ext64 h.2.1 hb fun i hi => by rw [h2 i hi, (h.2.2 i hi).2]⟩

theorem Not1_is (v : Int) (h0 : 0 ≤ v) (h1 : v < 256) : tern_Not1.f v = some (if v = 0 then 1 else if v = 1 then 0 else 2) ∧ inquestref06_Not1.f v = some (if v = 0 then 1 else if v = 1 then 0 else 2) := by
  unfold tern_Not1.f inquestref06_Not1.f
  constructor
  · by_cases a : v = 0
    · subst a; rfl
    · by_cases b : v = 1
      · subst b; rfl
      · rw [if_pos (by omega), if_neg a, if_neg b]
  · by_cases a : v = 0
    · subst a; rfl
    · by_cases b : v = 1
      · subst b; rfl
      · rw [if_neg a, if_neg b, if_neg a, if_neg b]
def and1 (v u : Int) : Int := if v = 0 ∨ u = 0 then 0 else if v = 1 ∧ u = 1 then 1 else 2
theorem or_one {a b : Nat} (ha : a ≠ 0) (hb : b ≠ 0) : (a ||| b = 1) ↔ (a = 1 ∧ b = 1) := by
  constructor
  · intro h
    have h1 : a ≤ 1 := by rw [← h]; exact Nat.left_le_or
    have h2 : b ≤ 1 := by rw [← h]; exact Nat.right_le_or
    omega
  · rintro ⟨rfl, rfl⟩; rfl
theorem And1_is (v u : Int) (h0 : 0 ≤ v) (h1 : v < 256) (g0 : 0 ≤ u) (g1 : u < 256) (k : Nat) (hk : 0 < k) : tern_And1.f k v u = some (and1 v u) := by
  obtain ⟨k, rfl⟩ : ∃ m, k = m + 1 := ⟨k - 1, by omega⟩
  unfold tern_And1.f and1
  by_cases a : v = 0
  · subst a; simp [tern_And1.j0]
  · rw [if_neg a]
    by_cases b : u = 0
    · subst b; simp [tern_And1.j0]
    · rw [if_neg (by omega)]
      simp only [tern_And1.j0]
      rw [if_neg (by simpa using b), u8_or v u h0 h1 g0 g1]
      have := or_one (a := v.toNat) (b := u.toNat) (by omega) (by omega)
      by_cases e : v = 1 ∧ u = 1
      · rw [if_pos e, if_pos (by have := this.2 ⟨by omega, by omega⟩; omega)]
      · rw [if_neg e, if_neg (fun h => e (by have := this.1 (by omega); omega))]
theorem rAnd1_is (v u : Int) (k : Nat) (hk : 0 < k) : inquestref06_And1.f k v u = some (and1 v u) := by
  obtain ⟨k, rfl⟩ : ∃ m, k = m + 1 := ⟨k - 1, by omega⟩
  unfold inquestref06_And1.f and1
  by_cases a : v = 0
  · subst a; simp [inquestref06_And1.j0]
  · rw [if_neg a]
    by_cases b : u = 0
    · subst b; simp [inquestref06_And1.j0]
    · rw [if_neg (by omega)]
      simp only [inquestref06_And1.j0]
      rw [if_neg (by simpa using b)]
      by_cases e : v = 1 <;> by_cases e2 : u = 1 <;> simp [e, e2]
theorem val_range (a b : Bool) : 0 ≤ val a b ∧ val a b ≤ 2 := by cases a <;> cases b <;> simp [val]

/-! ### Not -/
def notR (z o : Nat) : Nat × Nat := if mayB z o then (o, z) else (18446744073709551615, 0)
theorem Not_is {z o : Nat} (hz : z < 2 ^ 64) (ho : o < 2 ^ 64) : tern_Not.f z o = some ((((notR z o).1 : Nat) : Int), (((notR z o).2 : Nat) : Int)) := by
  unfold tern_Not.f notR
  rw [may_is hz ho, Option.bind_some]
  cases mayB z o <;> simp [tern_nothing.f]
theorem rNot_loop {z o : Nat} (hz : z < 2 ^ 64) (ho : o < 2 ^ 64) (f g : Nat → Bool) (hf : ∀ j, j < 64 → f j = (notR z o).1.testBit j) (hg : ∀ j, j < 64 → g j = (notR z o).2.testBit j) :
    ∀ d k i x y : Nat, i + d = 64 → d + 66 < k → Built f g i x y → ∃ x' y' : Nat, inquestref06_Not.l0 k i z o x y = some ((x' : Int), (y' : Int)) ∧ Built f g 64 x' y' := by
  intro d
  induction d with
  | zero =>
    intro k i x y hi hk hB
    obtain ⟨k, rfl⟩ : ∃ m, k = m + 1 := ⟨k - 1, by omega⟩
    obtain rfl : i = 64 := by omega
    exact ⟨x, y, by simp only [inquestref06_Not.l0]; rw [if_neg (by omega)], hB⟩
  | succ d ih =>
    intro k i x y hi hk hB
    obtain ⟨k, rfl⟩ : ∃ m, k = m + 1 := ⟨k - 1, by omega⟩
    simp only [inquestref06_Not.l0]
    rw [if_pos (by omega), rmay_is hz ho k (by omega), Option.bind_some]
    have hfi := hf i (by omega)
    have hgi := hg i (by omega)
    by_cases hm : mayB z o = true
    · have hor := (mayB_iff hz ho).1 hm i (by omega)
      have hv := val_range (z.testBit i) (o.testBit i)
      rw [if_pos hm, rat_is (by omega), Option.bind_some, (Not1_is _ hv.1 (by omega)).2, Option.bind_some, with_is _ hB.1 hB.2.1 (by omega), Option.bind_some, w64 (by omega)]
      refine ih k (i + 1) _ _ (by omega) (by omega) (hB.next (by omega) ?_ ?_)
      · rw [hfi, notR, if_pos hm]
        cases h1 : z.testBit i <;> cases h2 : o.testBit i <;> simp [val, h1, h2] at hor ⊢
      · rw [hgi, notR, if_pos hm]
        cases h1 : z.testBit i <;> cases h2 : o.testBit i <;> simp [val, h1, h2] at hor ⊢
    · rw [if_neg hm, with_is _ hB.1 hB.2.1 (by omega), Option.bind_some, w64 (by omega)]
      refine ih k (i + 1) _ _ (by omega) (by omega) (hB.next (by omega) ?_ ?_)
      · rw [hfi, notR, if_neg hm]; simp [full_bit (show i < 64 by omega)]
      · rw [hgi, notR, if_neg hm]; simp
theorem notR_lt {z o : Nat} (hz : z < 2 ^ 64) (ho : o < 2 ^ 64) : (notR z o).1 < 2 ^ 64 ∧ (notR z o).2 < 2 ^ 64 := by
  unfold notR; split <;> simp <;> omega
theorem rNot_is {z o : Nat} (hz : z < 2 ^ 64) (ho : o < 2 ^ 64) (k : Nat) (hk : 200 ≤ k) : inquestref06_Not.f k z o = some ((((notR z o).1 : Nat) : Int), (((notR z o).2 : Nat) : Int)) := by
  obtain ⟨x, y, h, hB⟩ := rNot_loop hz ho (fun j => (notR z o).1.testBit j) (fun j => (notR z o).2.testBit j) (fun _ _ => rfl) (fun _ _ => rfl) 64 k 0 0 0 (by omega) (by omega) (Built.start _ _)
  obtain ⟨rfl, rfl⟩ := hB.done (notR_lt hz ho).1 (notR_lt hz ho).2 (fun _ _ => rfl) (fun _ _ => rfl)
  exact h

/-! ### And -/
def andR (z o y p : Nat) : Nat × Nat := if mayB z o && mayB y p then (z ||| y, o &&& p) else (18446744073709551615, 0)
theorem And_is {z o y p : Nat} (hz : z < 2 ^ 64) (ho : o < 2 ^ 64) (hy : y < 2 ^ 64) (hp : p < 2 ^ 64) : tern_And.f z o y p = some ((((andR z o y p).1 : Nat) : Int), (((andR z o y p).2 : Nat) : Int)) := by
  unfold tern_And.f andR
  rw [may_is hz ho, Option.bind_some]
  cases mayB z o
  · simp [tern_nothing.f]
  · rw [if_pos rfl, may_is hy hp, Option.bind_some]
    cases mayB y p
    · simp [tern_nothing.f]
    · rw [if_pos rfl, or_nat hz hy, and_nat ho hp]; simp
theorem andR_lt {z o y p : Nat} (hz : z < 2 ^ 64) (ho : o < 2 ^ 64) (hy : y < 2 ^ 64) : (andR z o y p).1 < 2 ^ 64 ∧ (andR z o y p).2 < 2 ^ 64 := by
  unfold andR; split
  · exact ⟨Nat.or_lt_two_pow hz hy, Nat.lt_of_le_of_lt Nat.and_le_left ho⟩
  · simp
theorem rAnd_loop {z o y p : Nat} (hz : z < 2 ^ 64) (ho : o < 2 ^ 64) (hy : y < 2 ^ 64) (hp : p < 2 ^ 64) (f g : Nat → Bool) (hf : ∀ j, j < 64 → f j = (andR z o y p).1.testBit j) (hg : ∀ j, j < 64 → g j = (andR z o y p).2.testBit j) :
    ∀ d k i u v : Nat, i + d = 64 → 2 * d + 66 < k → Built f g i u v → ∃ u' v' : Nat, inquestref06_And.l0 k i z o y p u v = some ((u' : Int), (v' : Int)) ∧ Built f g 64 u' v' := by
  intro d
  induction d with
  | zero =>
    intro k i x y hi hk hB
    obtain ⟨k, rfl⟩ : ∃ m, k = m + 1 := ⟨k - 1, by omega⟩
    obtain rfl : i = 64 := by omega
    exact ⟨x, y, by simp only [inquestref06_And.l0]; rw [if_neg (by omega)], hB⟩
  | succ d ih =>
    intro k i u v hi hk hB
    obtain ⟨k, rfl⟩ : ∃ m, k = m + 2 := ⟨k - 2, by omega⟩
    have hfi := hf i (by omega)
    have hgi := hg i (by omega)
    have no : (mayB z o && mayB y p) = false → ∃ u' v' : Nat, inquestref06_And.j1 (k + 1) i false z o y p u v = some ((u' : Int), (v' : Int)) ∧ Built f g 64 u' v' := by
      intro hm
      simp only [inquestref06_And.j1]
      rw [if_neg (by simp), with_is _ hB.1 hB.2.1 (by omega), Option.bind_some, w64 (by omega)]
      refine ih k (i + 1) _ _ (by omega) (by omega) (hB.next (by omega) ?_ ?_)
      · rw [hfi, andR, hm]; simp [full_bit (show i < 64 by omega)]
      · rw [hgi, andR, hm]; simp
    simp only [inquestref06_And.l0]
    rw [if_pos (by omega), rmay_is hz ho _ (by omega), Option.bind_some]
    by_cases hm : mayB z o = true
    · rw [if_pos hm, rmay_is hy hp _ (by omega), Option.bind_some]
      by_cases hn : mayB y p = true
      · rw [hn]
        simp only [inquestref06_And.j1]
        have hor := (mayB_iff hz ho).1 hm i (by omega)
        have hor2 := (mayB_iff hy hp).1 hn i (by omega)
        rw [if_pos trivial, rat_is (by omega), Option.bind_some, rat_is (by omega), Option.bind_some, rAnd1_is _ _ _ (by omega), Option.bind_some, with_is _ hB.1 hB.2.1 (by omega), Option.bind_some, w64 (by omega)]
        refine ih k (i + 1) _ _ (by omega) (by omega) (hB.next (by omega) ?_ ?_)
        · rw [hfi, andR, hm, hn]
          cases h1 : z.testBit i <;> cases h2 : o.testBit i <;> cases h3 : y.testBit i <;> cases h4 : p.testBit i <;> simp [val, and1, h1, h2, h3, h4] at hor hor2 ⊢
        · rw [hgi, andR, hm, hn]
          cases h1 : z.testBit i <;> cases h2 : o.testBit i <;> cases h3 : y.testBit i <;> cases h4 : p.testBit i <;> simp [val, and1, h1, h2, h3, h4] at hor hor2 ⊢
      · have hn' : mayB y p = false := by simpa using hn
        rw [hn']
        exact no (by simp [hn'])
    · have hm' : mayB z o = false := by simpa using hm
      rw [if_neg hm]
      exact no (by simp [hm'])
theorem rAnd_is {z o y p : Nat} (hz : z < 2 ^ 64) (ho : o < 2 ^ 64) (hy : y < 2 ^ 64) (hp : p < 2 ^ 64) (k : Nat) (hk : 200 ≤ k) : inquestref06_And.f k z o y p = some ((((andR z o y p).1 : Nat) : Int), (((andR z o y p).2 : Nat) : Int)) := by
  obtain ⟨u, v, h, hB⟩ := rAnd_loop hz ho hy hp (fun j => (andR z o y p).1.testBit j) (fun j => (andR z o y p).2.testBit j) (fun _ _ => rfl) (fun _ _ => rfl) 64 k 0 0 0 (by omega) (by omega) (Built.start _ _)
  obtain ⟨rfl, rfl⟩ := hB.done (andR_lt hz ho hy).1 (andR_lt hz ho hy).2 (fun _ _ => rfl) (fun _ _ => rfl)
  exact h

/-! ### Within -/
def withinR (z o y p : Nat) : Nat := if mayB z o && mayB y p then 18446744073709551615 ^^^ ((z &&& (2 ^ 64 - (y + 1))) ||| (o &&& (2 ^ 64 - (p + 1)))) else 0
theorem withinR_lt {z o y p : Nat} (hz : z < 2 ^ 64) (ho : o < 2 ^ 64) : withinR z o y p < 2 ^ 64 := by
  unfold withinR; split
  · exact Nat.xor_lt_two_pow (by omega) (Nat.or_lt_two_pow (Nat.lt_of_le_of_lt Nat.and_le_left hz) (Nat.lt_of_le_of_lt Nat.and_le_left ho))
  · omega
theorem withinR_bit {z o y p : Nat} (hz : z < 2 ^ 64) (ho : o < 2 ^ 64) (hy : y < 2 ^ 64) (hp : p < 2 ^ 64) (i : Nat) (hi : i < 64) :
    (withinR z o y p).testBit i = (mayB z o && mayB y p && decide (val (y.testBit i) (p.testBit i) = 2 ∨ val (z.testBit i) (o.testBit i) = val (y.testBit i) (p.testBit i))) := by
  unfold withinR
  by_cases hm : (mayB z o && mayB y p) = true
  · have h1 := (mayB_iff hz ho).1 (by simp at hm; exact hm.1) i hi
    have h2 := (mayB_iff hy hp).1 (by simp at hm; exact hm.2) i hi
    rw [hm, if_pos rfl, Nat.testBit_xor, full_bit hi, Nat.testBit_or, Nat.testBit_and, Nat.testBit_and, Nat.testBit_two_pow_sub_succ hy, Nat.testBit_two_pow_sub_succ hp]
    cases e1 : z.testBit i <;> cases e2 : o.testBit i <;> cases e3 : y.testBit i <;> cases e4 : p.testBit i <;> simp [val, e1, e2, e3, e4, hi] at h1 h2 ⊢
  · have hm' : (mayB z o && mayB y p) = false := by simpa using hm
    rw [hm']; simp
theorem Within_is {z o y p : Nat} (hz : z < 2 ^ 64) (ho : o < 2 ^ 64) (hy : y < 2 ^ 64) (hp : p < 2 ^ 64) : tern_Within.f z o y p = some ((withinR z o y p : Nat) : Int) := by
  unfold tern_Within.f withinR
  rw [may_is hz ho, Option.bind_some]
  cases mayB z o
  · simp
  · rw [if_pos rfl, may_is hy hp, Option.bind_some]
    cases mayB y p
    · simp
    · rw [if_pos rfl, andNot_nat hz hy, andNot_nat ho hp, or_nat (Nat.lt_of_le_of_lt Nat.and_le_left hz) (Nat.lt_of_le_of_lt Nat.and_le_left ho), show (18446744073709551615 : Int) = ((18446744073709551615 : Nat) : Int) from rfl,
        u64_xor_nat _ _ (by omega) (by have := Nat.or_lt_two_pow (Nat.lt_of_le_of_lt (Nat.and_le_left (m := 2 ^ 64 - (y + 1))) hz) (Nat.lt_of_le_of_lt (Nat.and_le_left (m := 2 ^ 64 - (p + 1))) ho); omega)]
      simp
def UpTo (f : Nat → Bool) (i n : Nat) : Prop := n < 2 ^ i ∧ ∀ j, j < i → n.testBit j = f j
theorem UpTo.more {f : Nat → Bool} {i n : Nat} (h : UpTo f i n) (hi : i < 64) (hf : f i = true) : IntKind.u64.wrap ((n : Int) + shl .u64 1 (IntKind.u64.wrap (i : Int))) = ((n + 2 ^ i : Nat) : Int) ∧ UpTo f (i + 1) (n + 2 ^ i) := by
  have e : (2 : Nat) ^ (i + 1) ≤ 2 ^ 64 := Nat.pow_le_pow_right (by omega) (by omega)
  have e2 : n + 2 ^ i < 2 ^ (i + 1) := by have := h.1; rw [Nat.pow_succ]; omega
  constructor
  · rw [wu64 hi, shl_nat hi, ← Int.natCast_add, wrap_small (by omega)]
  · refine ⟨e2, fun j hj => ?_⟩
    rw [Nat.add_comm, ← Nat.mul_one (2 ^ i), Nat.two_pow_add_eq_or_of_lt h.1 1, Nat.mul_one, Nat.testBit_or, Nat.testBit_two_pow]
    by_cases c : i = j
    · subst c; simp [hf]
    · simp [c, h.2 j (by omega)]
theorem UpTo.less {f : Nat → Bool} {i n : Nat} (h : UpTo f i n) (hf : f i = false) : UpTo f (i + 1) n := by
  refine ⟨Nat.lt_of_lt_of_le h.1 (Nat.pow_le_pow_right (by omega) (by omega)), fun j hj => ?_⟩
  by_cases c : i = j
  · subst c; rw [hf]; exact Nat.testBit_lt_two_pow h.1
  · exact h.2 j (by omega)
theorem rWithin_loop {z o y p : Nat} (hz : z < 2 ^ 64) (ho : o < 2 ^ 64) (hy : y < 2 ^ 64) (hp : p < 2 ^ 64) (f : Nat → Bool) (hf : ∀ j, j < 64 → f j = (withinR z o y p).testBit j) :
    ∀ d k i n : Nat, i + d = 64 → d + 66 < k → UpTo f i n → ∃ n' : Nat, inquestref06_Within.l0 k n i z o y p = some (n' : Int) ∧ UpTo f 64 n' := by
  intro d
  induction d with
  | zero =>
    intro k i n hi hk hB
    obtain ⟨k, rfl⟩ : ∃ m, k = m + 1 := ⟨k - 1, by omega⟩
    obtain rfl : i = 64 := by omega
    exact ⟨n, by simp only [inquestref06_Within.l0]; rw [if_neg (by omega)], hB⟩
  | succ d ih =>
    intro k i n hi hk hB
    obtain ⟨k, rfl⟩ : ∃ m, k = m + 1 := ⟨k - 1, by omega⟩
    have hfi := hf i (by omega)
    rw [withinR_bit hz ho hy hp i (by omega)] at hfi
    simp only [inquestref06_Within.l0]
    rw [if_pos (by omega), rmay_is hz ho _ (by omega), Option.bind_some]
    by_cases hm : mayB z o = true
    · rw [if_pos hm, rmay_is hy hp _ (by omega), Option.bind_some]
      by_cases hn : mayB y p = true
      · rw [if_pos hn, rat_is (by omega), Option.bind_some]
        by_cases h2 : val (y.testBit i) (p.testBit i) = 2
        · have hs := hB.more (by omega) (by rw [hfi, hm, hn]; simp [h2])
          rw [if_pos h2, if_pos (by rw [wu64 (by omega)]; omega), hs.1, w64 (by omega)]
          exact ih k (i + 1) _ (by omega) (by omega) hs.2
        · rw [if_neg h2, rat_is (by omega), Option.bind_some, Option.bind_some]
          by_cases h3 : val (z.testBit i) (o.testBit i) = val (y.testBit i) (p.testBit i)
          · have hs := hB.more (by omega) (by rw [hfi, hm, hn]; simp [h3])
            rw [if_pos h3, if_pos (by rw [wu64 (by omega)]; omega), hs.1, w64 (by omega)]
            exact ih k (i + 1) _ (by omega) (by omega) hs.2
          · rw [if_neg h3, w64 (by omega)]
            exact ih k (i + 1) _ (by omega) (by omega) (hB.less (by rw [hfi]; simp [h2, h3]))
      · rw [if_neg hn, w64 (by omega)]
        exact ih k (i + 1) _ (by omega) (by omega) (hB.less (by rw [hfi]; simp [hn]))
    · rw [if_neg hm, w64 (by omega)]
      exact ih k (i + 1) _ (by omega) (by omega) (hB.less (by rw [hfi]; simp [hm]))
theorem rWithin_is {z o y p : Nat} (hz : z < 2 ^ 64) (ho : o < 2 ^ 64) (hy : y < 2 ^ 64) (hp : p < 2 ^ 64) (k : Nat) (hk : 200 ≤ k) : inquestref06_Within.f k z o y p = some ((withinR z o y p : Nat) : Int) := by
  obtain ⟨n, h, hB⟩ := rWithin_loop hz ho hy hp (fun j => (withinR z o y p).testBit j) (fun _ _ => rfl) 64 k 0 0 (by omega) (by omega) ⟨by omega, fun j h => by omega⟩
  have e : n = withinR z o y p := ext64 hB.1 (withinR_lt hz ho) hB.2
  subst e
  exact h

/-! ### Of, All -/
theorem of_loops (l : List Int) (hl : l.length ≤ 64) : ∀ d k k' i z o : Nat, i + d = l.length → d < k → d < k' → z < 2 ^ 64 → o < 2 ^ 64 →
    ∃ r, tern_Of.l0 k l (l.length : Int) i z o = some r ∧ inquestref06_Of.l1 k' l i z o = some r := by
  intro d
  induction d with
  | zero =>
    intro k k' i z o hi hk hk' hz ho
    obtain ⟨k, rfl⟩ : ∃ m, k = m + 1 := ⟨k - 1, by omega⟩
    obtain ⟨k', rfl⟩ : ∃ m, k' = m + 1 := ⟨k' - 1, by omega⟩
    exact ⟨(z, o, 0), by simp only [tern_Of.l0]; rw [if_neg (by omega)], by simp only [inquestref06_Of.l1]; rw [if_neg (by omega)]⟩
  | succ d ih =>
    intro k k' i z o hi hk hk' hz ho
    obtain ⟨k, rfl⟩ : ∃ m, k = m + 1 := ⟨k - 1, by omega⟩
    obtain ⟨k', rfl⟩ : ∃ m, k' = m + 1 := ⟨k' - 1, by omega⟩
    have a1 : (i : Int) < (l.length : Int) := by omega
    have a2 : 0 ≤ (i : Int) := by omega
    simp only [tern_Of.l0, inquestref06_Of.l1, if_pos a1, if_pos a2]
    by_cases h : rd l i > 2
    · exact ⟨(0, 0, 2), by rw [if_pos h], by rw [if_pos h]⟩
    · rw [if_neg h, if_neg h, put_is _ hz ho (by omega), with_is _ hz ho (by omega), Option.bind_some, Option.bind_some, w64 (by omega)]
      exact ih k k' (i + 1) _ _ (by omega) (by omega) (by omega) (setb_lt hz (by omega)) (setb_lt ho (by omega))
theorem zeros_loop (l : List Int) : ∀ d k i : Nat, i + d = 64 → d < k → inquestref06_Of.l0 k l i ((2 ^ i - 1 : Nat) : Int) 0 = if (l.length : Int) > 64 then some (0, 0, 2) else inquestref06_Of.l1 (k - d - 1) l 0 18446744073709551615 0 := by
  intro d
  induction d with
  | zero =>
    intro k i hi hk
    obtain ⟨k, rfl⟩ : ∃ m, k = m + 1 := ⟨k - 1, by omega⟩
    obtain rfl : i = 64 := by omega
    simp only [inquestref06_Of.l0]
    rw [if_neg (by omega)]
    rfl
  | succ d ih =>
    intro k i hi hk
    obtain ⟨k, rfl⟩ : ∃ m, k = m + 1 := ⟨k - 1, by omega⟩
    have hp := pow64 (show i < 64 by omega)
    have hp2 : (2 : Nat) ^ (i + 1) ≤ 2 ^ 64 := Nat.pow_le_pow_right (by omega) (by omega)
    simp only [inquestref06_Of.l0]
    have hw := with_is (z := 2 ^ i - 1) (o := 0) (i := i) 0 (by omega) (by omega) (by omega)
    have e1 : setb (2 ^ i - 1) i (decide ((0 : Int) ≠ 1)) = 2 ^ (i + 1) - 1 := by
      apply ext64 (setb_lt (by omega) (by omega)) (by omega)
      intro j hj
      rw [setb_bit (by omega) j hj, Nat.testBit_two_pow_sub_one, Nat.testBit_two_pow_sub_one]
      by_cases e : i = j
      · subst e; simp
      · simp [e]; omega
    have e2 : setb 0 i (decide ((0 : Int) ≠ 0)) = 0 := by simp [setb]
    rw [e1, e2] at hw
    rw [if_pos (by omega), show (0 : Int) = ((0 : Nat) : Int) from rfl, show ((0 : Nat) : Int) = 0 from rfl]
    have hw' : inquestref06_with.f ((2 ^ i - 1 : Nat) : Int) 0 (i : Int) 0 = some (((2 ^ (i + 1) - 1 : Nat) : Int), 0) := hw
    rw [hw', Option.bind_some, w64 (by omega)]
    have := ih k (i + 1) (by omega) (by omega)
    rw [this, show k + 1 - (d + 1) - 1 = k - d - 1 by omega]
theorem Of_is (l : List Int) (k k' : Nat) (hk : 200 ≤ k) (hk' : 200 ≤ k') : ∃ r, tern_Of.f k l = some r ∧ inquestref06_Of.f k' l = some r := by
  have hz := zeros_loop l 64 k' 0 (by omega) (by omega)
  unfold tern_Of.f inquestref06_Of.f
  rw [show tern_nothing.f = some (18446744073709551615, 0) from rfl, Option.bind_some]
  by_cases h : (l.length : Int) > 64
  · refine ⟨(0, 0, 2), by rw [if_pos h], ?_⟩
    rw [if_pos h] at hz
    exact hz
  · rw [if_neg h] at hz ⊢
    obtain ⟨r, h1, h2⟩ := of_loops l (by omega) l.length k (k' - 64 - 1) 0 18446744073709551615 0 (by omega) (by omega) (by omega) (by omega) (by omega)
    exact ⟨r, h1, hz.trans h2⟩
def allR (v : Int) : Int × Int × Int := if v = 0 then (18446744073709551615, 0, 0) else if v = 1 then (0, 18446744073709551615, 0) else if v = 2 then (18446744073709551615, 18446744073709551615, 0) else (0, 0, 2)
theorem All_is (v : Int) : tern_All.f v = some (allR v) := by
  unfold tern_All.f allR
  by_cases h0 : v = 0
  · rw [if_pos h0, if_pos h0]; rfl
  · rw [if_neg h0, if_neg h0]
    by_cases h1 : v = 1
    · rw [if_pos h1, if_pos h1]
    · rw [if_neg h1, if_neg h1]
      by_cases h2 : v = 2
      · rw [if_pos h2, if_pos h2]
      · rw [if_neg h2, if_neg h2]
theorem rd_rep (v : Int) (n i : Nat) (h : i < n) : rd (List.replicate n v) i = v := by
  unfold rd
  rw [Int.toNat_natCast, List.getD_eq_getElem?_getD, List.getElem?_replicate, if_pos h]
  rfl
theorem same_loop (v : Int) (h2 : v ≤ 2) : ∀ d k i z o : Nat, i + d = 64 → d < k → z < 2 ^ 64 → o < 2 ^ 64 →
    (∀ j, j < i → z.testBit j = decide (v ≠ 1) ∧ o.testBit j = decide (v ≠ 0)) →
    ∃ z' o' : Nat, inquestref06_Of.l1 k (List.replicate 64 v) i z o = some ((z' : Int), (o' : Int), 0) ∧ Built (fun _ => decide (v ≠ 1)) (fun _ => decide (v ≠ 0)) 64 z' o' := by
  intro d
  induction d with
  | zero =>
    intro k i z o hi hk hz ho hb
    obtain ⟨k, rfl⟩ : ∃ m, k = m + 1 := ⟨k - 1, by omega⟩
    obtain rfl : i = 64 := by omega
    refine ⟨z, o, ?_, hz, ho, fun j hj => hb j hj⟩
    simp only [inquestref06_Of.l1]
    rw [if_neg (by simp)]
  | succ d ih =>
    intro k i z o hi hk hz ho hb
    obtain ⟨k, rfl⟩ : ∃ m, k = m + 1 := ⟨k - 1, by omega⟩
    simp only [inquestref06_Of.l1]
    rw [if_pos (by simp; omega), if_pos (by omega), rd_rep v 64 i (by omega), if_neg (by omega), with_is _ hz ho (by omega), Option.bind_some, w64 (by omega)]
    have hN := Built.next (f := fun _ => decide (v ≠ 1)) (g := fun _ => decide (v ≠ 0)) ⟨hz, ho, hb⟩ (show i < 64 by omega) (b := decide (v ≠ 1)) (c := decide (v ≠ 0)) rfl rfl
    exact ih k (i + 1) _ _ (by omega) (by omega) hN.1 hN.2.1 hN.2.2
theorem rAll_list (v : Int) : ∀ d k i : Nat, i + d = 64 → d < k → inquestref06_All.l0 k v (List.replicate i v) i = (inquestref06_Of.f (k - d - 1) (List.replicate 64 v)).bind fun b => some (b.1, b.2.1, b.2.2) := by
  intro d
  induction d with
  | zero =>
    intro k i hi hk
    obtain ⟨k, rfl⟩ : ∃ m, k = m + 1 := ⟨k - 1, by omega⟩
    obtain rfl : i = 64 := by omega
    simp only [inquestref06_All.l0]
    rw [if_neg (by omega)]
    rfl
  | succ d ih =>
    intro k i hi hk
    obtain ⟨k, rfl⟩ : ∃ m, k = m + 1 := ⟨k - 1, by omega⟩
    simp only [inquestref06_All.l0]
    rw [if_pos (by omega), if_pos (by rw [List.length_replicate]; omega), ← List.replicate_succ', w64 (by omega), ih k (i + 1) (by omega) (by omega), show k + 1 - (d + 1) - 1 = k - d - 1 by omega]
theorem rAll_is (v : Int) (h0 : 0 ≤ v) (k : Nat) (hk : 400 ≤ k) : inquestref06_All.f k v = some (allR v) := by
  have h := rAll_list v 64 k 0 (by omega) (by omega)
  have hz := zeros_loop (List.replicate 64 v) 64 (k - 64 - 1) 0 (by omega) (by omega)
  rw [if_neg (by rw [List.length_replicate]; omega)] at hz
  unfold inquestref06_All.f
  refine h.trans ?_
  unfold inquestref06_Of.f
  have hz' : inquestref06_Of.l0 (k - 64 - 1) (List.replicate 64 v) 0 0 0 = inquestref06_Of.l1 (k - 64 - 1 - 64 - 1) (List.replicate 64 v) 0 18446744073709551615 0 := hz
  rw [hz']
  by_cases h2 : v ≤ 2
  · obtain ⟨z, o, h3, hB⟩ := same_loop v h2 64 (k - 64 - 1 - 64 - 1) 0 18446744073709551615 0 (by omega) (by omega) (by omega) (by omega) (fun j hj => by omega)
    have h3' : inquestref06_Of.l1 (k - 64 - 1 - 64 - 1) (List.replicate 64 v) 0 18446744073709551615 0 = some ((z : Int), (o : Int), 0) := h3
    rw [h3', Option.bind_some]
    rcases (show v = 0 ∨ v = 1 ∨ v = 2 by omega) with rfl | rfl | rfl
    · obtain ⟨rfl, rfl⟩ := hB.done (a := 18446744073709551615) (b := 0) (by omega) (by omega) (fun j hj => by simp [full_bit hj]) (fun j hj => by simp)
      rfl
    · obtain ⟨rfl, rfl⟩ := hB.done (a := 0) (b := 18446744073709551615) (by omega) (by omega) (fun j hj => by simp) (fun j hj => by simp [full_bit hj])
      rfl
    · obtain ⟨rfl, rfl⟩ := hB.done (a := 18446744073709551615) (b := 18446744073709551615) (by omega) (by omega) (fun j hj => by simp [full_bit hj]) (fun j hj => by simp [full_bit hj])
      rfl
  · obtain ⟨m, hm⟩ : ∃ m, k - 64 - 1 - 64 - 1 = m + 1 := ⟨k - 64 - 1 - 64 - 1 - 1, by omega⟩
    have hr := rd_rep v 64 0 (by omega)
    rw [hm]
    simp only [inquestref06_Of.l1]
    rw [if_pos (by simp), if_pos (by omega), if_pos (by rw [show ((0 : Int)) = ((0 : Nat) : Int) from rfl, hr]; omega), Option.bind_some, allR, if_neg (by omega), if_neg (by omega), if_neg (by omega)]
end Go.Proofs.Ythpnooookkpkaaa.T
namespace Go.Proofs.Ythpnooookkpkaaa.F
open Go.RowKit Go.Proofs.YthpnooookkpkaaaW.PrintWords Go.Proofs.YthpnooookkpkaaaW.PrintLast Go.Proofs.YthpnooookkpkaaaW.PrintMore
attribute [local go_sem] max2_int min2_int max_two min_two max_three min_three max_four min_four
theorem at_v {z o : Nat} (i : Int) (hz : z < 2 ^ 64) (ho : o < 2 ^ 64) (hm : T.mayB z o = true) (h0 : 0 ≤ i) (h1 : i < 64) (v : Int) (hv : T.val (z.testBit i.toNat) (o.testBit i.toNat) = v) (W : World) :
    Calls Try.prog 16 #[.agg #[.int .u64 z, .int .u64 o], .int .i64 i] W fun e w' => e = .returned (.tuple #[.int .u8 v, .bool true]) ∧ Below W.heap.size W w' :=
  tern_At.calls z o i _ _ W (by rw [T.at_is i hz ho, if_pos ⟨hm, h0, h1⟩, hv])
set_option maxHeartbeats 400000 in
theorem row06 (z o : Nat) (hz : z < 2 ^ 64) (ho : o < 2 ^ 64) (hm : T.mayB z o = true) (w : World) :
    Calls Try.prog 50 #[.agg #[.int .u64 z, .int .u64 o]] w fun e w' => e = .returned (.agg #[.int .u8 (T.val (z.testBit 0) (o.testBit 0)), .int .u8 (T.val (z.testBit 1) (o.testBit 1)), .int .u8 (T.val (z.testBit 2) (o.testBit 2))]) ∧ Below w.heap.size w w' := by
  have H := Aside0.mk hm
  clear hm
  generalize hv0 : T.val (z.testBit 0) (o.testBit 0) = x0
  generalize hv1 : T.val (z.testBit 1) (o.testBit 1) = x1
  generalize hv2 : T.val (z.testBit 2) (o.testBit 2) = x2
  have H0 := Aside0.mk hv0
  have H1 := Aside0.mk hv1
  have H2 := Aside0.mk hv2
  clear hv0 hv1 hv2
  go_enter Try.func50, Try.ntmps50
  go_wp2_with fail
  refine wp_loop_rounds 4 ?_
  rw [rounds_succ]
  go_wp2_with fail
  refine (at_v 0 hz ho H.out (by omega) (by omega) x0 H0.out _).mono ?_
  rintro e w1 ⟨rfl, hb⟩
  have HB1 : Below w.heap.size w w1 := below_step (by repeat (first | exact Below.refl _ _ | apply below_alloc | refine Below.setCell ?_ (by show w.heap.size ≤ w.heap.size + 1 + 1; omega) _)) hb
  have p0_1 : w1.cell? ⟨w.heap.size, 0, none⟩ = some (.int .u64 z) := pw_cell_below hb (by go_simp)
  have p1_1 : w1.cell? ⟨w.heap.size, 1, none⟩ = some (.int .u64 o) := pw_cell_below hb (by go_simp)
  have d0_1 : w1.cell? ⟨w.heap.size + 1 + 1, 0, none⟩ = some (.int .u8 0) := pw_cell_below hb (by go_simp)
  have d1_1 : w1.cell? ⟨w.heap.size + 1 + 1, 1, none⟩ = some (.int .u8 0) := pw_cell_below hb (by go_simp)
  have d2_1 : w1.cell? ⟨w.heap.size + 1 + 1, 2, none⟩ = some (.int .u8 0) := pw_cell_below hb (by go_simp)
  have g0_1 : w1.cell? ⟨w.heap.size + 1, 0, none⟩ = some (.int .u8 0) := pw_cell_below hb (by go_simp)
  have g1_1 : w1.cell? ⟨w.heap.size + 1, 1, none⟩ = some (.int .u8 0) := pw_cell_below hb (by go_simp)
  have g2_1 : w1.cell? ⟨w.heap.size + 1, 2, none⟩ = some (.int .u8 0) := pw_cell_below hb (by go_simp)
  have s2_1 : w.heap.size + 1 + 1 < w1.heap.size := World.block_lt_of_cell? _ _ d0_1
  have s1_1 : w.heap.size + 1 < w1.heap.size := World.block_lt_of_cell? _ _ g0_1
  have f0_1 : w1.frozen? ⟨w.heap.size + 1 + 1, 0, none⟩ = false := (hb.frozen (p := ⟨_, _, none⟩) (by go_simp)).trans (by go_simp)
  have f1_1 : w1.frozen? ⟨w.heap.size + 1 + 1, 1, none⟩ = false := (hb.frozen (p := ⟨_, _, none⟩) (by go_simp)).trans (by go_simp)
  have f2_1 : w1.frozen? ⟨w.heap.size + 1 + 1, 2, none⟩ = false := (hb.frozen (p := ⟨_, _, none⟩) (by go_simp)).trans (by go_simp)
  have e0_1 : w1.frozen? ⟨w.heap.size + 1, 0, none⟩ = false := (hb.frozen (p := ⟨_, _, none⟩) (by go_simp)).trans (by go_simp)
  have e1_1 : w1.frozen? ⟨w.heap.size + 1, 1, none⟩ = false := (hb.frozen (p := ⟨_, _, none⟩) (by go_simp)).trans (by go_simp)
  have e2_1 : w1.frozen? ⟨w.heap.size + 1, 2, none⟩ = false := (hb.frozen (p := ⟨_, _, none⟩) (by go_simp)).trans (by go_simp)
  clear hb
  go_wp2_with fail
  rw [rounds_succ]
  go_wp2_with fail
  refine (at_v 1 hz ho H.out (by omega) (by omega) x1 H1.out _).mono ?_
  rintro e w2 ⟨rfl, hb⟩
  have HB2 : Below w.heap.size w w2 := below_step (by repeat (first | exact HB1 | apply below_alloc | refine Below.setCell ?_ (by show w.heap.size ≤ w.heap.size + 1 + 1; omega) _)) hb
  have p0_2 : w2.cell? ⟨w.heap.size, 0, none⟩ = some (.int .u64 z) := pw_cell_below hb (by go_simp)
  have p1_2 : w2.cell? ⟨w.heap.size, 1, none⟩ = some (.int .u64 o) := pw_cell_below hb (by go_simp)
  have d0_2 : w2.cell? ⟨w.heap.size + 1 + 1, 0, none⟩ = some (.int .u8 x0) := pw_cell_below hb (by go_simp)
  have d1_2 : w2.cell? ⟨w.heap.size + 1 + 1, 1, none⟩ = some (.int .u8 0) := pw_cell_below hb (by go_simp)
  have d2_2 : w2.cell? ⟨w.heap.size + 1 + 1, 2, none⟩ = some (.int .u8 0) := pw_cell_below hb (by go_simp)
  have g0_2 : w2.cell? ⟨w.heap.size + 1, 0, none⟩ = some (.int .u8 0) := pw_cell_below hb (by go_simp)
  have g1_2 : w2.cell? ⟨w.heap.size + 1, 1, none⟩ = some (.int .u8 0) := pw_cell_below hb (by go_simp)
  have g2_2 : w2.cell? ⟨w.heap.size + 1, 2, none⟩ = some (.int .u8 0) := pw_cell_below hb (by go_simp)
  have s2_2 : w.heap.size + 1 + 1 < w2.heap.size := World.block_lt_of_cell? _ _ d0_2
  have s1_2 : w.heap.size + 1 < w2.heap.size := World.block_lt_of_cell? _ _ g0_2
  have f0_2 : w2.frozen? ⟨w.heap.size + 1 + 1, 0, none⟩ = false := (hb.frozen (p := ⟨_, _, none⟩) (by go_simp)).trans (by go_simp)
  have f1_2 : w2.frozen? ⟨w.heap.size + 1 + 1, 1, none⟩ = false := (hb.frozen (p := ⟨_, _, none⟩) (by go_simp)).trans (by go_simp)
  have f2_2 : w2.frozen? ⟨w.heap.size + 1 + 1, 2, none⟩ = false := (hb.frozen (p := ⟨_, _, none⟩) (by go_simp)).trans (by go_simp)
  have e0_2 : w2.frozen? ⟨w.heap.size + 1, 0, none⟩ = false := (hb.frozen (p := ⟨_, _, none⟩) (by go_simp)).trans (by go_simp)
  have e1_2 : w2.frozen? ⟨w.heap.size + 1, 1, none⟩ = false := (hb.frozen (p := ⟨_, _, none⟩) (by go_simp)).trans (by go_simp)
  have e2_2 : w2.frozen? ⟨w.heap.size + 1, 2, none⟩ = false := (hb.frozen (p := ⟨_, _, none⟩) (by go_simp)).trans (by go_simp)
  clear p0_1 p1_1 s1_1 s2_1 d0_1 d1_1 d2_1 g0_1 g1_1 g2_1 f0_1 f1_1 f2_1 e0_1 e1_1 e2_1
  clear hb
  go_wp2_with fail
  rw [rounds_succ]
  go_wp2_with fail
  refine (at_v 2 hz ho H.out (by omega) (by omega) x2 H2.out _).mono ?_
  rintro e w3 ⟨rfl, hb⟩
  have HB3 : Below w.heap.size w w3 := below_step (by repeat (first | exact HB2 | apply below_alloc | refine Below.setCell ?_ (by show w.heap.size ≤ w.heap.size + 1 + 1; omega) _)) hb
  have p0_3 : w3.cell? ⟨w.heap.size, 0, none⟩ = some (.int .u64 z) := pw_cell_below hb (by go_simp)
  have p1_3 : w3.cell? ⟨w.heap.size, 1, none⟩ = some (.int .u64 o) := pw_cell_below hb (by go_simp)
  have d0_3 : w3.cell? ⟨w.heap.size + 1 + 1, 0, none⟩ = some (.int .u8 x0) := pw_cell_below hb (by go_simp)
  have d1_3 : w3.cell? ⟨w.heap.size + 1 + 1, 1, none⟩ = some (.int .u8 x1) := pw_cell_below hb (by go_simp)
  have d2_3 : w3.cell? ⟨w.heap.size + 1 + 1, 2, none⟩ = some (.int .u8 0) := pw_cell_below hb (by go_simp)
  have g0_3 : w3.cell? ⟨w.heap.size + 1, 0, none⟩ = some (.int .u8 0) := pw_cell_below hb (by go_simp)
  have g1_3 : w3.cell? ⟨w.heap.size + 1, 1, none⟩ = some (.int .u8 0) := pw_cell_below hb (by go_simp)
  have g2_3 : w3.cell? ⟨w.heap.size + 1, 2, none⟩ = some (.int .u8 0) := pw_cell_below hb (by go_simp)
  have s2_3 : w.heap.size + 1 + 1 < w3.heap.size := World.block_lt_of_cell? _ _ d0_3
  have s1_3 : w.heap.size + 1 < w3.heap.size := World.block_lt_of_cell? _ _ g0_3
  have f0_3 : w3.frozen? ⟨w.heap.size + 1 + 1, 0, none⟩ = false := (hb.frozen (p := ⟨_, _, none⟩) (by go_simp)).trans (by go_simp)
  have f1_3 : w3.frozen? ⟨w.heap.size + 1 + 1, 1, none⟩ = false := (hb.frozen (p := ⟨_, _, none⟩) (by go_simp)).trans (by go_simp)
  have f2_3 : w3.frozen? ⟨w.heap.size + 1 + 1, 2, none⟩ = false := (hb.frozen (p := ⟨_, _, none⟩) (by go_simp)).trans (by go_simp)
  have e0_3 : w3.frozen? ⟨w.heap.size + 1, 0, none⟩ = false := (hb.frozen (p := ⟨_, _, none⟩) (by go_simp)).trans (by go_simp)
  have e1_3 : w3.frozen? ⟨w.heap.size + 1, 1, none⟩ = false := (hb.frozen (p := ⟨_, _, none⟩) (by go_simp)).trans (by go_simp)
  have e2_3 : w3.frozen? ⟨w.heap.size + 1, 2, none⟩ = false := (hb.frozen (p := ⟨_, _, none⟩) (by go_simp)).trans (by go_simp)
  clear p0_2 p1_2 s1_2 s2_2 d0_2 d1_2 d2_2 g0_2 g1_2 g2_2 f0_2 f1_2 f2_2 e0_2 e1_2 e2_2
  clear hb
  go_wp2_with fail
  rw [rounds_succ]
  go_wp2_with fail
  exact bodyPost_ret (v := .agg #[.int .u8 x0, .int .u8 x1, .int .u8 x2]) (by simp [results, Try.results50, go_sem, *]) rfl ⟨rfl, by repeat (first | exact HB3 | refine Below.setCell ?_ (by show w.heap.size ≤ w.heap.size + 1 + 1; omega) _ | refine Below.setCell ?_ (by show w.heap.size ≤ w.heap.size + 1; omega) _)⟩
theorem of012 (W : World) (b : Nat) (h0 : W.cell? ⟨b, 0, none⟩ = some (.int .u8 0)) (h1 : W.cell? ⟨b, 1, none⟩ = some (.int .u8 1)) (h2 : W.cell? ⟨b, 2, none⟩ = some (.int .u8 2)) :
    Calls Try.prog 17 #[.slice (some ⟨b, 0, none⟩) 3 3] W fun e w' => e = .returned (.tuple #[.agg #[.int .u64 18446744073709551613, .int .u64 6], .int .i64 0]) ∧ Below W.heap.size W w' :=
  tern_Of.calls 10 (some ⟨b, 0, none⟩) 3 [0, 1, 2] _ _ _ W (Kd.C_of_reads (d := (0 : Int)) (h1 := fun _ => rfl) ⟨rfl, by simp, fun _ => ⟨_, rfl, fun j hj => by
    rcases (show j = 0 ∨ j = 1 ∨ j = 2 by simp at hj; omega) with rfl | rfl | rfl
    · exact h0
    · exact h1
    · exact h2⟩⟩) (by simp) (by decide +kernel)
theorem all_c (v a b c : Int) (W : World) (h : T.allR v = (a, b, c)) : Calls Try.prog 19 #[.int .u8 v] W fun e w' => e = .returned (.tuple #[.agg #[.int .u64 a, .int .u64 b], .int .i64 c]) ∧ Below W.heap.size W w' :=
  tern_All.calls v a b c W (by rw [T.All_is, h])
theorem at_k (z o i v : Int) (r : Bool) (W : World) (h : tern_At.f z o i = some (v, r)) :
    Calls Try.prog 16 #[.agg #[.int .u64 z, .int .u64 o], .int .i64 i] W fun e w' => e = .returned (.tuple #[.int .u8 v, .bool r]) ∧ Below W.heap.size W w' := tern_At.calls z o i v r W h
theorem and_k (z o y p a b : Int) (W : World) (h : tern_And.f z o y p = some (a, b)) :
    Calls Try.prog 15 #[.agg #[.int .u64 z, .int .u64 o], .agg #[.int .u64 y, .int .u64 p]] W fun e w' => e = .returned (.agg #[.int .u64 a, .int .u64 b]) ∧ Below W.heap.size W w' := tern_And.calls z o y p a b W h
theorem not_k (z o a b : Int) (W : World) (h : tern_Not.f z o = some (a, b)) :
    Calls Try.prog 14 #[.agg #[.int .u64 z, .int .u64 o]] W fun e w' => e = .returned (.agg #[.int .u64 a, .int .u64 b]) ∧ Below W.heap.size W w' := tern_Not.calls z o a b W h
theorem within_k (z o y p a : Int) (W : World) (h : tern_Within.f z o y p = some a) :
    Calls Try.prog 13 #[.agg #[.int .u64 z, .int .u64 o], .agg #[.int .u64 y, .int .u64 p]] W fun e w' => e = .returned (.int .u64 a) ∧ Below W.heap.size W w' := tern_Within.calls z o y p a W h
theorem and1_k (v u a : Int) (W : World) (h : tern_And1.f 10 v u = some a) :
    Calls Try.prog 30 #[.int .u8 v, .int .u8 u] W fun e w' => e = .returned (.int .u8 a) ∧ Below W.heap.size W w' :=
  (tern_And1.calls 10 v u a W h).mono fun _ _ ⟨h1, h2⟩ => ⟨h1, h2.below⟩
theorem row_k (z o : Nat) (a b c : Int) (W : World) (ha : T.val (z.testBit 0) (o.testBit 0) = a) (hb : T.val (z.testBit 1) (o.testBit 1) = b) (hc : T.val (z.testBit 2) (o.testBit 2) = c) (hz : z < 2 ^ 64) (ho : o < 2 ^ 64) (hm : T.mayB z o = true) :
    Calls Try.prog 50 #[.agg #[.int .u64 (z : Int), .int .u64 (o : Int)]] W fun e w' => e = .returned (.agg #[.int .u8 a, .int .u8 b, .int .u8 c]) ∧ Below W.heap.size W w' := by
  subst ha hb hc
  exact row06 z o hz ho hm W
set_option maxHeartbeats 1000000 in
set_option maxRecDepth 100000 in
theorem lives06 (w : World) :
    Calls Try.prog 12 #[] w fun e w' => e = .returned (.bool true) ∧ Below w.heap.size w w' := by
  have eqa : ∀ W, (Op.equalIn 10000 72 (.agg #[.int .u8 0, .int .u8 2, .int .u8 2]) (.agg #[.int .u8 0, .int .u8 2, .int .u8 2])).run Try.prog W = .ok true W := fun W => by kernel_rfl
  have eqb : ∀ W, (Op.equalIn 10000 72 (.agg #[.int .u8 1, .int .u8 0, .int .u8 2]) (.agg #[.int .u8 1, .int .u8 0, .int .u8 2])).run Try.prog W = .ok true W := fun W => by kernel_rfl
  go_enter Try.func12, Try.ntmps12
  go_wp2_with fail
  refine (of012 _ _ (by go_simp) (by go_simp) (by go_simp)).mono ?_
  rintro e w1 ⟨rfl, hb⟩
  have HB1 : Below w.heap.size w w1 := below_step (by repeat (first | exact Below.refl _ _ | apply below_alloc | apply below_drew1 | apply pw_below_drewN | refine Below.setCell ?_ (by show w.heap.size ≤ w.heap.size; omega) _)) hb
  have cL_0_1 : w1.cell? ⟨w.heap.size, 0, none⟩ = some (.int .u8 0) := pw_cell_below hb (by go_simp)
  have cL_1_1 : w1.cell? ⟨w.heap.size, 1, none⟩ = some (.int .u8 1) := pw_cell_below hb (by go_simp)
  have cL_2_1 : w1.cell? ⟨w.heap.size, 2, none⟩ = some (.int .u8 2) := pw_cell_below hb (by go_simp)
  have sL_1 : w.heap.size < w1.heap.size := World.block_lt_of_cell? _ _ cL_0_1
  clear hb
  go_wp2_with fail
  refine (all_c 2 _ _ _ _ rfl).mono ?_
  rintro e w2 ⟨rfl, hb⟩
  have HB2 : Below w.heap.size w w2 := below_step (by repeat (first | exact HB1 | (refine Below.alloc ?_ (by first | exact Nat.le_refl _ | (have := HB1.size; simp; omega) | (simp; omega)) _) | apply below_alloc | apply below_drew1 | apply pw_below_drewN | refine Below.setCell ?_ (by show w.heap.size ≤ w1.heap.size; omega) _)) hb
  have cW_0_2 : w2.cell? ⟨w1.heap.size, 0, none⟩ = some (.int .u64 18446744073709551613) := pw_cell_below hb (by go_simp)
  have cW_1_2 : w2.cell? ⟨w1.heap.size, 1, none⟩ = some (.int .u64 6) := pw_cell_below hb (by go_simp)
  have sW_2 : w1.heap.size < w2.heap.size := World.block_lt_of_cell? _ _ cW_0_2
  clear hb cL_0_1 cL_1_1 cL_2_1 sL_1
  go_wp2_with fail
  refine (all_c 0 _ _ _ _ rfl).mono ?_
  rintro e w3 ⟨rfl, hb⟩
  have HB3 : Below w.heap.size w w3 := below_step (by repeat (first | exact HB2 | (refine Below.alloc ?_ (by first | exact Nat.le_refl _ | (have := HB2.size; simp; omega) | (simp; omega)) _) | apply below_alloc | apply below_drew1 | apply pw_below_drewN | refine Below.setCell ?_ (by show w.heap.size ≤ w1.heap.size; omega) _ | refine Below.setCell ?_ (by show w.heap.size ≤ w2.heap.size; omega) _)) hb
  have cW_0_3 : w3.cell? ⟨w1.heap.size, 0, none⟩ = some (.int .u64 18446744073709551613) := pw_cell_below hb (by go_simp)
  have cW_1_3 : w3.cell? ⟨w1.heap.size, 1, none⟩ = some (.int .u64 6) := pw_cell_below hb (by go_simp)
  have sW_3 : w1.heap.size < w3.heap.size := World.block_lt_of_cell? _ _ cW_0_3
  have cX_0_3 : w3.cell? ⟨w2.heap.size, 0, none⟩ = some (.int .u64 18446744073709551615) := pw_cell_below hb (by go_simp)
  have cX_1_3 : w3.cell? ⟨w2.heap.size, 1, none⟩ = some (.int .u64 18446744073709551615) := pw_cell_below hb (by go_simp)
  have sX_3 : w2.heap.size < w3.heap.size := World.block_lt_of_cell? _ _ cX_0_3
  clear hb cW_0_2 cW_1_2 sW_2
  have q1 : (bits .and .u64 18446744073709551613 7 != 5) = false := by decide +kernel
  have q2 : (bits .and .u64 6 7 != 6) = false := by decide +kernel
  have q3 : bits .and .u64 18446744073709551613 7 = 5 := by decide +kernel
  have q4 : bits .and .u64 6 7 = 6 := by decide +kernel
  go_wp2_with fail
  refine (at_k 18446744073709551613 6 2 2 true _ (by decide +kernel)).mono ?_
  rintro e w4 ⟨rfl, hb⟩
  have HB4 : Below w.heap.size w w4 := below_step (by repeat (first | exact HB3 | (refine Below.alloc ?_ (by first | exact Nat.le_refl _ | (have := HB3.size; simp; omega) | (simp; omega)) _) | apply below_alloc | apply below_drew1 | apply pw_below_drewN | refine Below.setCell ?_ (by show w.heap.size ≤ w1.heap.size; omega) _ | refine Below.setCell ?_ (by show w.heap.size ≤ w2.heap.size; omega) _ | refine Below.setCell ?_ (by show w.heap.size ≤ w3.heap.size; omega) _)) hb
  have cW_0_4 : w4.cell? ⟨w1.heap.size, 0, none⟩ = some (.int .u64 18446744073709551613) := pw_cell_below hb (by go_simp)
  have cW_1_4 : w4.cell? ⟨w1.heap.size, 1, none⟩ = some (.int .u64 6) := pw_cell_below hb (by go_simp)
  have sW_4 : w1.heap.size < w4.heap.size := World.block_lt_of_cell? _ _ cW_0_4
  have cX_0_4 : w4.cell? ⟨w2.heap.size, 0, none⟩ = some (.int .u64 18446744073709551615) := pw_cell_below hb (by go_simp)
  have cX_1_4 : w4.cell? ⟨w2.heap.size, 1, none⟩ = some (.int .u64 18446744073709551615) := pw_cell_below hb (by go_simp)
  have sX_4 : w2.heap.size < w4.heap.size := World.block_lt_of_cell? _ _ cX_0_4
  have cZ_0_4 : w4.cell? ⟨w3.heap.size, 0, none⟩ = some (.int .u64 18446744073709551615) := pw_cell_below hb (by go_simp)
  have cZ_1_4 : w4.cell? ⟨w3.heap.size, 1, none⟩ = some (.int .u64 0) := pw_cell_below hb (by go_simp)
  have sZ_4 : w3.heap.size < w4.heap.size := World.block_lt_of_cell? _ _ cZ_0_4
  clear hb cW_0_3 cW_1_3 sW_3 cX_0_3 cX_1_3 sX_3
  go_wp2_with fail
  refine (at_k 0 0 0 0 false _ (by decide +kernel)).mono ?_
  rintro e w5 ⟨rfl, hb⟩
  have HB5 : Below w.heap.size w w5 := below_step (by repeat (first | exact HB4 | (refine Below.alloc ?_ (by first | exact Nat.le_refl _ | (have := HB4.size; simp; omega) | (simp; omega)) _) | apply below_alloc | apply below_drew1 | apply pw_below_drewN | refine Below.setCell ?_ (by show w.heap.size ≤ w1.heap.size; omega) _ | refine Below.setCell ?_ (by show w.heap.size ≤ w2.heap.size; omega) _ | refine Below.setCell ?_ (by show w.heap.size ≤ w3.heap.size; omega) _)) hb
  have cW_0_5 : w5.cell? ⟨w1.heap.size, 0, none⟩ = some (.int .u64 18446744073709551613) := pw_cell_below hb (by go_simp)
  have cW_1_5 : w5.cell? ⟨w1.heap.size, 1, none⟩ = some (.int .u64 6) := pw_cell_below hb (by go_simp)
  have sW_5 : w1.heap.size < w5.heap.size := World.block_lt_of_cell? _ _ cW_0_5
  have cX_0_5 : w5.cell? ⟨w2.heap.size, 0, none⟩ = some (.int .u64 18446744073709551615) := pw_cell_below hb (by go_simp)
  have cX_1_5 : w5.cell? ⟨w2.heap.size, 1, none⟩ = some (.int .u64 18446744073709551615) := pw_cell_below hb (by go_simp)
  have sX_5 : w2.heap.size < w5.heap.size := World.block_lt_of_cell? _ _ cX_0_5
  have cZ_0_5 : w5.cell? ⟨w3.heap.size, 0, none⟩ = some (.int .u64 18446744073709551615) := pw_cell_below hb (by go_simp)
  have cZ_1_5 : w5.cell? ⟨w3.heap.size, 1, none⟩ = some (.int .u64 0) := pw_cell_below hb (by go_simp)
  have sZ_5 : w3.heap.size < w5.heap.size := World.block_lt_of_cell? _ _ cZ_0_5
  clear hb cW_0_4 cW_1_4 sW_4 cX_0_4 cX_1_4 sX_4 cZ_0_4 cZ_1_4 sZ_4
  go_wp2_with fail
  refine (and_k 18446744073709551613 6 18446744073709551615 18446744073709551615 18446744073709551615 6 _ (by decide +kernel)).mono ?_
  rintro e w6 ⟨rfl, hb⟩
  have HB6 : Below w.heap.size w w6 := below_step (by repeat (first | exact HB5 | (refine Below.alloc ?_ (by first | exact Nat.le_refl _ | (have := HB5.size; simp; omega) | (simp; omega)) _) | apply below_alloc | apply below_drew1 | apply pw_below_drewN | refine Below.setCell ?_ (by show w.heap.size ≤ w1.heap.size; omega) _ | refine Below.setCell ?_ (by show w.heap.size ≤ w2.heap.size; omega) _ | refine Below.setCell ?_ (by show w.heap.size ≤ w3.heap.size; omega) _)) hb
  have cW_0_6 : w6.cell? ⟨w1.heap.size, 0, none⟩ = some (.int .u64 18446744073709551613) := pw_cell_below hb (by go_simp)
  have cW_1_6 : w6.cell? ⟨w1.heap.size, 1, none⟩ = some (.int .u64 6) := pw_cell_below hb (by go_simp)
  have sW_6 : w1.heap.size < w6.heap.size := World.block_lt_of_cell? _ _ cW_0_6
  have cX_0_6 : w6.cell? ⟨w2.heap.size, 0, none⟩ = some (.int .u64 18446744073709551615) := pw_cell_below hb (by go_simp)
  have cX_1_6 : w6.cell? ⟨w2.heap.size, 1, none⟩ = some (.int .u64 18446744073709551615) := pw_cell_below hb (by go_simp)
  have sX_6 : w2.heap.size < w6.heap.size := World.block_lt_of_cell? _ _ cX_0_6
  have cZ_0_6 : w6.cell? ⟨w3.heap.size, 0, none⟩ = some (.int .u64 18446744073709551615) := pw_cell_below hb (by go_simp)
  have cZ_1_6 : w6.cell? ⟨w3.heap.size, 1, none⟩ = some (.int .u64 0) := pw_cell_below hb (by go_simp)
  have sZ_6 : w3.heap.size < w6.heap.size := World.block_lt_of_cell? _ _ cZ_0_6
  clear hb cW_0_5 cW_1_5 sW_5 cX_0_5 cX_1_5 sX_5 cZ_0_5 cZ_1_5 sZ_5
  go_wp2_with fail
  refine (row_k 18446744073709551615 6 0 2 2 _ (by decide +kernel) (by decide +kernel) (by decide +kernel) (by omega) (by omega) (by decide +kernel)).mono ?_
  rintro e w7 ⟨rfl, hb⟩
  have HB7 : Below w.heap.size w w7 := below_step (by repeat (first | exact HB6 | (refine Below.alloc ?_ (by first | exact Nat.le_refl _ | (have := HB6.size; simp; omega) | (simp; omega)) _) | apply below_alloc | apply below_drew1 | apply pw_below_drewN | refine Below.setCell ?_ (by show w.heap.size ≤ w1.heap.size; omega) _ | refine Below.setCell ?_ (by show w.heap.size ≤ w2.heap.size; omega) _ | refine Below.setCell ?_ (by show w.heap.size ≤ w3.heap.size; omega) _)) hb
  have cW_0_7 : w7.cell? ⟨w1.heap.size, 0, none⟩ = some (.int .u64 18446744073709551613) := pw_cell_below hb (by go_simp)
  have cW_1_7 : w7.cell? ⟨w1.heap.size, 1, none⟩ = some (.int .u64 6) := pw_cell_below hb (by go_simp)
  have sW_7 : w1.heap.size < w7.heap.size := World.block_lt_of_cell? _ _ cW_0_7
  have cX_0_7 : w7.cell? ⟨w2.heap.size, 0, none⟩ = some (.int .u64 18446744073709551615) := pw_cell_below hb (by go_simp)
  have cX_1_7 : w7.cell? ⟨w2.heap.size, 1, none⟩ = some (.int .u64 18446744073709551615) := pw_cell_below hb (by go_simp)
  have sX_7 : w2.heap.size < w7.heap.size := World.block_lt_of_cell? _ _ cX_0_7
  have cZ_0_7 : w7.cell? ⟨w3.heap.size, 0, none⟩ = some (.int .u64 18446744073709551615) := pw_cell_below hb (by go_simp)
  have cZ_1_7 : w7.cell? ⟨w3.heap.size, 1, none⟩ = some (.int .u64 0) := pw_cell_below hb (by go_simp)
  have sZ_7 : w3.heap.size < w7.heap.size := World.block_lt_of_cell? _ _ cZ_0_7
  clear hb cW_0_6 cW_1_6 sW_6 cX_0_6 cX_1_6 sX_6 cZ_0_6 cZ_1_6 sZ_6
  go_wp2_with fail
  refine (not_k 18446744073709551613 6 6 18446744073709551613 _ (by decide +kernel)).mono ?_
  rintro e w8 ⟨rfl, hb⟩
  have HB8 : Below w.heap.size w w8 := below_step (by repeat (first | exact HB7 | (refine Below.alloc ?_ (by first | exact Nat.le_refl _ | (have := HB7.size; simp; omega) | (simp; omega)) _) | apply below_alloc | apply below_drew1 | apply pw_below_drewN | refine Below.setCell ?_ (by show w.heap.size ≤ w1.heap.size; omega) _ | refine Below.setCell ?_ (by show w.heap.size ≤ w2.heap.size; omega) _ | refine Below.setCell ?_ (by show w.heap.size ≤ w3.heap.size; omega) _)) hb
  have cW_0_8 : w8.cell? ⟨w1.heap.size, 0, none⟩ = some (.int .u64 18446744073709551613) := pw_cell_below hb (by go_simp)
  have cW_1_8 : w8.cell? ⟨w1.heap.size, 1, none⟩ = some (.int .u64 6) := pw_cell_below hb (by go_simp)
  have sW_8 : w1.heap.size < w8.heap.size := World.block_lt_of_cell? _ _ cW_0_8
  have cX_0_8 : w8.cell? ⟨w2.heap.size, 0, none⟩ = some (.int .u64 18446744073709551615) := pw_cell_below hb (by go_simp)
  have cX_1_8 : w8.cell? ⟨w2.heap.size, 1, none⟩ = some (.int .u64 18446744073709551615) := pw_cell_below hb (by go_simp)
  have sX_8 : w2.heap.size < w8.heap.size := World.block_lt_of_cell? _ _ cX_0_8
  have cZ_0_8 : w8.cell? ⟨w3.heap.size, 0, none⟩ = some (.int .u64 18446744073709551615) := pw_cell_below hb (by go_simp)
  have cZ_1_8 : w8.cell? ⟨w3.heap.size, 1, none⟩ = some (.int .u64 0) := pw_cell_below hb (by go_simp)
  have sZ_8 : w3.heap.size < w8.heap.size := World.block_lt_of_cell? _ _ cZ_0_8
  clear hb cW_0_7 cW_1_7 sW_7 cX_0_7 cX_1_7 sX_7 cZ_0_7 cZ_1_7 sZ_7
  go_wp2_with fail
  refine (row_k 6 18446744073709551613 1 0 2 _ (by decide +kernel) (by decide +kernel) (by decide +kernel) (by omega) (by omega) (by decide +kernel)).mono ?_
  rintro e w9 ⟨rfl, hb⟩
  have HB9 : Below w.heap.size w w9 := below_step (by repeat (first | exact HB8 | (refine Below.alloc ?_ (by first | exact Nat.le_refl _ | (have := HB8.size; simp; omega) | (simp; omega)) _) | apply below_alloc | apply below_drew1 | apply pw_below_drewN | refine Below.setCell ?_ (by show w.heap.size ≤ w1.heap.size; omega) _ | refine Below.setCell ?_ (by show w.heap.size ≤ w2.heap.size; omega) _ | refine Below.setCell ?_ (by show w.heap.size ≤ w3.heap.size; omega) _)) hb
  have cW_0_9 : w9.cell? ⟨w1.heap.size, 0, none⟩ = some (.int .u64 18446744073709551613) := pw_cell_below hb (by go_simp)
  have cW_1_9 : w9.cell? ⟨w1.heap.size, 1, none⟩ = some (.int .u64 6) := pw_cell_below hb (by go_simp)
  have sW_9 : w1.heap.size < w9.heap.size := World.block_lt_of_cell? _ _ cW_0_9
  have cX_0_9 : w9.cell? ⟨w2.heap.size, 0, none⟩ = some (.int .u64 18446744073709551615) := pw_cell_below hb (by go_simp)
  have cX_1_9 : w9.cell? ⟨w2.heap.size, 1, none⟩ = some (.int .u64 18446744073709551615) := pw_cell_below hb (by go_simp)
  have sX_9 : w2.heap.size < w9.heap.size := World.block_lt_of_cell? _ _ cX_0_9
  have cZ_0_9 : w9.cell? ⟨w3.heap.size, 0, none⟩ = some (.int .u64 18446744073709551615) := pw_cell_below hb (by go_simp)
  have cZ_1_9 : w9.cell? ⟨w3.heap.size, 1, none⟩ = some (.int .u64 0) := pw_cell_below hb (by go_simp)
  have sZ_9 : w3.heap.size < w9.heap.size := World.block_lt_of_cell? _ _ cZ_0_9
  clear hb cW_0_8 cW_1_8 sW_8 cX_0_8 cX_1_8 sX_8 cZ_0_8 cZ_1_8 sZ_8
  go_wp2_with fail
  refine (within_k 18446744073709551615 0 18446744073709551615 18446744073709551615 18446744073709551615 _ (by decide +kernel)).mono ?_
  rintro e w10 ⟨rfl, hb⟩
  have HB10 : Below w.heap.size w w10 := below_step (by repeat (first | exact HB9 | (refine Below.alloc ?_ (by first | exact Nat.le_refl _ | (have := HB9.size; simp; omega) | (simp; omega)) _) | apply below_alloc | apply below_drew1 | apply pw_below_drewN | refine Below.setCell ?_ (by show w.heap.size ≤ w1.heap.size; omega) _ | refine Below.setCell ?_ (by show w.heap.size ≤ w2.heap.size; omega) _ | refine Below.setCell ?_ (by show w.heap.size ≤ w3.heap.size; omega) _)) hb
  have cW_0_10 : w10.cell? ⟨w1.heap.size, 0, none⟩ = some (.int .u64 18446744073709551613) := pw_cell_below hb (by go_simp)
  have cW_1_10 : w10.cell? ⟨w1.heap.size, 1, none⟩ = some (.int .u64 6) := pw_cell_below hb (by go_simp)
  have sW_10 : w1.heap.size < w10.heap.size := World.block_lt_of_cell? _ _ cW_0_10
  have cX_0_10 : w10.cell? ⟨w2.heap.size, 0, none⟩ = some (.int .u64 18446744073709551615) := pw_cell_below hb (by go_simp)
  have cX_1_10 : w10.cell? ⟨w2.heap.size, 1, none⟩ = some (.int .u64 18446744073709551615) := pw_cell_below hb (by go_simp)
  have sX_10 : w2.heap.size < w10.heap.size := World.block_lt_of_cell? _ _ cX_0_10
  have cZ_0_10 : w10.cell? ⟨w3.heap.size, 0, none⟩ = some (.int .u64 18446744073709551615) := pw_cell_below hb (by go_simp)
  have cZ_1_10 : w10.cell? ⟨w3.heap.size, 1, none⟩ = some (.int .u64 0) := pw_cell_below hb (by go_simp)
  have sZ_10 : w3.heap.size < w10.heap.size := World.block_lt_of_cell? _ _ cZ_0_10
  clear hb cW_0_9 cW_1_9 sW_9 cX_0_9 cX_1_9 sX_9 cZ_0_9 cZ_1_9 sZ_9
  go_wp2_with fail
  refine (and1_k 0 2 0 _ (by decide +kernel)).mono ?_
  rintro e w11 ⟨rfl, hb⟩
  have HB11 : Below w.heap.size w w11 := below_step (by repeat (first | exact HB10 | (refine Below.alloc ?_ (by first | exact Nat.le_refl _ | (have := HB10.size; simp; omega) | (simp; omega)) _) | apply below_alloc | apply below_drew1 | apply pw_below_drewN | refine Below.setCell ?_ (by show w.heap.size ≤ w1.heap.size; omega) _ | refine Below.setCell ?_ (by show w.heap.size ≤ w2.heap.size; omega) _ | refine Below.setCell ?_ (by show w.heap.size ≤ w3.heap.size; omega) _)) hb
  have cW_0_11 : w11.cell? ⟨w1.heap.size, 0, none⟩ = some (.int .u64 18446744073709551613) := pw_cell_below hb (by go_simp)
  have cW_1_11 : w11.cell? ⟨w1.heap.size, 1, none⟩ = some (.int .u64 6) := pw_cell_below hb (by go_simp)
  have sW_11 : w1.heap.size < w11.heap.size := World.block_lt_of_cell? _ _ cW_0_11
  have cX_0_11 : w11.cell? ⟨w2.heap.size, 0, none⟩ = some (.int .u64 18446744073709551615) := pw_cell_below hb (by go_simp)
  have cX_1_11 : w11.cell? ⟨w2.heap.size, 1, none⟩ = some (.int .u64 18446744073709551615) := pw_cell_below hb (by go_simp)
  have sX_11 : w2.heap.size < w11.heap.size := World.block_lt_of_cell? _ _ cX_0_11
  have cZ_0_11 : w11.cell? ⟨w3.heap.size, 0, none⟩ = some (.int .u64 18446744073709551615) := pw_cell_below hb (by go_simp)
  have cZ_1_11 : w11.cell? ⟨w3.heap.size, 1, none⟩ = some (.int .u64 0) := pw_cell_below hb (by go_simp)
  have sZ_11 : w3.heap.size < w11.heap.size := World.block_lt_of_cell? _ _ cZ_0_11
  clear hb cW_0_10 cW_1_10 sW_10 cX_0_10 cX_1_10 sX_10 cZ_0_10 cZ_1_10 sZ_10
  go_wp2_with fail
  refine (and1_k 1 2 2 _ (by decide +kernel)).mono ?_
  rintro e w12 ⟨rfl, hb⟩
  have HB12 : Below w.heap.size w w12 := below_step (by repeat (first | exact HB11 | (refine Below.alloc ?_ (by first | exact Nat.le_refl _ | (have := HB11.size; simp; omega) | (simp; omega)) _) | apply below_alloc | apply below_drew1 | apply pw_below_drewN | refine Below.setCell ?_ (by show w.heap.size ≤ w1.heap.size; omega) _ | refine Below.setCell ?_ (by show w.heap.size ≤ w2.heap.size; omega) _ | refine Below.setCell ?_ (by show w.heap.size ≤ w3.heap.size; omega) _)) hb
  have cW_0_12 : w12.cell? ⟨w1.heap.size, 0, none⟩ = some (.int .u64 18446744073709551613) := pw_cell_below hb (by go_simp)
  have cW_1_12 : w12.cell? ⟨w1.heap.size, 1, none⟩ = some (.int .u64 6) := pw_cell_below hb (by go_simp)
  have sW_12 : w1.heap.size < w12.heap.size := World.block_lt_of_cell? _ _ cW_0_12
  have cX_0_12 : w12.cell? ⟨w2.heap.size, 0, none⟩ = some (.int .u64 18446744073709551615) := pw_cell_below hb (by go_simp)
  have cX_1_12 : w12.cell? ⟨w2.heap.size, 1, none⟩ = some (.int .u64 18446744073709551615) := pw_cell_below hb (by go_simp)
  have sX_12 : w2.heap.size < w12.heap.size := World.block_lt_of_cell? _ _ cX_0_12
  have cZ_0_12 : w12.cell? ⟨w3.heap.size, 0, none⟩ = some (.int .u64 18446744073709551615) := pw_cell_below hb (by go_simp)
  have cZ_1_12 : w12.cell? ⟨w3.heap.size, 1, none⟩ = some (.int .u64 0) := pw_cell_below hb (by go_simp)
  have sZ_12 : w3.heap.size < w12.heap.size := World.block_lt_of_cell? _ _ cZ_0_12
  clear hb cW_0_11 cW_1_11 sW_11 cX_0_11 cX_1_11 sX_11 cZ_0_11 cZ_1_11 sZ_11
  go_wp2_with fail
  go_ret
  exact ⟨rfl, by repeat (first | exact HB12 | apply below_alloc)⟩


def inquestlaw06_lives.f : Option (Bool) := some true
theorem inquestlaw06_lives.calls (r : Bool) (w : World) (h : inquestlaw06_lives.f = some r) :
    Calls Try.prog 12 #[] w fun e w' => e = .returned (.bool r) ∧ Below w.heap.size w w' := by
  obtain rfl := Option.some.inj h
  exact lives06 w
end Go.Proofs.Ythpnooookkpkaaa.F
namespace Go.Proofs.Ythpnooookkpkaaa.T
open Go.RowKit Go.Proofs.Ythpnooookkpkaaa.F Go.Proofs.YthpnooookkpkaaaW.PrintWords Go.Proofs.YthpnooookkpkaaaW.PrintMore

theorem lives_is : inquestlaw06_lives.f = some true := rfl
theorem nat_of_u64 {n : Int} (h : (Lit.int .u64 n).wf = true) : ∃ m : Nat, n = m ∧ m < 2 ^ 64 := by
  have h1 : IntKind.u64.min ≤ n ∧ n ≤ IntKind.u64.max := by simpa [Lit.wf] using h
  simp [IntKind.min, IntKind.max, IntKind.signed, IntKind.bits] at h1
  exact ⟨n.toNat, by omega, by omega⟩
theorem u8_of {n : Int} (h : (Lit.int .u8 n).wf = true) : 0 ≤ n ∧ n < 256 := by
  have h1 : IntKind.u8.min ≤ n ∧ n ≤ IntKind.u8.max := by simpa [Lit.wf] using h
  simp [IntKind.min, IntKind.max, IntKind.signed, IntKind.bits] at h1
  omega
end Go.Proofs.Ythpnooookkpkaaa.T
/- A function of the program as a plain Lean function, and that the machine's call comes to it: written by a program of this session over the kit's print. -/
namespace Go.Proofs.Ythpnooookkpkaaa.F
open Go.RowKit Go.Proofs.YthpnooookkpkaaaW.PrintWords Go.Proofs.YthpnooookkpkaaaW.PrintLast Go.Proofs.YthpnooookkpkaaaW.PrintMore
attribute [local go_sem] max2_int min2_int max_two min_two max_three min_three max_four min_four   -- for this text's walks alone
set_option linter.unusedVariables false
set_option linter.unusedSimpArgs false

theorem eqA24 (d : Nat) (w : World) (x0 y0 : Int) (x1 y1 : Int) :
    (Op.equalIn (d + 2) 24 (.agg #[.int .u64 x0, .int .u64 x1]) (.agg #[.int .u64 y0, .int .u64 y1])).run Try.prog w = .ok (x0 == y0 && (x1 == y1)) w := by
  refine eqA_of Try.underlying24 (by kernel_rfl) ?_
  refine eqf_cons (by rfl) (by go_simp; rfl) (by go_simp; rfl) (by go_simp) ?_
  exact eqf_last (by rfl) (by go_simp; rfl) (by go_simp; rfl) (by go_simp)
end Go.Proofs.Ythpnooookkpkaaa.F
/- A function of the program as a plain Lean function, and that the machine's call comes to it: written by a program of this session over the kit's print. -/
namespace Go.Proofs.Ythpnooookkpkaaa.F
open Go.RowKit Go.Proofs.YthpnooookkpkaaaW.PrintWords Go.Proofs.YthpnooookkpkaaaW.PrintLast Go.Proofs.YthpnooookkpkaaaW.PrintMore
attribute [local go_sem] max2_int min2_int max_two min_two max_three min_three max_four min_four   -- for this text's walks alone
set_option linter.unusedVariables false
set_option linter.unusedSimpArgs false

attribute [local go_sem high] eqA24
/-! ### inquestlaw06_TernTells: function 4 -/
mutual
def inquestlaw06_TernTells.j0 : Nat → Int → Int → Int → Bool → Int → Int → Int → Int → Option (Bool)
  | 0, _, _, _, _, _, _, _, _ => none
  | k + 1, x3, x4, x5, x69, x102000, x102001, x103000, x103001 => if x69 = true then (some false) else ((tern_At.f x102000 x102001 x3).bind fun bt121 => ((inquestref06_At.f k x102000 x102001 x3).bind fun bt123 => ((tern_With.f x102000 x102001 x3 x4).bind fun bt125 => ((inquestref06_With.f k x102000 x102001 x3 x4).bind fun bt128 => (if bt121.1 = bt123.1 then (if (bt121.2 != bt123.2) = true then (inquestlaw06_TernTells.j1 k x4 x5 true x102000 x102001 x103000 x103001) else (if (!(bt125.1 == bt128.1) || (!(bt125.2.1 == bt128.2.1))) = true then (inquestlaw06_TernTells.j1 k x4 x5 true x102000 x102001 x103000 x103001) else (if bt125.2.2 = bt128.2.2 then ((tern_Not.f x102000 x102001).bind fun bt131 => ((inquestref06_Not.f k x102000 x102001).bind fun bt133 => (if (!(bt131.1 == bt133.1) || (!(bt131.2 == bt133.2))) = true then (inquestlaw06_TernTells.j1 k x4 x5 true x102000 x102001 x103000 x103001) else ((tern_And.f x102000 x102001 x103000 x103001).bind fun bt135 => ((inquestref06_And.f k x102000 x102001 x103000 x103001).bind fun bt137 => (inquestlaw06_TernTells.j1 k x4 x5 (!(bt135.1 == bt137.1) || (!(bt135.2 == bt137.2))) x102000 x102001 x103000 x103001)))))) else (inquestlaw06_TernTells.j1 k x4 x5 true x102000 x102001 x103000 x103001)))) else (inquestlaw06_TernTells.j1 k x4 x5 true x102000 x102001 x103000 x103001))))))
def inquestlaw06_TernTells.j1 : Nat → Int → Int → Bool → Int → Int → Int → Int → Option (Bool)
  | 0, _, _, _, _, _, _, _ => none
  | k + 1, x4, x5, x129, x102000, x102001, x103000, x103001 => if x129 = true then (some false) else ((tern_Within.f x102000 x102001 x103000 x103001).bind fun t139 => ((inquestref06_Within.f k x102000 x102001 x103000 x103001).bind fun t140 => (if t139 = t140 then ((tern_Not1.f x4).bind fun t141 => ((inquestref06_Not1.f x4).bind fun t142 => (if t141 = t142 then ((tern_And1.f k x4 x5).bind fun t143 => ((inquestref06_And1.f k x4 x5).bind fun t144 => (if t143 = t144 then ((inquestlaw06_lives.f).bind fun t145 => (some t145)) else (some false)))) else (some false)))) else (some false))))
end
def inquestlaw06_TernTells.f (k : Nat) (a0_0 : Int) (a0_1 : Int) (a1_0 : Int) (a1_1 : Int) (l2 : List Int) (a3 : Int) (a4 : Int) (a5 : Int) : Option (Bool) := (tern_Of.f k l2).bind fun bt103 => ((inquestref06_Of.f k l2).bind fun bt107 => ((tern_All.f a4).bind fun bt111 => ((inquestref06_All.f k a4).bind fun bt115 => (if (!(bt103.1 == bt107.1) || (!(bt103.2.1 == bt107.2.1))) = true then (inquestlaw06_TernTells.j0 k a3 a4 a5 true a0_0 a0_1 a1_0 a1_1) else (if bt103.2.2 = bt107.2.2 then (if (!(bt111.1 == bt115.1) || (!(bt111.2.1 == bt115.2.1))) = true then (inquestlaw06_TernTells.j0 k a3 a4 a5 true a0_0 a0_1 a1_0 a1_1) else (if bt111.2.2 = bt115.2.2 then ((tern_May.f a0_0 a0_1).bind fun t119 => ((inquestref06_May.f k a0_0 a0_1).bind fun t120 => (inquestlaw06_TernTells.j0 k a3 a4 a5 (t119 != t120) a0_0 a0_1 a1_0 a1_1))) else (inquestlaw06_TernTells.j0 k a3 a4 a5 true a0_0 a0_1 a1_0 a1_1))) else (inquestlaw06_TernTells.j0 k a3 a4 a5 true a0_0 a0_1 a1_0 a1_1))))))
theorem inquestlaw06_TernTells.mono_l : ∀ k, (∀ y0 y1 y2 y3 y4 y5 y6 y7, LeO (inquestlaw06_TernTells.j0 k y0 y1 y2 y3 y4 y5 y6 y7) (inquestlaw06_TernTells.j0 (k + 1) y0 y1 y2 y3 y4 y5 y6 y7)) ∧ (∀ y0 y1 y2 y3 y4 y5 y6, LeO (inquestlaw06_TernTells.j1 k y0 y1 y2 y3 y4 y5 y6) (inquestlaw06_TernTells.j1 (k + 1) y0 y1 y2 y3 y4 y5 y6))
  | 0 => ⟨fun _ _ _ _ _ _ _ _ r h => by simp [inquestlaw06_TernTells.j0] at h, fun _ _ _ _ _ _ _ r h => by simp [inquestlaw06_TernTells.j1] at h⟩
  | k + 1 => by
    obtain ⟨ih0, ih1⟩ := inquestlaw06_TernTells.mono_l k
    refine ⟨?_, ?_⟩
    · intro y0 y1 y2 y3 y4 y5 y6 y7
      unfold inquestlaw06_TernTells.j0
      repeat' first
      | (with_reducible exact ih0 _ _ _ _ _ _ _ _)
      | (with_reducible exact ih1 _ _ _ _ _ _ _)
      | (with_reducible exact inquestref06_All.mono _ _)
      | (with_reducible exact inquestref06_And.mono _ _ _ _ _)
      | (with_reducible exact inquestref06_And1.mono _ _ _)
      | (with_reducible exact inquestref06_At.mono _ _ _ _)
      | (with_reducible exact inquestref06_May.mono _ _ _)
      | (with_reducible exact inquestref06_Not.mono _ _ _)
      | (with_reducible exact inquestref06_Of.mono _ _)
      | (with_reducible exact inquestref06_With.mono _ _ _ _ _)
      | (with_reducible exact inquestref06_Within.mono _ _ _ _ _)
      | (with_reducible exact tern_And1.mono _ _ _)
      | (with_reducible exact tern_Of.mono _ _)
      | (with_reducible exact LeO.refl _)
      | (with_reducible exact LeO.none _)
      | (with_reducible refine LeO.ite ?_ ?_)
      | (with_reducible refine LeO.bind ?_ (fun _ => ?_))
      | exact ih0 _ _ _ _ _ _ _ _
      | exact ih1 _ _ _ _ _ _ _
      | exact inquestref06_All.mono _ _
      | exact inquestref06_And.mono _ _ _ _ _
      | exact inquestref06_And1.mono _ _ _
      | exact inquestref06_At.mono _ _ _ _
      | exact inquestref06_May.mono _ _ _
      | exact inquestref06_Not.mono _ _ _
      | exact inquestref06_Of.mono _ _
      | exact inquestref06_With.mono _ _ _ _ _
      | exact inquestref06_Within.mono _ _ _ _ _
      | exact tern_And1.mono _ _ _
      | exact tern_Of.mono _ _
      | exact LeO.none _
      | refine LeO.ite ?_ ?_
      | refine LeO.bind ?_ (fun _ => ?_)
    · intro y0 y1 y2 y3 y4 y5 y6
      unfold inquestlaw06_TernTells.j1
      repeat' first
      | (with_reducible exact ih0 _ _ _ _ _ _ _ _)
      | (with_reducible exact ih1 _ _ _ _ _ _ _)
      | (with_reducible exact inquestref06_All.mono _ _)
      | (with_reducible exact inquestref06_And.mono _ _ _ _ _)
      | (with_reducible exact inquestref06_And1.mono _ _ _)
      | (with_reducible exact inquestref06_At.mono _ _ _ _)
      | (with_reducible exact inquestref06_May.mono _ _ _)
      | (with_reducible exact inquestref06_Not.mono _ _ _)
      | (with_reducible exact inquestref06_Of.mono _ _)
      | (with_reducible exact inquestref06_With.mono _ _ _ _ _)
      | (with_reducible exact inquestref06_Within.mono _ _ _ _ _)
      | (with_reducible exact tern_And1.mono _ _ _)
      | (with_reducible exact tern_Of.mono _ _)
      | (with_reducible exact LeO.refl _)
      | (with_reducible exact LeO.none _)
      | (with_reducible refine LeO.ite ?_ ?_)
      | (with_reducible refine LeO.bind ?_ (fun _ => ?_))
      | exact ih0 _ _ _ _ _ _ _ _
      | exact ih1 _ _ _ _ _ _ _
      | exact inquestref06_All.mono _ _
      | exact inquestref06_And.mono _ _ _ _ _
      | exact inquestref06_And1.mono _ _ _
      | exact inquestref06_At.mono _ _ _ _
      | exact inquestref06_May.mono _ _ _
      | exact inquestref06_Not.mono _ _ _
      | exact inquestref06_Of.mono _ _
      | exact inquestref06_With.mono _ _ _ _ _
      | exact inquestref06_Within.mono _ _ _ _ _
      | exact tern_And1.mono _ _ _
      | exact tern_Of.mono _ _
      | exact LeO.none _
      | refine LeO.ite ?_ ?_
      | refine LeO.bind ?_ (fun _ => ?_)
theorem inquestlaw06_TernTells.mono : ∀ a0 a1 a2 a3 a4 a5 a6 a7 k, LeO (inquestlaw06_TernTells.f k a0 a1 a2 a3 a4 a5 a6 a7) (inquestlaw06_TernTells.f (k + 1) a0 a1 a2 a3 a4 a5 a6 a7) := by
  intro a0 a1 a2 a3 a4 a5 a6 a7 k
  obtain ⟨ih0, ih1⟩ := inquestlaw06_TernTells.mono_l k
  unfold inquestlaw06_TernTells.f
  repeat' first
      | (with_reducible exact ih0 _ _ _ _ _ _ _ _)
      | (with_reducible exact ih1 _ _ _ _ _ _ _)
      | (with_reducible exact inquestref06_All.mono _ _)
      | (with_reducible exact inquestref06_And.mono _ _ _ _ _)
      | (with_reducible exact inquestref06_And1.mono _ _ _)
      | (with_reducible exact inquestref06_At.mono _ _ _ _)
      | (with_reducible exact inquestref06_May.mono _ _ _)
      | (with_reducible exact inquestref06_Not.mono _ _ _)
      | (with_reducible exact inquestref06_Of.mono _ _)
      | (with_reducible exact inquestref06_With.mono _ _ _ _ _)
      | (with_reducible exact inquestref06_Within.mono _ _ _ _ _)
      | (with_reducible exact tern_And1.mono _ _ _)
      | (with_reducible exact tern_Of.mono _ _)
      | (with_reducible exact LeO.refl _)
      | (with_reducible exact LeO.none _)
      | (with_reducible refine LeO.ite ?_ ?_)
      | (with_reducible refine LeO.bind ?_ (fun _ => ?_))
      | exact ih0 _ _ _ _ _ _ _ _
      | exact ih1 _ _ _ _ _ _ _
      | exact inquestref06_All.mono _ _
      | exact inquestref06_And.mono _ _ _ _ _
      | exact inquestref06_And1.mono _ _ _
      | exact inquestref06_At.mono _ _ _ _
      | exact inquestref06_May.mono _ _ _
      | exact inquestref06_Not.mono _ _ _
      | exact inquestref06_Of.mono _ _
      | exact inquestref06_With.mono _ _ _ _ _
      | exact inquestref06_Within.mono _ _ _ _ _
      | exact tern_And1.mono _ _ _
      | exact tern_Of.mono _ _
      | exact LeO.none _
      | refine LeO.ite ?_ ?_
      | refine LeO.bind ?_ (fun _ => ?_)
def inquestlaw06_TernTells.T5 : Bool × List (List Nat × List Nat) := (true, [([], []), ([], []), ([0, 1], [0, 1]), ([2], [2]), ([3], [3]), ([3], [3]), ([4, 5, 3], [3, 4, 5]), ([3, 6], [3, 6]), ([7, 3], [7]), ([8], [8]), ([8], [8]), ([9, 10, 8], [8, 9, 10]), ([8, 11], [8, 11]), ([12, 8], [12]), ([13], [13]), ([13], [13]), ([14, 15, 13], [13, 14, 15]), ([13, 16], [13, 16]), ([17, 13], [17]), ([18], [18]), ([19, 18, 18], [18, 19]), ([18], [18]), ([21, 20, 18], [18, 21]), ([20, 22, 18], [18, 20, 22]), ([18, 23], [18, 23])])
def inquestlaw06_TernTells.B5 : List Nat := [0, 0, 3, 7, 15, 15, 63, 127, 255, 511, 511, 2047, 4095, 8191, 16383, 16383, 65535, 131071, 262143, 524287, 1048575, 524287, 4194303, 8388607, 16777215]
theorem inquestlaw06_TernTells.tab5 : rtab .any (opsOf Try.f4 5) = inquestlaw06_TernTells.T5 := by kernel_rfl
theorem inquestlaw06_TernTells.bits5 : waitsOk inquestlaw06_TernTells.T5.2 inquestlaw06_TernTells.B5 = true := by kernel_rfl
def inquestlaw06_TernTells.T11 : Bool × List (List Nat × List Nat) := (true, [([], []), ([], []), ([0, 1], [0, 1]), ([2], [2]), ([3], [3]), ([3], [3]), ([4, 5, 3], [3, 4, 5]), ([3, 6], [3, 6]), ([7, 3], [7]), ([8], [8]), ([8], [8]), ([9, 10, 8], [8, 9, 10]), ([8, 11], [8, 11]), ([12, 8], [12]), ([13], [13]), ([13], [13]), ([14, 15, 13], [13, 14, 15]), ([13, 16], [13, 16]), ([17, 13], [17]), ([18], [18]), ([19, 18, 18], [18, 19]), ([18], [18]), ([21, 20, 18], [18, 21]), ([20, 22, 18], [18, 20, 22]), ([18, 23], [18, 23]), ([24, 22], [24]), ([25], [25]), ([25], [25]), ([26, 27, 25, 25], [25, 26, 27]), ([25], [25]), ([25], [25]), ([29, 30, 28, 25], [25, 29, 30]), ([28, 31, 25], [25, 28, 31]), ([25, 32], [25, 32])])
def inquestlaw06_TernTells.B11 : List Nat := [0, 0, 3, 7, 15, 15, 63, 127, 255, 511, 511, 2047, 4095, 8191, 16383, 16383, 65535, 131071, 262143, 524287, 1048575, 524287, 4194303, 8388607, 16777215, 33554431, 67108863, 67108863, 268435455, 67108863, 67108863, 2147483647, 4294967295, 8589934591]
theorem inquestlaw06_TernTells.tab11 : rtab .any (opsOf Try.f4 11) = inquestlaw06_TernTells.T11 := by kernel_rfl
theorem inquestlaw06_TernTells.bits11 : waitsOk inquestlaw06_TernTells.T11.2 inquestlaw06_TernTells.B11 = true := by kernel_rfl
def inquestlaw06_TernTells.T13 : Bool × List (List Nat × List Nat) := (true, [([], []), ([], []), ([0, 1], [0, 1]), ([], []), ([], []), ([3, 4, 2], [3, 4]), ([2, 5], [2, 5]), ([6, 5], [6]), ([7], [7]), ([8, 7, 7], [7, 8]), ([7], [7]), ([10, 9, 7], [7, 10]), ([9, 11, 7], [7, 9, 11]), ([7, 12], [7, 12]), ([13, 11], [13]), ([14], [14]), ([14], [14]), ([15, 16, 14, 14], [14, 15, 16]), ([14], [14]), ([14], [14]), ([18, 19, 17, 14], [14, 18, 19]), ([17, 20, 14], [14, 17, 20]), ([14, 21], [14, 21]), ([22, 20], [22]), ([23, 23], [23]), ([23, 24], [23, 24]), ([25, 24, 0, 1, 2, 3, 4, 5, 6, 7, 8, 9, 10, 11, 12, 13, 14, 15, 16, 17, 18, 19, 20, 21, 22, 23, 24, 25], [25])])
def inquestlaw06_TernTells.B13 : List Nat := [0, 0, 3, 0, 0, 31, 63, 127, 255, 511, 255, 2047, 4095, 8191, 16383, 32767, 32767, 131071, 32767, 32767, 1048575, 2097151, 4194303, 8388607, 16777215, 33554431, 67108863]
theorem inquestlaw06_TernTells.tab13 : rtab .any (opsOf Try.f4 13) = inquestlaw06_TernTells.T13 := by kernel_rfl
theorem inquestlaw06_TernTells.bits13 : waitsOk inquestlaw06_TernTells.T13.2 inquestlaw06_TernTells.B13 = true := by kernel_rfl
set_option maxHeartbeats 8000000 in
set_option maxRecDepth 100000 in
theorem inquestlaw06_TernTells.calls (k : Nat) (a0_0 : Int) (a0_1 : Int) (a1_0 : Int) (a1_1 : Int) (A2 : Option Addr) (c2 : Nat) (l2 : List Int) (a3 : Int) (a4 : Int) (a5 : Int) (r : Bool) (w : World) (hr2 : Kd.C (Kd.int .u8) w A2 l2.length l2) (hc2 : l2.length ≤ c2) (hrt : Aside0 (r = true)) (h : inquestlaw06_TernTells.f k a0_0 a0_1 a1_0 a1_1 l2 a3 a4 a5 = some r) :
    Calls Try.prog 4 #[.agg #[.int .u64 a0_0, .int .u64 a0_1], .agg #[.int .u64 a1_0, .int .u64 a1_1], .slice A2 l2.length c2, .int .i64 a3, .int .u8 a4, .int .u8 a5] w fun e w' => e = .returned (.bool r) ∧ Below w.heap.size w w' := by
  have hu24 := Try.underlying24
  have HR2 := Aside0.mk hr2
  have HC2 := Aside0.mk hc2
  clear hr2 hc2
  have HB := Aside0.mk (Below.refl w.heap.size w)
  have H : ((tern_Of.f k l2).bind fun bt103 => ((inquestref06_Of.f k l2).bind fun bt107 => ((tern_All.f a4).bind fun bt111 => ((inquestref06_All.f k a4).bind fun bt115 => (if (!(bt103.1 == bt107.1) || (!(bt103.2.1 == bt107.2.1))) = true then (inquestlaw06_TernTells.j0 k a3 a4 a5 true a0_0 a0_1 a1_0 a1_1) else (if bt103.2.2 = bt107.2.2 then (if (!(bt111.1 == bt115.1) || (!(bt111.2.1 == bt115.2.1))) = true then (inquestlaw06_TernTells.j0 k a3 a4 a5 true a0_0 a0_1 a1_0 a1_1) else (if bt111.2.2 = bt115.2.2 then ((tern_May.f a0_0 a0_1).bind fun t119 => ((inquestref06_May.f k a0_0 a0_1).bind fun t120 => (inquestlaw06_TernTells.j0 k a3 a4 a5 (t119 != t120) a0_0 a0_1 a1_0 a1_1))) else (inquestlaw06_TernTells.j0 k a3 a4 a5 true a0_0 a0_1 a1_0 a1_1))) else (inquestlaw06_TernTells.j0 k a3 a4 a5 true a0_0 a0_1 a1_0 a1_1))))))) = some r := h
  clear h
  replace H := Option.bind_eq_some_iff.mp H
  obtain ⟨⟨t103, t104, t105⟩, A70, H⟩ := H
  replace H : ((inquestref06_Of.f k l2).bind fun bt107 => ((tern_All.f a4).bind fun bt111 => ((inquestref06_All.f k a4).bind fun bt115 => (if (!(t103 == bt107.1) || (!(t104 == bt107.2.1))) = true then (inquestlaw06_TernTells.j0 k a3 a4 a5 true a0_0 a0_1 a1_0 a1_1) else (if t105 = bt107.2.2 then (if (!(bt111.1 == bt115.1) || (!(bt111.2.1 == bt115.2.1))) = true then (inquestlaw06_TernTells.j0 k a3 a4 a5 true a0_0 a0_1 a1_0 a1_1) else (if bt111.2.2 = bt115.2.2 then ((tern_May.f a0_0 a0_1).bind fun t119 => ((inquestref06_May.f k a0_0 a0_1).bind fun t120 => (inquestlaw06_TernTells.j0 k a3 a4 a5 (t119 != t120) a0_0 a0_1 a1_0 a1_1))) else (inquestlaw06_TernTells.j0 k a3 a4 a5 true a0_0 a0_1 a1_0 a1_1))) else (inquestlaw06_TernTells.j0 k a3 a4 a5 true a0_0 a0_1 a1_0 a1_1)))))) = some r := H
  have A7 := Aside0.mk A70
  clear A70
  replace H := Option.bind_eq_some_iff.mp H
  obtain ⟨⟨t107, t108, t109⟩, A80, H⟩ := H
  replace H : ((tern_All.f a4).bind fun bt111 => ((inquestref06_All.f k a4).bind fun bt115 => (if (!(t103 == t107) || (!(t104 == t108))) = true then (inquestlaw06_TernTells.j0 k a3 a4 a5 true a0_0 a0_1 a1_0 a1_1) else (if t105 = t109 then (if (!(bt111.1 == bt115.1) || (!(bt111.2.1 == bt115.2.1))) = true then (inquestlaw06_TernTells.j0 k a3 a4 a5 true a0_0 a0_1 a1_0 a1_1) else (if bt111.2.2 = bt115.2.2 then ((tern_May.f a0_0 a0_1).bind fun t119 => ((inquestref06_May.f k a0_0 a0_1).bind fun t120 => (inquestlaw06_TernTells.j0 k a3 a4 a5 (t119 != t120) a0_0 a0_1 a1_0 a1_1))) else (inquestlaw06_TernTells.j0 k a3 a4 a5 true a0_0 a0_1 a1_0 a1_1))) else (inquestlaw06_TernTells.j0 k a3 a4 a5 true a0_0 a0_1 a1_0 a1_1))))) = some r := H
  have A8 := Aside0.mk A80
  clear A80
  replace H := Option.bind_eq_some_iff.mp H
  obtain ⟨⟨t111, t112, t113⟩, A90, H⟩ := H
  replace H : ((inquestref06_All.f k a4).bind fun bt115 => (if (!(t103 == t107) || (!(t104 == t108))) = true then (inquestlaw06_TernTells.j0 k a3 a4 a5 true a0_0 a0_1 a1_0 a1_1) else (if t105 = t109 then (if (!(t111 == bt115.1) || (!(t112 == bt115.2.1))) = true then (inquestlaw06_TernTells.j0 k a3 a4 a5 true a0_0 a0_1 a1_0 a1_1) else (if t113 = bt115.2.2 then ((tern_May.f a0_0 a0_1).bind fun t119 => ((inquestref06_May.f k a0_0 a0_1).bind fun t120 => (inquestlaw06_TernTells.j0 k a3 a4 a5 (t119 != t120) a0_0 a0_1 a1_0 a1_1))) else (inquestlaw06_TernTells.j0 k a3 a4 a5 true a0_0 a0_1 a1_0 a1_1))) else (inquestlaw06_TernTells.j0 k a3 a4 a5 true a0_0 a0_1 a1_0 a1_1)))) = some r := H
  have A9 := Aside0.mk A90
  clear A90
  replace H := Option.bind_eq_some_iff.mp H
  obtain ⟨⟨t115, t116, t117⟩, A100, H⟩ := H
  replace H : (if (!(t103 == t107) || (!(t104 == t108))) = true then (inquestlaw06_TernTells.j0 k a3 a4 a5 true a0_0 a0_1 a1_0 a1_1) else (if t105 = t109 then (if (!(t111 == t115) || (!(t112 == t116))) = true then (inquestlaw06_TernTells.j0 k a3 a4 a5 true a0_0 a0_1 a1_0 a1_1) else (if t113 = t117 then ((tern_May.f a0_0 a0_1).bind fun t119 => ((inquestref06_May.f k a0_0 a0_1).bind fun t120 => (inquestlaw06_TernTells.j0 k a3 a4 a5 (t119 != t120) a0_0 a0_1 a1_0 a1_1))) else (inquestlaw06_TernTells.j0 k a3 a4 a5 true a0_0 a0_1 a1_0 a1_1))) else (inquestlaw06_TernTells.j0 k a3 a4 a5 true a0_0 a0_1 a1_0 a1_1))) = some r := H
  have A10 := Aside0.mk A100
  clear A100
  have HC11 := Aside0.mk H
  clear H
  go_enter Try.func4, Try.ntmps4
  go_upto_region 5 with (first | ((with_reducible refine gate_dst (N := 6) rfl ?_); refine box_event ?hg (N := 6) ?hd (cs := #[.int .u64 a0_0, .int .u64 a0_1]) (t := 24) ?hr ?_; (case hd => rfl); (case hg => rfl); (case hr => first | (go_simp; done) | (go_simp; rfl)); intro gb101 hg w12 hbox hb; have n0_ := Aside0.mk (below_step (by repeat (first | (with_reducible first | exact HB.out | apply below_alloc | apply pw_below_drewN | apply below_drew1) | exact HB.out)) hb); have n1_ := Aside0.mk (hbox); have n2_ := Aside0.mk ((by rw [hg]; exact (below_size (by repeat (first | (with_reducible first | exact HB.out | apply below_alloc | apply pw_below_drewN | apply below_drew1) | exact HB.out))) : w.heap.size ≤ gb101)); have n3_ := Aside0.mk ((by rw [hg]; exact (below_size (by repeat (first | (with_reducible first | exact HB.out | apply below_alloc | apply pw_below_drewN | apply below_drew1) | exact HB.out))) : w.heap.size ≤ gb101)); clear HB; have HB := n0_; have BK101 := n1_; have GW101 := n2_; have GE101 := n3_; clear n0_ n1_ n2_ n3_; clear hb hbox hg) | ((with_reducible refine gate_dst (N := 7) rfl ?_); refine box_event ?hg (N := 7) ?hd (cs := #[.int .u64 a1_0, .int .u64 a1_1]) (t := 24) ?hr ?_; (case hd => rfl); (case hg => rfl); (case hr => first | (go_simp; done) | (go_simp; rfl)); intro gb102 hg w13 hbox hb; have n0_ := Aside0.mk (blk_below (g := gb101) (o := .cells #[.int .u64 a0_0, .int .u64 a0_1] 24 (0, 0)) (by (with_reducible repeat (first | refine blk_drewN ?_ _ | refine blk_drew ?_ | refine blk_alloc ?_ _)); exact BK101.out) hb); have n1_ := Aside0.mk (below_step (by repeat (first | (with_reducible first | exact HB.out | apply below_alloc | apply pw_below_drewN | apply below_drew1 | refine below_set ?_ GE101.out) | exact HB.out)) hb); have n2_ := Aside0.mk (hbox); have n3_ := Aside0.mk ((by rw [hg]; exact (below_size (by repeat (first | (with_reducible first | exact HB.out | apply below_alloc | apply pw_below_drewN | apply below_drew1 | refine below_set ?_ GE101.out) | exact HB.out))) : w.heap.size ≤ gb102)); have n4_ := Aside0.mk ((by rw [hg]; exact (below_size (by repeat (first | (with_reducible first | exact HB.out | apply below_alloc | apply pw_below_drewN | apply below_drew1 | refine below_set ?_ GE101.out) | exact HB.out))) : w.heap.size ≤ gb102)); have n5_ := Aside0.mk ((by rw [hg]; exact Nat.ne_of_lt (blk_lt (g := gb101) (o := .cells #[.int .u64 a0_0, .int .u64 a0_1] 24 (0, 0)) (by (with_reducible repeat (first | refine blk_drewN ?_ _ | refine blk_drew ?_ | refine blk_alloc ?_ _)); exact BK101.out)) : gb101 ≠ gb102)); have n6_ := Aside0.mk ((by rw [hg]; exact Nat.ne_of_gt (blk_lt (g := gb101) (o := .cells #[.int .u64 a0_0, .int .u64 a0_1] 24 (0, 0)) (by (with_reducible repeat (first | refine blk_drewN ?_ _ | refine blk_drew ?_ | refine blk_alloc ?_ _)); exact BK101.out)) : gb102 ≠ gb101)); clear BK101; clear HB; have BK101 := n0_; have HB := n1_; have BK102 := n2_; have GW102 := n3_; have GE102 := n4_; have NB101_102 := n5_; have NB102_101 := n6_; clear n0_ n1_ n2_ n3_ n4_ n5_ n6_; clear hb hbox hg) | ((with_reducible refine gate_callee (f := 17) rfl ?_); refine goesL_ (some 27) rfl rfl Try.func17 (by kernel_rfl) rfl #[.slice A2 l2.length c2] rfl (by (try simp only [List.map_toArray, List.map_cons, List.map_nil]); first | done | rfl | (simp only [List.length_drop, List.length_take]; rfl)) ?_; (with_reducible refine (tern_Of.calls k _ _ l2 t103 t104 t105 _ ?side1 ?side2 A7.out).mono ?_); (case side1 => repeat (first | exact (Kd.C_below HR2.out HB.out) | (with_reducible refine Kd.C_alloc ?_ _) | (with_reducible refine Kd.C_drewN ?_ _) | (with_reducible refine Kd.C_drew ?_))); (case side2 => exact HC2.out); rintro e w14 ⟨rfl, hb⟩; refine ⟨_, rfl, ?_⟩; have n0_ := Aside0.mk (blk_below (g := gb101) (o := .cells #[.int .u64 a0_0, .int .u64 a0_1] 24 (0, 0)) (by (with_reducible repeat (first | refine blk_drewN ?_ _ | refine blk_drew ?_ | refine blk_alloc ?_ _)); exact BK101.out) hb); have n1_ := Aside0.mk (blk_below (g := gb102) (o := .cells #[.int .u64 a1_0, .int .u64 a1_1] 24 (0, 0)) (by (with_reducible repeat (first | refine blk_drewN ?_ _ | refine blk_drew ?_ | refine blk_alloc ?_ _)); exact BK102.out) hb); have n2_ := Aside0.mk (below_step (by repeat (first | (with_reducible first | exact HB.out | apply below_alloc | apply pw_below_drewN | apply below_drew1 | refine below_set ?_ GE101.out | refine below_set ?_ GE102.out) | exact HB.out)) hb); clear BK101; clear BK102; clear HB; have BK101 := n0_; have BK102 := n1_; have HB := n2_; clear n0_ n1_ n2_; (try clear hb); (try clear hb2); (try clear hk); (try clear hi)) | ((with_reducible refine gate_dst (N := 13) rfl ?_); refine box_event ?hg (N := 13) ?hd (cs := #[.int .u64 0, .int .u64 0]) (t := 24) ?hr ?_; (case hd => rfl); (case hg => rfl); (case hr => first | (go_simp; done) | (go_simp; rfl)); intro gb106 hg w15 hbox hb; have n0_ := Aside0.mk (blk_below (g := gb101) (o := .cells #[.int .u64 a0_0, .int .u64 a0_1] 24 (0, 0)) (by (with_reducible repeat (first | refine blk_drewN ?_ _ | refine blk_drew ?_ | refine blk_alloc ?_ _)); exact BK101.out) hb); have n1_ := Aside0.mk (blk_below (g := gb102) (o := .cells #[.int .u64 a1_0, .int .u64 a1_1] 24 (0, 0)) (by (with_reducible repeat (first | refine blk_drewN ?_ _ | refine blk_drew ?_ | refine blk_alloc ?_ _)); exact BK102.out) hb); have n2_ := Aside0.mk (below_step (by repeat (first | (with_reducible first | exact HB.out | apply below_alloc | apply pw_below_drewN | apply below_drew1 | refine below_set ?_ GE101.out | refine below_set ?_ GE102.out) | exact HB.out)) hb); have n3_ := Aside0.mk (hbox); have n4_ := Aside0.mk ((by rw [hg]; exact (below_size (by repeat (first | (with_reducible first | exact HB.out | apply below_alloc | apply pw_below_drewN | apply below_drew1 | refine below_set ?_ GE101.out | refine below_set ?_ GE102.out) | exact HB.out))) : w.heap.size ≤ gb106)); have n5_ := Aside0.mk ((by rw [hg]; exact (below_size (by repeat (first | (with_reducible first | exact HB.out | apply below_alloc | apply pw_below_drewN | apply below_drew1 | refine below_set ?_ GE101.out | refine below_set ?_ GE102.out) | exact HB.out))) : w.heap.size ≤ gb106)); have n6_ := Aside0.mk ((by rw [hg]; exact Nat.ne_of_lt (blk_lt (g := gb101) (o := .cells #[.int .u64 a0_0, .int .u64 a0_1] 24 (0, 0)) (by (with_reducible repeat (first | refine blk_drewN ?_ _ | refine blk_drew ?_ | refine blk_alloc ?_ _)); exact BK101.out)) : gb101 ≠ gb106)); have n7_ := Aside0.mk ((by rw [hg]; exact Nat.ne_of_gt (blk_lt (g := gb101) (o := .cells #[.int .u64 a0_0, .int .u64 a0_1] 24 (0, 0)) (by (with_reducible repeat (first | refine blk_drewN ?_ _ | refine blk_drew ?_ | refine blk_alloc ?_ _)); exact BK101.out)) : gb106 ≠ gb101)); have n8_ := Aside0.mk ((by rw [hg]; exact Nat.ne_of_lt (blk_lt (g := gb102) (o := .cells #[.int .u64 a1_0, .int .u64 a1_1] 24 (0, 0)) (by (with_reducible repeat (first | refine blk_drewN ?_ _ | refine blk_drew ?_ | refine blk_alloc ?_ _)); exact BK102.out)) : gb102 ≠ gb106)); have n9_ := Aside0.mk ((by rw [hg]; exact Nat.ne_of_gt (blk_lt (g := gb102) (o := .cells #[.int .u64 a1_0, .int .u64 a1_1] 24 (0, 0)) (by (with_reducible repeat (first | refine blk_drewN ?_ _ | refine blk_drew ?_ | refine blk_alloc ?_ _)); exact BK102.out)) : gb106 ≠ gb102)); clear BK101; clear BK102; clear HB; have BK101 := n0_; have BK102 := n1_; have HB := n2_; have BK106 := n3_; have GW106 := n4_; have GE106 := n5_; have NB101_106 := n6_; have NB106_101 := n7_; have NB102_106 := n8_; have NB106_102 := n9_; clear n0_ n1_ n2_ n3_ n4_ n5_ n6_ n7_ n8_ n9_; clear hb hbox hg; have hnb16 := NB106_101.out; have hnc16 := NB101_106.out; have hnb17 := NB106_102.out; have hnc17 := NB102_106.out; have hcz18_0 : w15.cell? ⟨gb106, 0, none⟩ = some (.int .u64 0) := (blk_cell BK106.out 0).trans rfl; have hcz18_1 : w15.cell? ⟨gb106, 1, none⟩ = some (.int .u64 0) := (blk_cell BK106.out 1).trans rfl; have hfz18_0 := blk_frozen BK106.out 0; have hfz18_1 := blk_frozen BK106.out 1) | ((with_reducible refine gate_callee (f := 18) rfl ?_); refine goesL_ (some 32) rfl rfl Try.func18 (by kernel_rfl) rfl #[.slice A2 l2.length c2] rfl (by (try simp only [List.map_toArray, List.map_cons, List.map_nil]); first | done | rfl | (simp only [List.length_drop, List.length_take]; rfl)) ?_; (with_reducible refine (inquestref06_Of.calls k _ _ l2 t107 t108 t109 _ ?side1 ?side2 A8.out).mono ?_); (case side1 => exact Kd.C_below HR2.out (by repeat (first | (with_reducible first | exact HB.out | apply below_alloc | apply pw_below_drewN | apply below_drew1 | refine below_set ?_ GE101.out | refine below_set ?_ GE102.out | refine below_set ?_ GE106.out) | exact HB.out))); (case side2 => exact HC2.out); rintro e w19 ⟨rfl, hb⟩; refine ⟨_, rfl, ?_⟩; have n0_ := Aside0.mk (blk_below (g := gb101) (o := .cells #[.int .u64 a0_0, .int .u64 a0_1] 24 (0, 0)) (by (with_reducible repeat (first | refine blk_drewN ?_ _ | refine blk_drew ?_ | refine blk_alloc ?_ _)); refine blk_far ?_ NB101_106.out _; (with_reducible repeat (first | refine blk_drewN ?_ _ | refine blk_drew ?_ | refine blk_alloc ?_ _)); refine blk_far ?_ NB101_106.out _; (with_reducible repeat (first | refine blk_drewN ?_ _ | refine blk_drew ?_ | refine blk_alloc ?_ _)); exact BK101.out) hb); have n1_ := Aside0.mk (blk_below (g := gb102) (o := .cells #[.int .u64 a1_0, .int .u64 a1_1] 24 (0, 0)) (by (with_reducible repeat (first | refine blk_drewN ?_ _ | refine blk_drew ?_ | refine blk_alloc ?_ _)); refine blk_far ?_ NB102_106.out _; (with_reducible repeat (first | refine blk_drewN ?_ _ | refine blk_drew ?_ | refine blk_alloc ?_ _)); refine blk_far ?_ NB102_106.out _; (with_reducible repeat (first | refine blk_drewN ?_ _ | refine blk_drew ?_ | refine blk_alloc ?_ _)); exact BK102.out) hb); have n2_ := Aside0.mk (blk_below (g := gb106) (o := .cells #[.int .u64 t103, .int .u64 t104] 24 (0, 0)) (by (with_reducible repeat (first | refine blk_drewN ?_ _ | refine blk_drew ?_ | refine blk_alloc ?_ _)); refine blk_put (cs := #[.int .u64 t103, .int .u64 0]) ?_ 1 _ rfl; (with_reducible repeat (first | refine blk_drewN ?_ _ | refine blk_drew ?_ | refine blk_alloc ?_ _)); refine blk_put (cs := #[.int .u64 0, .int .u64 0]) ?_ 0 _ rfl; (with_reducible repeat (first | refine blk_drewN ?_ _ | refine blk_drew ?_ | refine blk_alloc ?_ _)); exact BK106.out) hb); have n3_ := Aside0.mk (below_step (by repeat (first | (with_reducible first | exact HB.out | apply below_alloc | apply pw_below_drewN | apply below_drew1 | refine below_set ?_ GE101.out | refine below_set ?_ GE102.out | refine below_set ?_ GE106.out) | exact HB.out)) hb); clear BK101; clear BK102; clear BK106; clear HB; have BK101 := n0_; have BK102 := n1_; have BK106 := n2_; have HB := n3_; clear n0_ n1_ n2_ n3_; (try clear hb); (try clear hb2); (try clear hk); (try clear hi)) | ((with_reducible refine gate_dst (N := 15) rfl ?_); refine box_event ?hg (N := 15) ?hd (cs := #[.int .u64 0, .int .u64 0]) (t := 24) ?hr ?_; (case hd => rfl); (case hg => rfl); (case hr => first | (go_simp; done) | (go_simp; rfl)); intro gb110 hg w20 hbox hb; have n0_ := Aside0.mk (blk_below (g := gb101) (o := .cells #[.int .u64 a0_0, .int .u64 a0_1] 24 (0, 0)) (by (with_reducible repeat (first | refine blk_drewN ?_ _ | refine blk_drew ?_ | refine blk_alloc ?_ _)); exact BK101.out) hb); have n1_ := Aside0.mk (blk_below (g := gb102) (o := .cells #[.int .u64 a1_0, .int .u64 a1_1] 24 (0, 0)) (by (with_reducible repeat (first | refine blk_drewN ?_ _ | refine blk_drew ?_ | refine blk_alloc ?_ _)); exact BK102.out) hb); have n2_ := Aside0.mk (blk_below (g := gb106) (o := .cells #[.int .u64 t103, .int .u64 t104] 24 (0, 0)) (by (with_reducible repeat (first | refine blk_drewN ?_ _ | refine blk_drew ?_ | refine blk_alloc ?_ _)); exact BK106.out) hb); have n3_ := Aside0.mk (below_step (by repeat (first | (with_reducible first | exact HB.out | apply below_alloc | apply pw_below_drewN | apply below_drew1 | refine below_set ?_ GE101.out | refine below_set ?_ GE102.out | refine below_set ?_ GE106.out) | exact HB.out)) hb); have n4_ := Aside0.mk (hbox); have n5_ := Aside0.mk ((by rw [hg]; exact (below_size (by repeat (first | (with_reducible first | exact HB.out | apply below_alloc | apply pw_below_drewN | apply below_drew1 | refine below_set ?_ GE101.out | refine below_set ?_ GE102.out | refine below_set ?_ GE106.out) | exact HB.out))) : w.heap.size ≤ gb110)); have n6_ := Aside0.mk ((by rw [hg]; exact (below_size (by repeat (first | (with_reducible first | exact HB.out | apply below_alloc | apply pw_below_drewN | apply below_drew1 | refine below_set ?_ GE101.out | refine below_set ?_ GE102.out | refine below_set ?_ GE106.out) | exact HB.out))) : w.heap.size ≤ gb110)); have n7_ := Aside0.mk ((by rw [hg]; exact Nat.ne_of_lt (blk_lt (g := gb101) (o := .cells #[.int .u64 a0_0, .int .u64 a0_1] 24 (0, 0)) (by (with_reducible repeat (first | refine blk_drewN ?_ _ | refine blk_drew ?_ | refine blk_alloc ?_ _)); exact BK101.out)) : gb101 ≠ gb110)); have n8_ := Aside0.mk ((by rw [hg]; exact Nat.ne_of_gt (blk_lt (g := gb101) (o := .cells #[.int .u64 a0_0, .int .u64 a0_1] 24 (0, 0)) (by (with_reducible repeat (first | refine blk_drewN ?_ _ | refine blk_drew ?_ | refine blk_alloc ?_ _)); exact BK101.out)) : gb110 ≠ gb101)); have n9_ := Aside0.mk ((by rw [hg]; exact Nat.ne_of_lt (blk_lt (g := gb102) (o := .cells #[.int .u64 a1_0, .int .u64 a1_1] 24 (0, 0)) (by (with_reducible repeat (first | refine blk_drewN ?_ _ | refine blk_drew ?_ | refine blk_alloc ?_ _)); exact BK102.out)) : gb102 ≠ gb110)); have n10_ := Aside0.mk ((by rw [hg]; exact Nat.ne_of_gt (blk_lt (g := gb102) (o := .cells #[.int .u64 a1_0, .int .u64 a1_1] 24 (0, 0)) (by (with_reducible repeat (first | refine blk_drewN ?_ _ | refine blk_drew ?_ | refine blk_alloc ?_ _)); exact BK102.out)) : gb110 ≠ gb102)); have n11_ := Aside0.mk ((by rw [hg]; exact Nat.ne_of_lt (blk_lt (g := gb106) (o := .cells #[.int .u64 t103, .int .u64 t104] 24 (0, 0)) (by (with_reducible repeat (first | refine blk_drewN ?_ _ | refine blk_drew ?_ | refine blk_alloc ?_ _)); exact BK106.out)) : gb106 ≠ gb110)); have n12_ := Aside0.mk ((by rw [hg]; exact Nat.ne_of_gt (blk_lt (g := gb106) (o := .cells #[.int .u64 t103, .int .u64 t104] 24 (0, 0)) (by (with_reducible repeat (first | refine blk_drewN ?_ _ | refine blk_drew ?_ | refine blk_alloc ?_ _)); exact BK106.out)) : gb110 ≠ gb106)); clear BK101; clear BK102; clear BK106; clear HB; have BK101 := n0_; have BK102 := n1_; have BK106 := n2_; have HB := n3_; have BK110 := n4_; have GW110 := n5_; have GE110 := n6_; have NB101_110 := n7_; have NB110_101 := n8_; have NB102_110 := n9_; have NB110_102 := n10_; have NB106_110 := n11_; have NB110_106 := n12_; clear n0_ n1_ n2_ n3_ n4_ n5_ n6_ n7_ n8_ n9_ n10_ n11_ n12_; clear hb hbox hg; have hnb21 := NB110_101.out; have hnc21 := NB101_110.out; have hnb22 := NB110_102.out; have hnc22 := NB102_110.out; have hnb23 := NB110_106.out; have hnc23 := NB106_110.out; have hcz24_0 : w20.cell? ⟨gb110, 0, none⟩ = some (.int .u64 0) := (blk_cell BK110.out 0).trans rfl; have hcz24_1 : w20.cell? ⟨gb110, 1, none⟩ = some (.int .u64 0) := (blk_cell BK110.out 1).trans rfl; have hfz24_0 := blk_frozen BK110.out 0; have hfz24_1 := blk_frozen BK110.out 1) | ((with_reducible refine gate_callee (f := 19) rfl ?_); refine goesL_ (some 37) rfl rfl Try.func19 (by kernel_rfl) rfl #[.int .u8 a4] rfl (by (try simp only [List.map_toArray, List.map_cons, List.map_nil]); first | done | rfl | (simp only [List.length_drop, List.length_take]; rfl)) ?_; (with_reducible refine (tern_All.calls a4 t111 t112 t113 _ A9.out).mono ?_); rintro e w25 ⟨rfl, hb⟩; refine ⟨_, rfl, ?_⟩; have n0_ := Aside0.mk (blk_below (g := gb101) (o := .cells #[.int .u64 a0_0, .int .u64 a0_1] 24 (0, 0)) (by (with_reducible repeat (first | refine blk_drewN ?_ _ | refine blk_drew ?_ | refine blk_alloc ?_ _)); refine blk_far ?_ NB101_110.out _; (with_reducible repeat (first | refine blk_drewN ?_ _ | refine blk_drew ?_ | refine blk_alloc ?_ _)); refine blk_far ?_ NB101_110.out _; (with_reducible repeat (first | refine blk_drewN ?_ _ | refine blk_drew ?_ | refine blk_alloc ?_ _)); exact BK101.out) hb); have n1_ := Aside0.mk (blk_below (g := gb102) (o := .cells #[.int .u64 a1_0, .int .u64 a1_1] 24 (0, 0)) (by (with_reducible repeat (first | refine blk_drewN ?_ _ | refine blk_drew ?_ | refine blk_alloc ?_ _)); refine blk_far ?_ NB102_110.out _; (with_reducible repeat (first | refine blk_drewN ?_ _ | refine blk_drew ?_ | refine blk_alloc ?_ _)); refine blk_far ?_ NB102_110.out _; (with_reducible repeat (first | refine blk_drewN ?_ _ | refine blk_drew ?_ | refine blk_alloc ?_ _)); exact BK102.out) hb); have n2_ := Aside0.mk (blk_below (g := gb106) (o := .cells #[.int .u64 t103, .int .u64 t104] 24 (0, 0)) (by (with_reducible repeat (first | refine blk_drewN ?_ _ | refine blk_drew ?_ | refine blk_alloc ?_ _)); refine blk_far ?_ NB106_110.out _; (with_reducible repeat (first | refine blk_drewN ?_ _ | refine blk_drew ?_ | refine blk_alloc ?_ _)); refine blk_far ?_ NB106_110.out _; (with_reducible repeat (first | refine blk_drewN ?_ _ | refine blk_drew ?_ | refine blk_alloc ?_ _)); exact BK106.out) hb); have n3_ := Aside0.mk (blk_below (g := gb110) (o := .cells #[.int .u64 t107, .int .u64 t108] 24 (0, 0)) (by (with_reducible repeat (first | refine blk_drewN ?_ _ | refine blk_drew ?_ | refine blk_alloc ?_ _)); refine blk_put (cs := #[.int .u64 t107, .int .u64 0]) ?_ 1 _ rfl; (with_reducible repeat (first | refine blk_drewN ?_ _ | refine blk_drew ?_ | refine blk_alloc ?_ _)); refine blk_put (cs := #[.int .u64 0, .int .u64 0]) ?_ 0 _ rfl; (with_reducible repeat (first | refine blk_drewN ?_ _ | refine blk_drew ?_ | refine blk_alloc ?_ _)); exact BK110.out) hb); have n4_ := Aside0.mk (below_step (by repeat (first | (with_reducible first | exact HB.out | apply below_alloc | apply pw_below_drewN | apply below_drew1 | refine below_set ?_ GE101.out | refine below_set ?_ GE102.out | refine below_set ?_ GE106.out | refine below_set ?_ GE110.out) | exact HB.out)) hb); clear BK101; clear BK102; clear BK106; clear BK110; clear HB; have BK101 := n0_; have BK102 := n1_; have BK106 := n2_; have BK110 := n3_; have HB := n4_; clear n0_ n1_ n2_ n3_ n4_; (try clear hb); (try clear hb2); (try clear hk); (try clear hi)) | ((with_reducible refine gate_dst (N := 17) rfl ?_); refine box_event ?hg (N := 17) ?hd (cs := #[.int .u64 0, .int .u64 0]) (t := 24) ?hr ?_; (case hd => rfl); (case hg => rfl); (case hr => first | (go_simp; done) | (go_simp; rfl)); intro gb114 hg w26 hbox hb; have n0_ := Aside0.mk (blk_below (g := gb101) (o := .cells #[.int .u64 a0_0, .int .u64 a0_1] 24 (0, 0)) (by (with_reducible repeat (first | refine blk_drewN ?_ _ | refine blk_drew ?_ | refine blk_alloc ?_ _)); exact BK101.out) hb); have n1_ := Aside0.mk (blk_below (g := gb102) (o := .cells #[.int .u64 a1_0, .int .u64 a1_1] 24 (0, 0)) (by (with_reducible repeat (first | refine blk_drewN ?_ _ | refine blk_drew ?_ | refine blk_alloc ?_ _)); exact BK102.out) hb); have n2_ := Aside0.mk (blk_below (g := gb106) (o := .cells #[.int .u64 t103, .int .u64 t104] 24 (0, 0)) (by (with_reducible repeat (first | refine blk_drewN ?_ _ | refine blk_drew ?_ | refine blk_alloc ?_ _)); exact BK106.out) hb); have n3_ := Aside0.mk (blk_below (g := gb110) (o := .cells #[.int .u64 t107, .int .u64 t108] 24 (0, 0)) (by (with_reducible repeat (first | refine blk_drewN ?_ _ | refine blk_drew ?_ | refine blk_alloc ?_ _)); exact BK110.out) hb); have n4_ := Aside0.mk (below_step (by repeat (first | (with_reducible first | exact HB.out | apply below_alloc | apply pw_below_drewN | apply below_drew1 | refine below_set ?_ GE101.out | refine below_set ?_ GE102.out | refine below_set ?_ GE106.out | refine below_set ?_ GE110.out) | exact HB.out)) hb); have n5_ := Aside0.mk (hbox); have n6_ := Aside0.mk ((by rw [hg]; exact (below_size (by repeat (first | (with_reducible first | exact HB.out | apply below_alloc | apply pw_below_drewN | apply below_drew1 | refine below_set ?_ GE101.out | refine below_set ?_ GE102.out | refine below_set ?_ GE106.out | refine below_set ?_ GE110.out) | exact HB.out))) : w.heap.size ≤ gb114)); have n7_ := Aside0.mk ((by rw [hg]; exact (below_size (by repeat (first | (with_reducible first | exact HB.out | apply below_alloc | apply pw_below_drewN | apply below_drew1 | refine below_set ?_ GE101.out | refine below_set ?_ GE102.out | refine below_set ?_ GE106.out | refine below_set ?_ GE110.out) | exact HB.out))) : w.heap.size ≤ gb114)); have n8_ := Aside0.mk ((by rw [hg]; exact Nat.ne_of_lt (blk_lt (g := gb101) (o := .cells #[.int .u64 a0_0, .int .u64 a0_1] 24 (0, 0)) (by (with_reducible repeat (first | refine blk_drewN ?_ _ | refine blk_drew ?_ | refine blk_alloc ?_ _)); exact BK101.out)) : gb101 ≠ gb114)); have n9_ := Aside0.mk ((by rw [hg]; exact Nat.ne_of_gt (blk_lt (g := gb101) (o := .cells #[.int .u64 a0_0, .int .u64 a0_1] 24 (0, 0)) (by (with_reducible repeat (first | refine blk_drewN ?_ _ | refine blk_drew ?_ | refine blk_alloc ?_ _)); exact BK101.out)) : gb114 ≠ gb101)); have n10_ := Aside0.mk ((by rw [hg]; exact Nat.ne_of_lt (blk_lt (g := gb102) (o := .cells #[.int .u64 a1_0, .int .u64 a1_1] 24 (0, 0)) (by (with_reducible repeat (first | refine blk_drewN ?_ _ | refine blk_drew ?_ | refine blk_alloc ?_ _)); exact BK102.out)) : gb102 ≠ gb114)); have n11_ := Aside0.mk ((by rw [hg]; exact Nat.ne_of_gt (blk_lt (g := gb102) (o := .cells #[.int .u64 a1_0, .int .u64 a1_1] 24 (0, 0)) (by (with_reducible repeat (first | refine blk_drewN ?_ _ | refine blk_drew ?_ | refine blk_alloc ?_ _)); exact BK102.out)) : gb114 ≠ gb102)); have n12_ := Aside0.mk ((by rw [hg]; exact Nat.ne_of_lt (blk_lt (g := gb106) (o := .cells #[.int .u64 t103, .int .u64 t104] 24 (0, 0)) (by (with_reducible repeat (first | refine blk_drewN ?_ _ | refine blk_drew ?_ | refine blk_alloc ?_ _)); exact BK106.out)) : gb106 ≠ gb114)); have n13_ := Aside0.mk ((by rw [hg]; exact Nat.ne_of_gt (blk_lt (g := gb106) (o := .cells #[.int .u64 t103, .int .u64 t104] 24 (0, 0)) (by (with_reducible repeat (first | refine blk_drewN ?_ _ | refine blk_drew ?_ | refine blk_alloc ?_ _)); exact BK106.out)) : gb114 ≠ gb106)); have n14_ := Aside0.mk ((by rw [hg]; exact Nat.ne_of_lt (blk_lt (g := gb110) (o := .cells #[.int .u64 t107, .int .u64 t108] 24 (0, 0)) (by (with_reducible repeat (first | refine blk_drewN ?_ _ | refine blk_drew ?_ | refine blk_alloc ?_ _)); exact BK110.out)) : gb110 ≠ gb114)); have n15_ := Aside0.mk ((by rw [hg]; exact Nat.ne_of_gt (blk_lt (g := gb110) (o := .cells #[.int .u64 t107, .int .u64 t108] 24 (0, 0)) (by (with_reducible repeat (first | refine blk_drewN ?_ _ | refine blk_drew ?_ | refine blk_alloc ?_ _)); exact BK110.out)) : gb114 ≠ gb110)); clear BK101; clear BK102; clear BK106; clear BK110; clear HB; have BK101 := n0_; have BK102 := n1_; have BK106 := n2_; have BK110 := n3_; have HB := n4_; have BK114 := n5_; have GW114 := n6_; have GE114 := n7_; have NB101_114 := n8_; have NB114_101 := n9_; have NB102_114 := n10_; have NB114_102 := n11_; have NB106_114 := n12_; have NB114_106 := n13_; have NB110_114 := n14_; have NB114_110 := n15_; clear n0_ n1_ n2_ n3_ n4_ n5_ n6_ n7_ n8_ n9_ n10_ n11_ n12_ n13_ n14_ n15_; clear hb hbox hg; have hnb27 := NB114_101.out; have hnc27 := NB101_114.out; have hnb28 := NB114_102.out; have hnc28 := NB102_114.out; have hnb29 := NB114_106.out; have hnc29 := NB106_114.out; have hnb30 := NB114_110.out; have hnc30 := NB110_114.out; have hcz31_0 : w26.cell? ⟨gb114, 0, none⟩ = some (.int .u64 0) := (blk_cell BK114.out 0).trans rfl; have hcz31_1 : w26.cell? ⟨gb114, 1, none⟩ = some (.int .u64 0) := (blk_cell BK114.out 1).trans rfl; have hfz31_0 := blk_frozen BK114.out 0; have hfz31_1 := blk_frozen BK114.out 1) | ((with_reducible refine gate_callee (f := 20) rfl ?_); refine goesL_ (some 42) rfl rfl Try.func20 (by kernel_rfl) rfl #[.int .u8 a4] rfl (by (try simp only [List.map_toArray, List.map_cons, List.map_nil]); first | done | rfl | (simp only [List.length_drop, List.length_take]; rfl)) ?_; (with_reducible refine (inquestref06_All.calls k a4 t115 t116 t117 _ A10.out).mono ?_); rintro e w32 ⟨rfl, hb⟩; refine ⟨_, rfl, ?_⟩; have n0_ := Aside0.mk (blk_below (g := gb101) (o := .cells #[.int .u64 a0_0, .int .u64 a0_1] 24 (0, 0)) (by (with_reducible repeat (first | refine blk_drewN ?_ _ | refine blk_drew ?_ | refine blk_alloc ?_ _)); refine blk_far ?_ NB101_114.out _; (with_reducible repeat (first | refine blk_drewN ?_ _ | refine blk_drew ?_ | refine blk_alloc ?_ _)); refine blk_far ?_ NB101_114.out _; (with_reducible repeat (first | refine blk_drewN ?_ _ | refine blk_drew ?_ | refine blk_alloc ?_ _)); exact BK101.out) hb); have n1_ := Aside0.mk (blk_below (g := gb102) (o := .cells #[.int .u64 a1_0, .int .u64 a1_1] 24 (0, 0)) (by (with_reducible repeat (first | refine blk_drewN ?_ _ | refine blk_drew ?_ | refine blk_alloc ?_ _)); refine blk_far ?_ NB102_114.out _; (with_reducible repeat (first | refine blk_drewN ?_ _ | refine blk_drew ?_ | refine blk_alloc ?_ _)); refine blk_far ?_ NB102_114.out _; (with_reducible repeat (first | refine blk_drewN ?_ _ | refine blk_drew ?_ | refine blk_alloc ?_ _)); exact BK102.out) hb); have n2_ := Aside0.mk (blk_below (g := gb106) (o := .cells #[.int .u64 t103, .int .u64 t104] 24 (0, 0)) (by (with_reducible repeat (first | refine blk_drewN ?_ _ | refine blk_drew ?_ | refine blk_alloc ?_ _)); refine blk_far ?_ NB106_114.out _; (with_reducible repeat (first | refine blk_drewN ?_ _ | refine blk_drew ?_ | refine blk_alloc ?_ _)); refine blk_far ?_ NB106_114.out _; (with_reducible repeat (first | refine blk_drewN ?_ _ | refine blk_drew ?_ | refine blk_alloc ?_ _)); exact BK106.out) hb); have n3_ := Aside0.mk (blk_below (g := gb110) (o := .cells #[.int .u64 t107, .int .u64 t108] 24 (0, 0)) (by (with_reducible repeat (first | refine blk_drewN ?_ _ | refine blk_drew ?_ | refine blk_alloc ?_ _)); refine blk_far ?_ NB110_114.out _; (with_reducible repeat (first | refine blk_drewN ?_ _ | refine blk_drew ?_ | refine blk_alloc ?_ _)); refine blk_far ?_ NB110_114.out _; (with_reducible repeat (first | refine blk_drewN ?_ _ | refine blk_drew ?_ | refine blk_alloc ?_ _)); exact BK110.out) hb); have n4_ := Aside0.mk (blk_below (g := gb114) (o := .cells #[.int .u64 t111, .int .u64 t112] 24 (0, 0)) (by (with_reducible repeat (first | refine blk_drewN ?_ _ | refine blk_drew ?_ | refine blk_alloc ?_ _)); refine blk_put (cs := #[.int .u64 t111, .int .u64 0]) ?_ 1 _ rfl; (with_reducible repeat (first | refine blk_drewN ?_ _ | refine blk_drew ?_ | refine blk_alloc ?_ _)); refine blk_put (cs := #[.int .u64 0, .int .u64 0]) ?_ 0 _ rfl; (with_reducible repeat (first | refine blk_drewN ?_ _ | refine blk_drew ?_ | refine blk_alloc ?_ _)); exact BK114.out) hb); have n5_ := Aside0.mk (below_step (by repeat (first | (with_reducible first | exact HB.out | apply below_alloc | apply pw_below_drewN | apply below_drew1 | refine below_set ?_ GE101.out | refine below_set ?_ GE102.out | refine below_set ?_ GE106.out | refine below_set ?_ GE110.out | refine below_set ?_ GE114.out) | exact HB.out)) hb); clear BK101; clear BK102; clear BK106; clear BK110; clear BK114; clear HB; have BK101 := n0_; have BK102 := n1_; have BK106 := n2_; have BK110 := n3_; have BK114 := n4_; have HB := n5_; clear n0_ n1_ n2_ n3_ n4_ n5_; (try clear hb); (try clear hb2); (try clear hk); (try clear hi)) | ((with_reducible refine gate_dst (N := 19) rfl ?_); refine box_event ?hg (N := 19) ?hd (cs := #[.int .u64 0, .int .u64 0]) (t := 24) ?hr ?_; (case hd => rfl); (case hg => rfl); (case hr => first | (go_simp; done) | (go_simp; rfl)); intro gb118 hg w33 hbox hb; have n0_ := Aside0.mk (blk_below (g := gb101) (o := .cells #[.int .u64 a0_0, .int .u64 a0_1] 24 (0, 0)) (by (with_reducible repeat (first | refine blk_drewN ?_ _ | refine blk_drew ?_ | refine blk_alloc ?_ _)); exact BK101.out) hb); have n1_ := Aside0.mk (blk_below (g := gb102) (o := .cells #[.int .u64 a1_0, .int .u64 a1_1] 24 (0, 0)) (by (with_reducible repeat (first | refine blk_drewN ?_ _ | refine blk_drew ?_ | refine blk_alloc ?_ _)); exact BK102.out) hb); have n2_ := Aside0.mk (blk_below (g := gb106) (o := .cells #[.int .u64 t103, .int .u64 t104] 24 (0, 0)) (by (with_reducible repeat (first | refine blk_drewN ?_ _ | refine blk_drew ?_ | refine blk_alloc ?_ _)); exact BK106.out) hb); have n3_ := Aside0.mk (blk_below (g := gb110) (o := .cells #[.int .u64 t107, .int .u64 t108] 24 (0, 0)) (by (with_reducible repeat (first | refine blk_drewN ?_ _ | refine blk_drew ?_ | refine blk_alloc ?_ _)); exact BK110.out) hb); have n4_ := Aside0.mk (blk_below (g := gb114) (o := .cells #[.int .u64 t111, .int .u64 t112] 24 (0, 0)) (by (with_reducible repeat (first | refine blk_drewN ?_ _ | refine blk_drew ?_ | refine blk_alloc ?_ _)); exact BK114.out) hb); have n5_ := Aside0.mk (below_step (by repeat (first | (with_reducible first | exact HB.out | apply below_alloc | apply pw_below_drewN | apply below_drew1 | refine below_set ?_ GE101.out | refine below_set ?_ GE102.out | refine below_set ?_ GE106.out | refine below_set ?_ GE110.out | refine below_set ?_ GE114.out) | exact HB.out)) hb); have n6_ := Aside0.mk (hbox); have n7_ := Aside0.mk ((by rw [hg]; exact (below_size (by repeat (first | (with_reducible first | exact HB.out | apply below_alloc | apply pw_below_drewN | apply below_drew1 | refine below_set ?_ GE101.out | refine below_set ?_ GE102.out | refine below_set ?_ GE106.out | refine below_set ?_ GE110.out | refine below_set ?_ GE114.out) | exact HB.out))) : w.heap.size ≤ gb118)); have n8_ := Aside0.mk ((by rw [hg]; exact (below_size (by repeat (first | (with_reducible first | exact HB.out | apply below_alloc | apply pw_below_drewN | apply below_drew1 | refine below_set ?_ GE101.out | refine below_set ?_ GE102.out | refine below_set ?_ GE106.out | refine below_set ?_ GE110.out | refine below_set ?_ GE114.out) | exact HB.out))) : w.heap.size ≤ gb118)); have n9_ := Aside0.mk ((by rw [hg]; exact Nat.ne_of_lt (blk_lt (g := gb101) (o := .cells #[.int .u64 a0_0, .int .u64 a0_1] 24 (0, 0)) (by (with_reducible repeat (first | refine blk_drewN ?_ _ | refine blk_drew ?_ | refine blk_alloc ?_ _)); exact BK101.out)) : gb101 ≠ gb118)); have n10_ := Aside0.mk ((by rw [hg]; exact Nat.ne_of_gt (blk_lt (g := gb101) (o := .cells #[.int .u64 a0_0, .int .u64 a0_1] 24 (0, 0)) (by (with_reducible repeat (first | refine blk_drewN ?_ _ | refine blk_drew ?_ | refine blk_alloc ?_ _)); exact BK101.out)) : gb118 ≠ gb101)); have n11_ := Aside0.mk ((by rw [hg]; exact Nat.ne_of_lt (blk_lt (g := gb102) (o := .cells #[.int .u64 a1_0, .int .u64 a1_1] 24 (0, 0)) (by (with_reducible repeat (first | refine blk_drewN ?_ _ | refine blk_drew ?_ | refine blk_alloc ?_ _)); exact BK102.out)) : gb102 ≠ gb118)); have n12_ := Aside0.mk ((by rw [hg]; exact Nat.ne_of_gt (blk_lt (g := gb102) (o := .cells #[.int .u64 a1_0, .int .u64 a1_1] 24 (0, 0)) (by (with_reducible repeat (first | refine blk_drewN ?_ _ | refine blk_drew ?_ | refine blk_alloc ?_ _)); exact BK102.out)) : gb118 ≠ gb102)); have n13_ := Aside0.mk ((by rw [hg]; exact Nat.ne_of_lt (blk_lt (g := gb106) (o := .cells #[.int .u64 t103, .int .u64 t104] 24 (0, 0)) (by (with_reducible repeat (first | refine blk_drewN ?_ _ | refine blk_drew ?_ | refine blk_alloc ?_ _)); exact BK106.out)) : gb106 ≠ gb118)); have n14_ := Aside0.mk ((by rw [hg]; exact Nat.ne_of_gt (blk_lt (g := gb106) (o := .cells #[.int .u64 t103, .int .u64 t104] 24 (0, 0)) (by (with_reducible repeat (first | refine blk_drewN ?_ _ | refine blk_drew ?_ | refine blk_alloc ?_ _)); exact BK106.out)) : gb118 ≠ gb106)); have n15_ := Aside0.mk ((by rw [hg]; exact Nat.ne_of_lt (blk_lt (g := gb110) (o := .cells #[.int .u64 t107, .int .u64 t108] 24 (0, 0)) (by (with_reducible repeat (first | refine blk_drewN ?_ _ | refine blk_drew ?_ | refine blk_alloc ?_ _)); exact BK110.out)) : gb110 ≠ gb118)); have n16_ := Aside0.mk ((by rw [hg]; exact Nat.ne_of_gt (blk_lt (g := gb110) (o := .cells #[.int .u64 t107, .int .u64 t108] 24 (0, 0)) (by (with_reducible repeat (first | refine blk_drewN ?_ _ | refine blk_drew ?_ | refine blk_alloc ?_ _)); exact BK110.out)) : gb118 ≠ gb110)); have n17_ := Aside0.mk ((by rw [hg]; exact Nat.ne_of_lt (blk_lt (g := gb114) (o := .cells #[.int .u64 t111, .int .u64 t112] 24 (0, 0)) (by (with_reducible repeat (first | refine blk_drewN ?_ _ | refine blk_drew ?_ | refine blk_alloc ?_ _)); exact BK114.out)) : gb114 ≠ gb118)); have n18_ := Aside0.mk ((by rw [hg]; exact Nat.ne_of_gt (blk_lt (g := gb114) (o := .cells #[.int .u64 t111, .int .u64 t112] 24 (0, 0)) (by (with_reducible repeat (first | refine blk_drewN ?_ _ | refine blk_drew ?_ | refine blk_alloc ?_ _)); exact BK114.out)) : gb118 ≠ gb114)); clear BK101; clear BK102; clear BK106; clear BK110; clear BK114; clear HB; have BK101 := n0_; have BK102 := n1_; have BK106 := n2_; have BK110 := n3_; have BK114 := n4_; have HB := n5_; have BK118 := n6_; have GW118 := n7_; have GE118 := n8_; have NB101_118 := n9_; have NB118_101 := n10_; have NB102_118 := n11_; have NB118_102 := n12_; have NB106_118 := n13_; have NB118_106 := n14_; have NB110_118 := n15_; have NB118_110 := n16_; have NB114_118 := n17_; have NB118_114 := n18_; clear n0_ n1_ n2_ n3_ n4_ n5_ n6_ n7_ n8_ n9_ n10_ n11_ n12_ n13_ n14_ n15_ n16_ n17_ n18_; clear hb hbox hg; have hnb34 := NB118_101.out; have hnc34 := NB101_118.out; have hnb35 := NB118_102.out; have hnc35 := NB102_118.out; have hnb36 := NB118_106.out; have hnc36 := NB106_118.out; have hnb37 := NB118_110.out; have hnc37 := NB110_118.out; have hnb38 := NB118_114.out; have hnc38 := NB114_118.out; have hcz39_0 : w33.cell? ⟨gb118, 0, none⟩ = some (.int .u64 0) := (blk_cell BK118.out 0).trans rfl; have hcz39_1 : w33.cell? ⟨gb118, 1, none⟩ = some (.int .u64 0) := (blk_cell BK118.out 1).trans rfl; have hfz39_0 := blk_frozen BK118.out 0; have hfz39_1 := blk_frozen BK118.out 1))
  (try simp only [Act.put, List.setIfInBounds_toArray, List.set_cons_zero, List.set_cons_succ])
  go_cut [69] (fun v69 wc => ∃ (kq : Nat) (x69_10 : Bool), v69 = .bool x69_10 ∧ Aside0 (inquestlaw06_TernTells.j0 kq a3 a4 a5 x69_10 a0_0 a0_1 a1_0 a1_1 = some r) ∧ Aside0 (kq ≤ k) ∧ Aside0 (wc.heap[gb101]? = some (.cells #[.int .u64 a0_0, .int .u64 a0_1] 24 (0, 0))) ∧ Aside0 (wc.heap[gb102]? = some (.cells #[.int .u64 a1_0, .int .u64 a1_1] 24 (0, 0))) ∧ Aside0 (wc.heap[gb106]? = some (.cells #[.int .u64 t103, .int .u64 t104] 24 (0, 0))) ∧ Aside0 (wc.heap[gb110]? = some (.cells #[.int .u64 t107, .int .u64 t108] 24 (0, 0))) ∧ Aside0 (wc.heap[gb114]? = some (.cells #[.int .u64 t111, .int .u64 t112] 24 (0, 0))) ∧ Aside0 (wc.heap[gb118]? = some (.cells #[.int .u64 t115, .int .u64 t116] 24 (0, 0))) ∧ Aside0 (Below w.heap.size w wc))
  case first =>
    have H := HC11.out
    clear HC11
    by_cases c40 : (!(t103 == t107) || (!(t104 == t108))) = true
    · rw [if_pos c40] at H
      have c40b0 : (!(t103 == t107) || (!(t104 == t108))) = true := c40
      clear c40
      (first | rw [c40b0] | (simp only [i64_w, i32_w]; rw [c40b0]) | skip)
      cases k with
      | zero => exact absurd H (by simp [inquestlaw06_TernTells.j0])
      | succ kz_ => exact absurd ((Option.some.inj (show some false = some r from H)).trans hrt.out) (by simp)
    · rw [if_neg c40] at H
      have c40b0 : (!(t103 == t107) || (!(t104 == t108))) = false := by simpa using c40
      clear c40
      (first | rw [c40b0] | (simp only [i64_w, i32_w]; rw [c40b0]) | skip)
      by_cases c41 : t105 = t109
      · rw [if_pos c41] at H
        have c41b0 : (t105 == t109) = true := beq_iff_eq.mpr c41
        have c41b1 : (t105 != t109) = false := bne_eq_false_iff_eq.mpr c41
        clear c41
        by_cases c42 : (!(t111 == t115) || (!(t112 == t116))) = true
        · rw [if_pos c42] at H
          have c42b0 : (!(t111 == t115) || (!(t112 == t116))) = true := c42
          clear c42
          cases k with
          | zero => exact absurd H (by simp [inquestlaw06_TernTells.j0])
          | succ kz_ => exact absurd ((Option.some.inj (show some false = some r from H)).trans hrt.out) (by simp)
        · rw [if_neg c42] at H
          have c42b0 : (!(t111 == t115) || (!(t112 == t116))) = false := by simpa using c42
          clear c42
          by_cases c43 : t113 = t117
          · rw [if_pos c43] at H
            have c43b0 : (t113 == t117) = true := beq_iff_eq.mpr c43
            have c43b1 : (t113 != t117) = false := bne_eq_false_iff_eq.mpr c43
            clear c43
            replace H := Option.bind_eq_some_iff.mp H
            obtain ⟨t119, A440, H⟩ := H
            replace H : ((inquestref06_May.f k a0_0 a0_1).bind fun t120 => (inquestlaw06_TernTells.j0 k a3 a4 a5 (t119 != t120) a0_0 a0_1 a1_0 a1_1)) = some r := H
            have A44 := Aside0.mk A440
            clear A440
            replace H := Option.bind_eq_some_iff.mp H
            obtain ⟨t120, A450, H⟩ := H
            replace H : (inquestlaw06_TernTells.j0 k a3 a4 a5 (t119 != t120) a0_0 a0_1 a1_0 a1_1) = some r := H
            have A45 := Aside0.mk A450
            clear A450
            have H' := Aside0.mk H
            clear H
            try go_wp2
            have n0_ : Aside0 (((w33.setCell ⟨gb118, 0, none⟩ (.int .u64 t115)).setCell ⟨gb118, 1, none⟩ (.int .u64 t116)).heap[gb101]? = some (.cells #[.int .u64 a0_0, .int .u64 a0_1] 24 (0, 0))) := ⟨by (with_reducible repeat (first | refine blk_drewN ?_ _ | refine blk_drew ?_ | refine blk_alloc ?_ _)); refine blk_far ?_ NB101_118.out _; (with_reducible repeat (first | refine blk_drewN ?_ _ | refine blk_drew ?_ | refine blk_alloc ?_ _)); refine blk_far ?_ NB101_118.out _; (with_reducible repeat (first | refine blk_drewN ?_ _ | refine blk_drew ?_ | refine blk_alloc ?_ _)); exact BK101.out⟩
            have n1_ : Aside0 (((w33.setCell ⟨gb118, 0, none⟩ (.int .u64 t115)).setCell ⟨gb118, 1, none⟩ (.int .u64 t116)).heap[gb102]? = some (.cells #[.int .u64 a1_0, .int .u64 a1_1] 24 (0, 0))) := ⟨by (with_reducible repeat (first | refine blk_drewN ?_ _ | refine blk_drew ?_ | refine blk_alloc ?_ _)); refine blk_far ?_ NB102_118.out _; (with_reducible repeat (first | refine blk_drewN ?_ _ | refine blk_drew ?_ | refine blk_alloc ?_ _)); refine blk_far ?_ NB102_118.out _; (with_reducible repeat (first | refine blk_drewN ?_ _ | refine blk_drew ?_ | refine blk_alloc ?_ _)); exact BK102.out⟩
            have n2_ : Aside0 (((w33.setCell ⟨gb118, 0, none⟩ (.int .u64 t115)).setCell ⟨gb118, 1, none⟩ (.int .u64 t116)).heap[gb106]? = some (.cells #[.int .u64 t103, .int .u64 t104] 24 (0, 0))) := ⟨by (with_reducible repeat (first | refine blk_drewN ?_ _ | refine blk_drew ?_ | refine blk_alloc ?_ _)); refine blk_far ?_ NB106_118.out _; (with_reducible repeat (first | refine blk_drewN ?_ _ | refine blk_drew ?_ | refine blk_alloc ?_ _)); refine blk_far ?_ NB106_118.out _; (with_reducible repeat (first | refine blk_drewN ?_ _ | refine blk_drew ?_ | refine blk_alloc ?_ _)); exact BK106.out⟩
            have n3_ : Aside0 (((w33.setCell ⟨gb118, 0, none⟩ (.int .u64 t115)).setCell ⟨gb118, 1, none⟩ (.int .u64 t116)).heap[gb110]? = some (.cells #[.int .u64 t107, .int .u64 t108] 24 (0, 0))) := ⟨by (with_reducible repeat (first | refine blk_drewN ?_ _ | refine blk_drew ?_ | refine blk_alloc ?_ _)); refine blk_far ?_ NB110_118.out _; (with_reducible repeat (first | refine blk_drewN ?_ _ | refine blk_drew ?_ | refine blk_alloc ?_ _)); refine blk_far ?_ NB110_118.out _; (with_reducible repeat (first | refine blk_drewN ?_ _ | refine blk_drew ?_ | refine blk_alloc ?_ _)); exact BK110.out⟩
            have n4_ : Aside0 (((w33.setCell ⟨gb118, 0, none⟩ (.int .u64 t115)).setCell ⟨gb118, 1, none⟩ (.int .u64 t116)).heap[gb114]? = some (.cells #[.int .u64 t111, .int .u64 t112] 24 (0, 0))) := ⟨by (with_reducible repeat (first | refine blk_drewN ?_ _ | refine blk_drew ?_ | refine blk_alloc ?_ _)); refine blk_far ?_ NB114_118.out _; (with_reducible repeat (first | refine blk_drewN ?_ _ | refine blk_drew ?_ | refine blk_alloc ?_ _)); refine blk_far ?_ NB114_118.out _; (with_reducible repeat (first | refine blk_drewN ?_ _ | refine blk_drew ?_ | refine blk_alloc ?_ _)); exact BK114.out⟩
            have n5_ : Aside0 (((w33.setCell ⟨gb118, 0, none⟩ (.int .u64 t115)).setCell ⟨gb118, 1, none⟩ (.int .u64 t116)).heap[gb118]? = some (.cells #[.int .u64 t115, .int .u64 t116] 24 (0, 0))) := ⟨by (with_reducible repeat (first | refine blk_drewN ?_ _ | refine blk_drew ?_ | refine blk_alloc ?_ _)); refine blk_put (cs := #[.int .u64 t115, .int .u64 0]) ?_ 1 _ rfl; (with_reducible repeat (first | refine blk_drewN ?_ _ | refine blk_drew ?_ | refine blk_alloc ?_ _)); refine blk_put (cs := #[.int .u64 0, .int .u64 0]) ?_ 0 _ rfl; (with_reducible repeat (first | refine blk_drewN ?_ _ | refine blk_drew ?_ | refine blk_alloc ?_ _)); exact BK118.out⟩
            have n6_ : Aside0 (Below w.heap.size w ((w33.setCell ⟨gb118, 0, none⟩ (.int .u64 t115)).setCell ⟨gb118, 1, none⟩ (.int .u64 t116))) := ⟨by repeat (first | (with_reducible first | exact HB.out | apply below_alloc | apply pw_below_drewN | apply below_drew1 | refine below_set ?_ GE101.out | refine below_set ?_ GE102.out | refine below_set ?_ GE106.out | refine below_set ?_ GE110.out | refine below_set ?_ GE114.out | refine below_set ?_ GE118.out) | exact HB.out)⟩
            (try clear BK101)
            (try clear BK102)
            (try clear BK106)
            (try clear BK110)
            (try clear BK114)
            (try clear BK118)
            (try clear HB)
            generalize ((w33.setCell ⟨gb118, 0, none⟩ (.int .u64 t115)).setCell ⟨gb118, 1, none⟩ (.int .u64 t116)) = w46 at n0_ n1_ n2_ n3_ n4_ n5_ n6_ ⊢
            have BK101 := n0_
            have BK102 := n1_
            have BK106 := n2_
            have BK110 := n3_
            have BK114 := n4_
            have BK118 := n5_
            have HB := n6_
            clear n0_ n1_ n2_ n3_ n4_ n5_ n6_
            have n0_ := Aside0.mk (blk_drew BK101.out)
            have n1_ := Aside0.mk (blk_drew BK102.out)
            have n2_ := Aside0.mk (blk_drew BK106.out)
            have n3_ := Aside0.mk (blk_drew BK110.out)
            have n4_ := Aside0.mk (blk_drew BK114.out)
            have n5_ := Aside0.mk (blk_drew BK118.out)
            have n6_ := Aside0.mk (below_drew1 HB.out)
            clear BK101
            clear BK102
            clear BK106
            clear BK110
            clear BK114
            clear BK118
            clear HB
            have BK101 := n0_
            have BK102 := n1_
            have BK106 := n2_
            have BK110 := n3_
            have BK114 := n4_
            have BK118 := n5_
            have HB := n6_
            clear n0_ n1_ n2_ n3_ n4_ n5_ n6_
            refine start_ (n := 25) (S := fun w' => w'.cell? ⟨gb106, 0, none⟩ = some (.int .u64 t103) ∧ w'.cell? ⟨gb106, 1, none⟩ = some (.int .u64 t104) ∧ w'.cell? ⟨gb110, 0, none⟩ = some (.int .u64 t107) ∧ w'.cell? ⟨gb110, 1, none⟩ = some (.int .u64 t108) ∧ w'.cell? ⟨gb114, 0, none⟩ = some (.int .u64 t111) ∧ w'.cell? ⟨gb114, 1, none⟩ = some (.int .u64 t112) ∧ w'.cell? ⟨gb118, 0, none⟩ = some (.int .u64 t115) ∧ w'.cell? ⟨gb118, 1, none⟩ = some (.int .u64 t116) ∧ w'.cell? ⟨gb101, 0, none⟩ = some (.int .u64 a0_0) ∧ w'.cell? ⟨gb101, 1, none⟩ = some (.int .u64 a0_1)) (ds := []) #[false, false, false, false, false, false, false, false, false, false, false, false, false, false, false, false, false, false, false, false, false, false, false, false, false] (by kernel_rfl) rfl rfl ⟨(blk_cell BK106.out 0).trans rfl, (blk_cell BK106.out 1).trans rfl, (blk_cell BK110.out 0).trans rfl, (blk_cell BK110.out 1).trans rfl, (blk_cell BK114.out 0).trans rfl, (blk_cell BK114.out 1).trans rfl, (blk_cell BK118.out 0).trans rfl, (blk_cell BK118.out 1).trans rfl, (blk_cell BK101.out 0).trans rfl, (blk_cell BK101.out 1).trans rfl⟩ (fun hHeld => ?_); refine with_tabW inquestlaw06_TernTells.tab5 inquestlaw06_TernTells.bits5 (fun HT_ HW_ => ?_)
            generalize w46.drew = w47 at BK101 BK102 BK106 BK110 BK114 BK118 HB hHeld ⊢
            refine take_ (i := 0) (N := some 45) (v := ?_) (a' := ?_) #[true, false, false, false, false, false, false, false, false, false, false, false, false, false, false, false, false, false, false, false, false, false, false, false, false] rfl rfl (take_ofW HT_.out HW_.out (by kernel_rfl)) (fun _ _ _ h => h) (Or.inl ⟨by rfl, ?_⟩) hHeld ?_ ?_
            rotate_left
            · rintro w' ⟨s0, s1, s2, s3, s4, s5, s6, s7, s8, s9⟩
              go_simp
              with_reducible rfl
            rotate_left
            · simp only [Act.put, List.setIfInBounds_toArray, List.set_cons_zero, List.set_cons_succ, i64_w, i32_w]
              rfl
            refine take_ (i := 1) (N := some 46) (v := ?_) (a' := ?_) #[true, true, false, false, false, false, false, false, false, false, false, false, false, false, false, false, false, false, false, false, false, false, false, false, false] rfl rfl (take_ofW HT_.out HW_.out (by kernel_rfl)) (fun _ _ _ h => h) (Or.inl ⟨by rfl, ?_⟩) hHeld ?_ ?_
            rotate_left
            · rintro w' ⟨s0, s1, s2, s3, s4, s5, s6, s7, s8, s9⟩
              go_simp
              with_reducible rfl
            rotate_left
            · simp only [Act.put, List.setIfInBounds_toArray, List.set_cons_zero, List.set_cons_succ, i64_w, i32_w]
              rfl
            refine pure_ (i := 2) (N := some 47) (v := ?_) (a' := ?_) #[true, true, true, false, false, false, false, false, false, false, false, false, false, false, false, false, false, false, false, false, false, false, false, false, false] rfl rfl (any_of HT_.out (by kernel_rfl)) (fun _ _ _ h => h) (Or.inl ⟨by rfl, ?_⟩) ?_ ?_
            rotate_left
            · intro w'
              go_simp
              with_reducible rfl
            rotate_left
            · simp only [Act.put, List.setIfInBounds_toArray, List.set_cons_zero, List.set_cons_succ, i64_w, i32_w]
              rfl
            refine pure_ (i := 3) (N := some 48) (v := ?_) (a' := ?_) #[true, true, true, true, false, false, false, false, false, false, false, false, false, false, false, false, false, false, false, false, false, false, false, false, false] rfl rfl (any_of HT_.out (by kernel_rfl)) (fun _ _ _ h => h) (Or.inl ⟨by rfl, ?_⟩) ?_ ?_
            rotate_left
            · intro w'
              go_simp
              with_reducible rfl
            rotate_left
            · simp only [Act.put, List.setIfInBounds_toArray, List.set_cons_zero, List.set_cons_succ, i64_w, i32_w]
              rfl
            refine pure_ (i := 4) (N := some 49) (v := ?_) (a' := ?_) #[true, true, true, true, true, false, false, false, false, false, false, false, false, false, false, false, false, false, false, false, false, false, false, false, false] rfl rfl (any_of HT_.out (by kernel_rfl)) (fun _ _ _ h => h) (Or.inl ⟨by rfl, ?_⟩) ?_ ?_
            rotate_left
            · intro w'
              go_simp
              with_reducible rfl
            rotate_left
            · simp only [Act.put, List.setIfInBounds_toArray, List.set_cons_zero, List.set_cons_succ, i64_w, i32_w]
              rfl
            refine pure_ (i := 5) (N := some 50) (v := ?_) (a' := ?_) #[true, true, true, true, true, true, false, false, false, false, false, false, false, false, false, false, false, false, false, false, false, false, false, false, false] rfl rfl (any_of HT_.out (by kernel_rfl)) (fun _ _ _ h => h) (Or.inl ⟨by rfl, ?_⟩) ?_ ?_
            rotate_left
            · intro w'
              go_simp
              with_reducible rfl
            rotate_left
            · simp only [Act.put, List.setIfInBounds_toArray, List.set_cons_zero, List.set_cons_succ, i64_w, i32_w]
              rfl
            refine pure_ (i := 6) (N := some 51) (v := ?_) (a' := ?_) #[true, true, true, true, true, true, true, false, false, false, false, false, false, false, false, false, false, false, false, false, false, false, false, false, false] rfl rfl (any_of HT_.out (by kernel_rfl)) (fun _ _ _ h => h) (Or.inl ⟨by rfl, ?_⟩) ?_ ?_
            rotate_left
            · intro w'
              go_simp
              with_reducible rfl
            rotate_left
            · simp only [Act.put, List.setIfInBounds_toArray, List.set_cons_zero, List.set_cons_succ, i64_w, i32_w]
              rfl
            refine pure_ (i := 7) (N := some 52) (v := ?_) (a' := ?_) #[true, true, true, true, true, true, true, true, false, false, false, false, false, false, false, false, false, false, false, false, false, false, false, false, false] rfl rfl (any_of HT_.out (by kernel_rfl)) (fun _ _ _ h => h) (Or.inl ⟨by rfl, ?_⟩) ?_ ?_
            rotate_left
            · intro w'
              go_simp
              with_reducible rfl
            rotate_left
            · simp only [Act.put, List.setIfInBounds_toArray, List.set_cons_zero, List.set_cons_succ, i64_w, i32_w]
              rfl
            refine pure_ (i := 8) (N := some 53) (v := ?_) (a' := ?_) #[true, true, true, true, true, true, true, true, true, false, false, false, false, false, false, false, false, false, false, false, false, false, false, false, false] rfl rfl (any_of HT_.out (by kernel_rfl)) (fun _ _ _ h => h) (Or.inl ⟨by rfl, ?_⟩) ?_ ?_
            rotate_left
            · intro w'
              go_simp
              with_reducible rfl
            rotate_left
            · simp only [Act.put, List.setIfInBounds_toArray, List.set_cons_zero, List.set_cons_succ, i64_w, i32_w]
              rfl
            refine take_ (i := 9) (N := some 54) (v := ?_) (a' := ?_) #[true, true, true, true, true, true, true, true, true, true, false, false, false, false, false, false, false, false, false, false, false, false, false, false, false] rfl rfl (take_ofW HT_.out HW_.out (by kernel_rfl)) (fun _ _ _ h => h) (Or.inl ⟨by rfl, ?_⟩) hHeld ?_ ?_
            rotate_left
            · rintro w' ⟨s0, s1, s2, s3, s4, s5, s6, s7, s8, s9⟩
              go_simp
              with_reducible rfl
            rotate_left
            · simp only [Act.put, List.setIfInBounds_toArray, List.set_cons_zero, List.set_cons_succ, i64_w, i32_w]
              rfl
            refine take_ (i := 10) (N := some 55) (v := ?_) (a' := ?_) #[true, true, true, true, true, true, true, true, true, true, true, false, false, false, false, false, false, false, false, false, false, false, false, false, false] rfl rfl (take_ofW HT_.out HW_.out (by kernel_rfl)) (fun _ _ _ h => h) (Or.inl ⟨by rfl, ?_⟩) hHeld ?_ ?_
            rotate_left
            · rintro w' ⟨s0, s1, s2, s3, s4, s5, s6, s7, s8, s9⟩
              go_simp
              with_reducible rfl
            rotate_left
            · simp only [Act.put, List.setIfInBounds_toArray, List.set_cons_zero, List.set_cons_succ, i64_w, i32_w]
              rfl
            refine pure_ (i := 11) (N := some 56) (v := ?_) (a' := ?_) #[true, true, true, true, true, true, true, true, true, true, true, true, false, false, false, false, false, false, false, false, false, false, false, false, false] rfl rfl (any_of HT_.out (by kernel_rfl)) (fun _ _ _ h => h) (Or.inl ⟨by rfl, ?_⟩) ?_ ?_
            rotate_left
            · intro w'
              go_simp
              with_reducible rfl
            rotate_left
            · simp only [Act.put, List.setIfInBounds_toArray, List.set_cons_zero, List.set_cons_succ, i64_w, i32_w]
              rfl
            refine pure_ (i := 12) (N := some 57) (v := ?_) (a' := ?_) #[true, true, true, true, true, true, true, true, true, true, true, true, true, false, false, false, false, false, false, false, false, false, false, false, false] rfl rfl (any_of HT_.out (by kernel_rfl)) (fun _ _ _ h => h) (Or.inl ⟨by rfl, ?_⟩) ?_ ?_
            rotate_left
            · intro w'
              go_simp
              with_reducible rfl
            rotate_left
            · simp only [Act.put, List.setIfInBounds_toArray, List.set_cons_zero, List.set_cons_succ, i64_w, i32_w]
              rfl
            refine pure_ (i := 13) (N := some 58) (v := ?_) (a' := ?_) #[true, true, true, true, true, true, true, true, true, true, true, true, true, true, false, false, false, false, false, false, false, false, false, false, false] rfl rfl (any_of HT_.out (by kernel_rfl)) (fun _ _ _ h => h) (Or.inl ⟨by rfl, ?_⟩) ?_ ?_
            rotate_left
            · intro w'
              go_simp
              with_reducible rfl
            rotate_left
            · simp only [Act.put, List.setIfInBounds_toArray, List.set_cons_zero, List.set_cons_succ, i64_w, i32_w]
              rfl
            refine pure_ (i := 14) (N := some 59) (v := ?_) (a' := ?_) #[true, true, true, true, true, true, true, true, true, true, true, true, true, true, true, false, false, false, false, false, false, false, false, false, false] rfl rfl (any_of HT_.out (by kernel_rfl)) (fun _ _ _ h => h) (Or.inl ⟨by rfl, ?_⟩) ?_ ?_
            rotate_left
            · intro w'
              go_simp
              with_reducible rfl
            rotate_left
            · simp only [Act.put, List.setIfInBounds_toArray, List.set_cons_zero, List.set_cons_succ, i64_w, i32_w]
              rfl
            refine pure_ (i := 15) (N := some 60) (v := ?_) (a' := ?_) #[true, true, true, true, true, true, true, true, true, true, true, true, true, true, true, true, false, false, false, false, false, false, false, false, false] rfl rfl (any_of HT_.out (by kernel_rfl)) (fun _ _ _ h => h) (Or.inl ⟨by rfl, ?_⟩) ?_ ?_
            rotate_left
            · intro w'
              go_simp
              with_reducible rfl
            rotate_left
            · simp only [Act.put, List.setIfInBounds_toArray, List.set_cons_zero, List.set_cons_succ, i64_w, i32_w]
              rfl
            refine pure_ (i := 16) (N := some 61) (v := ?_) (a' := ?_) #[true, true, true, true, true, true, true, true, true, true, true, true, true, true, true, true, true, false, false, false, false, false, false, false, false] rfl rfl (any_of HT_.out (by kernel_rfl)) (fun _ _ _ h => h) (Or.inl ⟨by rfl, ?_⟩) ?_ ?_
            rotate_left
            · intro w'
              go_simp
              with_reducible rfl
            rotate_left
            · simp only [Act.put, List.setIfInBounds_toArray, List.set_cons_zero, List.set_cons_succ, i64_w, i32_w]
              rfl
            refine pure_ (i := 17) (N := some 62) (v := ?_) (a' := ?_) #[true, true, true, true, true, true, true, true, true, true, true, true, true, true, true, true, true, true, false, false, false, false, false, false, false] rfl rfl (any_of HT_.out (by kernel_rfl)) (fun _ _ _ h => h) (Or.inl ⟨by rfl, ?_⟩) ?_ ?_
            rotate_left
            · intro w'
              go_simp
              with_reducible rfl
            rotate_left
            · simp only [Act.put, List.setIfInBounds_toArray, List.set_cons_zero, List.set_cons_succ, i64_w, i32_w]
              rfl
            refine pure_ (i := 18) (N := some 63) (v := ?_) (a' := ?_) #[true, true, true, true, true, true, true, true, true, true, true, true, true, true, true, true, true, true, true, false, false, false, false, false, false] rfl rfl (any_of HT_.out (by kernel_rfl)) (fun _ _ _ h => h) (Or.inl ⟨by rfl, ?_⟩) ?_ ?_
            rotate_left
            · intro w'
              go_simp
              with_reducible rfl
            rotate_left
            · simp only [Act.put, List.setIfInBounds_toArray, List.set_cons_zero, List.set_cons_succ, i64_w, i32_w]
              rfl
            refine take_ (i := 19) (N := some 64) (v := ?_) (a' := ?_) #[true, true, true, true, true, true, true, true, true, true, true, true, true, true, true, true, true, true, true, true, false, false, false, false, false] rfl rfl (take_ofW HT_.out HW_.out (by kernel_rfl)) (fun _ _ _ h => h) (Or.inl ⟨by rfl, ?_⟩) hHeld ?_ ?_
            rotate_left
            · rintro w' ⟨s0, s1, s2, s3, s4, s5, s6, s7, s8, s9⟩
              go_simp
              with_reducible rfl
            rotate_left
            · simp only [Act.put, List.setIfInBounds_toArray, List.set_cons_zero, List.set_cons_succ, i64_w, i32_w]
              rfl
            refine take_ (i := 21) (N := some 66) (v := ?_) (a' := ?_) #[true, true, true, true, true, true, true, true, true, true, true, true, true, true, true, true, true, true, true, true, false, true, false, false, false] rfl rfl (take_ofW HT_.out HW_.out (by kernel_rfl)) (fun _ _ _ h => h) (Or.inl ⟨by rfl, ?_⟩) hHeld ?_ ?_
            rotate_left
            · rintro w' ⟨s0, s1, s2, s3, s4, s5, s6, s7, s8, s9⟩
              go_simp
              with_reducible rfl
            rotate_left
            · simp only [Act.put, List.setIfInBounds_toArray, List.set_cons_zero, List.set_cons_succ, i64_w, i32_w]
              rfl
            refine one_ (i := 20) (N := some 65) #[true, true, true, true, true, true, true, true, true, true, true, true, true, true, true, true, true, true, true, true, true, true, false, false, false] rfl rfl (one_of HT_.out (by kernel_rfl)) (by decide) (fun K hK => ?_)
            refine goes_ Try.func11 (by kernel_rfl) rfl #[.agg #[.int .u64 a0_0, .int .u64 a0_1]] (by rfl) rfl rfl (by (try simp only [List.map_toArray, List.map_cons, List.map_nil]); first | done | rfl | (simp only [List.length_drop, List.length_take]; rfl)) ?_
            with_reducible refine (tern_May.calls a0_0 a0_1 t119 _ A44.out).mono ?_
            rintro e w48 ⟨rfl, hb⟩
            refine ⟨_, rfl, ?_⟩
            have n0_ := Aside0.mk (blk_below (g := gb101) (o := .cells #[.int .u64 a0_0, .int .u64 a0_1] 24 (0, 0)) (by (with_reducible repeat (first | refine blk_drewN ?_ _ | refine blk_drew ?_ | refine blk_alloc ?_ _)); exact BK101.out) hb)
            have n1_ := Aside0.mk (blk_below (g := gb102) (o := .cells #[.int .u64 a1_0, .int .u64 a1_1] 24 (0, 0)) (by (with_reducible repeat (first | refine blk_drewN ?_ _ | refine blk_drew ?_ | refine blk_alloc ?_ _)); exact BK102.out) hb)
            have n2_ := Aside0.mk (blk_below (g := gb106) (o := .cells #[.int .u64 t103, .int .u64 t104] 24 (0, 0)) (by (with_reducible repeat (first | refine blk_drewN ?_ _ | refine blk_drew ?_ | refine blk_alloc ?_ _)); exact BK106.out) hb)
            have n3_ := Aside0.mk (blk_below (g := gb110) (o := .cells #[.int .u64 t107, .int .u64 t108] 24 (0, 0)) (by (with_reducible repeat (first | refine blk_drewN ?_ _ | refine blk_drew ?_ | refine blk_alloc ?_ _)); exact BK110.out) hb)
            have n4_ := Aside0.mk (blk_below (g := gb114) (o := .cells #[.int .u64 t111, .int .u64 t112] 24 (0, 0)) (by (with_reducible repeat (first | refine blk_drewN ?_ _ | refine blk_drew ?_ | refine blk_alloc ?_ _)); exact BK114.out) hb)
            have n5_ := Aside0.mk (blk_below (g := gb118) (o := .cells #[.int .u64 t115, .int .u64 t116] 24 (0, 0)) (by (with_reducible repeat (first | refine blk_drewN ?_ _ | refine blk_drew ?_ | refine blk_alloc ?_ _)); exact BK118.out) hb)
            have n6_ := Aside0.mk (below_step (by repeat (first | (with_reducible first | exact HB.out | apply below_alloc | apply pw_below_drewN | apply below_drew1 | refine below_set ?_ GE101.out | refine below_set ?_ GE102.out | refine below_set ?_ GE106.out | refine below_set ?_ GE110.out | refine below_set ?_ GE114.out | refine below_set ?_ GE118.out) | exact HB.out)) hb)
            clear BK101
            clear BK102
            clear BK106
            clear BK110
            clear BK114
            clear BK118
            clear HB
            have BK101 := n0_
            have BK102 := n1_
            have BK106 := n2_
            have BK110 := n3_
            have BK114 := n4_
            have BK118 := n5_
            have HB := n6_
            clear n0_ n1_ n2_ n3_ n4_ n5_ n6_
            (try clear hb)
            (try clear hb2)
            (try clear hk)
            (try clear hi)
            refine hK.out _ _ ⟨(blk_cell BK106.out 0).trans rfl, (blk_cell BK106.out 1).trans rfl, (blk_cell BK110.out 0).trans rfl, (blk_cell BK110.out 1).trans rfl, (blk_cell BK114.out 0).trans rfl, (blk_cell BK114.out 1).trans rfl, (blk_cell BK118.out 0).trans rfl, (blk_cell BK118.out 1).trans rfl, (blk_cell BK101.out 0).trans rfl, (blk_cell BK101.out 1).trans rfl⟩ (fun hHeld => ?_)
            clear hK K
            refine norm_ (a' := ?_) ?_ ?_
            rotate_left
            · show Act.put _ (some 65) _ = _
              simp only [Act.put, List.setIfInBounds_toArray, List.set_cons_zero, List.set_cons_succ, i64_w, i32_w]
              rfl
            refine one_ (i := 22) (N := some 67) #[true, true, true, true, true, true, true, true, true, true, true, true, true, true, true, true, true, true, true, true, true, true, true, false, false] rfl rfl (one_of HT_.out (by kernel_rfl)) (by decide) (fun K hK => ?_)
            refine goes_ Try.func21 (by kernel_rfl) rfl #[.agg #[.int .u64 a0_0, .int .u64 a0_1]] (by rfl) rfl rfl (by (try simp only [List.map_toArray, List.map_cons, List.map_nil]); first | done | rfl | (simp only [List.length_drop, List.length_take]; rfl)) ?_
            with_reducible refine (inquestref06_May.calls k a0_0 a0_1 t120 _ A45.out).mono ?_
            rintro e w49 ⟨rfl, hb⟩
            refine ⟨_, rfl, ?_⟩
            have n0_ := Aside0.mk (blk_below (g := gb101) (o := .cells #[.int .u64 a0_0, .int .u64 a0_1] 24 (0, 0)) (by (with_reducible repeat (first | refine blk_drewN ?_ _ | refine blk_drew ?_ | refine blk_alloc ?_ _)); exact BK101.out) hb)
            have n1_ := Aside0.mk (blk_below (g := gb102) (o := .cells #[.int .u64 a1_0, .int .u64 a1_1] 24 (0, 0)) (by (with_reducible repeat (first | refine blk_drewN ?_ _ | refine blk_drew ?_ | refine blk_alloc ?_ _)); exact BK102.out) hb)
            have n2_ := Aside0.mk (blk_below (g := gb106) (o := .cells #[.int .u64 t103, .int .u64 t104] 24 (0, 0)) (by (with_reducible repeat (first | refine blk_drewN ?_ _ | refine blk_drew ?_ | refine blk_alloc ?_ _)); exact BK106.out) hb)
            have n3_ := Aside0.mk (blk_below (g := gb110) (o := .cells #[.int .u64 t107, .int .u64 t108] 24 (0, 0)) (by (with_reducible repeat (first | refine blk_drewN ?_ _ | refine blk_drew ?_ | refine blk_alloc ?_ _)); exact BK110.out) hb)
            have n4_ := Aside0.mk (blk_below (g := gb114) (o := .cells #[.int .u64 t111, .int .u64 t112] 24 (0, 0)) (by (with_reducible repeat (first | refine blk_drewN ?_ _ | refine blk_drew ?_ | refine blk_alloc ?_ _)); exact BK114.out) hb)
            have n5_ := Aside0.mk (blk_below (g := gb118) (o := .cells #[.int .u64 t115, .int .u64 t116] 24 (0, 0)) (by (with_reducible repeat (first | refine blk_drewN ?_ _ | refine blk_drew ?_ | refine blk_alloc ?_ _)); exact BK118.out) hb)
            have n6_ := Aside0.mk (below_step (by repeat (first | (with_reducible first | exact HB.out | apply below_alloc | apply pw_below_drewN | apply below_drew1 | refine below_set ?_ GE101.out | refine below_set ?_ GE102.out | refine below_set ?_ GE106.out | refine below_set ?_ GE110.out | refine below_set ?_ GE114.out | refine below_set ?_ GE118.out) | exact HB.out)) hb)
            clear BK101
            clear BK102
            clear BK106
            clear BK110
            clear BK114
            clear BK118
            clear HB
            have BK101 := n0_
            have BK102 := n1_
            have BK106 := n2_
            have BK110 := n3_
            have BK114 := n4_
            have BK118 := n5_
            have HB := n6_
            clear n0_ n1_ n2_ n3_ n4_ n5_ n6_
            (try clear hb)
            (try clear hb2)
            (try clear hk)
            (try clear hi)
            refine hK.out _ _ ⟨(blk_cell BK106.out 0).trans rfl, (blk_cell BK106.out 1).trans rfl, (blk_cell BK110.out 0).trans rfl, (blk_cell BK110.out 1).trans rfl, (blk_cell BK114.out 0).trans rfl, (blk_cell BK114.out 1).trans rfl, (blk_cell BK118.out 0).trans rfl, (blk_cell BK118.out 1).trans rfl, (blk_cell BK101.out 0).trans rfl, (blk_cell BK101.out 1).trans rfl⟩ (fun hHeld => ?_)
            clear hK K
            refine norm_ (a' := ?_) ?_ ?_
            rotate_left
            · show Act.put _ (some 67) _ = _
              simp only [Act.put, List.setIfInBounds_toArray, List.set_cons_zero, List.set_cons_succ, i64_w, i32_w]
              rfl
            refine pure_ (i := 23) (N := some 68) (v := ?_) (a' := ?_) #[true, true, true, true, true, true, true, true, true, true, true, true, true, true, true, true, true, true, true, true, true, true, true, true, false] rfl rfl (any_of HT_.out (by kernel_rfl)) (fun _ _ _ h => h) (Or.inl ⟨by rfl, ?_⟩) ?_ ?_
            rotate_left
            · intro w'
              go_simp
              with_reducible rfl
            rotate_left
            · simp only [Act.put, List.setIfInBounds_toArray, List.set_cons_zero, List.set_cons_succ, i64_w, i32_w]
              rfl
            refine pure_ (i := 24) (N := some 69) (v := ?_) (a' := ?_) #[true, true, true, true, true, true, true, true, true, true, true, true, true, true, true, true, true, true, true, true, true, true, true, true, true] rfl rfl (any_of HT_.out (by kernel_rfl)) (fun _ _ _ h => h) (Or.inl ⟨by rfl, ?_⟩) ?_ ?_
            rotate_left
            · intro w'
              go_simp
              with_reducible rfl
            rotate_left
            · simp only [Act.put, List.setIfInBounds_toArray, List.set_cons_zero, List.set_cons_succ, i64_w, i32_w]
              rfl
            refine done_ (done_of HT_.out (by kernel_rfl)) ?_
            try go_wp2
            go_meet
            case rel => exact ⟨_, ((t119 != t120)), (by first | rfl | (simp; done) | (simp [*]; done)), H', ⟨by first | omega | exact Nat.le_refl _⟩, ⟨by (with_reducible repeat (first | refine blk_drewN ?_ _ | refine blk_drew ?_ | refine blk_alloc ?_ _)); exact BK101.out⟩, ⟨by (with_reducible repeat (first | refine blk_drewN ?_ _ | refine blk_drew ?_ | refine blk_alloc ?_ _)); exact BK102.out⟩, ⟨by (with_reducible repeat (first | refine blk_drewN ?_ _ | refine blk_drew ?_ | refine blk_alloc ?_ _)); exact BK106.out⟩, ⟨by (with_reducible repeat (first | refine blk_drewN ?_ _ | refine blk_drew ?_ | refine blk_alloc ?_ _)); exact BK110.out⟩, ⟨by (with_reducible repeat (first | refine blk_drewN ?_ _ | refine blk_drew ?_ | refine blk_alloc ?_ _)); exact BK114.out⟩, ⟨by (with_reducible repeat (first | refine blk_drewN ?_ _ | refine blk_drew ?_ | refine blk_alloc ?_ _)); exact BK118.out⟩, ⟨by repeat (first | (with_reducible first | exact HB.out | apply below_alloc | apply pw_below_drewN | apply below_drew1 | refine below_set ?_ GE101.out | refine below_set ?_ GE102.out | refine below_set ?_ GE106.out | refine below_set ?_ GE110.out | refine below_set ?_ GE114.out | refine below_set ?_ GE118.out) | exact HB.out)⟩⟩
          · rw [if_neg c43] at H
            have c43b0 : (t113 == t117) = false := beq_eq_false_iff_ne.mpr c43
            have c43b1 : (t113 != t117) = true := bne_iff_ne.mpr c43
            cases k with
            | zero => exact absurd H (by simp [inquestlaw06_TernTells.j0])
            | succ kz_ => exact absurd ((Option.some.inj (show some false = some r from H)).trans hrt.out) (by simp)
      · rw [if_neg c41] at H
        have c41b0 : (t105 == t109) = false := beq_eq_false_iff_ne.mpr c41
        have c41b1 : (t105 != t109) = true := bne_iff_ne.mpr c41
        cases k with
        | zero => exact absurd H (by simp [inquestlaw06_TernTells.j0])
        | succ kz_ => exact absurd ((Option.some.inj (show some false = some r from H)).trans hrt.out) (by simp)
  case rest =>
    clear HC11
    try clear c1
    try clear c2
    try clear p2
    try clear c3
    try clear c4
    try clear c11
    try clear c16
    try clear c17
    try clear c18
    try clear c19
    try clear c20
    try clear c21
    try clear c22
    try clear c23
    try clear c27
    try clear c28
    try clear c29
    try clear c30
    try clear c34
    try clear c35
    try clear c36
    try clear c37
    try clear c38
    try clear c40
    try clear c40b0
    try clear c41
    try clear c41b0
    try clear c41b1
    try clear c42
    try clear c42b0
    try clear c43
    try clear c43b0
    try clear c43b1
    try clear hcz18_0
    try clear hcz18_1
    try clear hcz24_0
    try clear hcz24_1
    try clear hcz31_0
    try clear hcz31_1
    try clear hcz39_0
    try clear hcz39_1
    try clear hfz18_0
    try clear hfz18_1
    try clear hfz24_0
    try clear hfz24_1
    try clear hfz31_0
    try clear hfz31_1
    try clear hfz39_0
    try clear hfz39_1
    obtain ⟨kq, x69_10, rfl, HA, HJ10, BK101, BK102, BK106, BK110, BK114, BK118, HB⟩ := hcut
    cases kq with
    | zero => exact absurd HA.out (by simp [inquestlaw06_TernTells.j0])
    | succ kj10 =>
      have H := HA.out
      clear HA
      simp only [inquestlaw06_TernTells.j0] at H
      by_cases c50 : x69_10 = true
      · subst c50
        have H1 : (some false) = some r := by rw [if_pos rfl] at H; exact H
        clear H
        have H := H1
        clear H1
        exact absurd ((Option.some.inj H).trans hrt.out) (by simp)
      · replace c50 := Bool.eq_false_iff.mpr c50
        subst c50
        have H1 : ((tern_At.f a0_0 a0_1 a3).bind fun bt121 => ((inquestref06_At.f kj10 a0_0 a0_1 a3).bind fun bt123 => ((tern_With.f a0_0 a0_1 a3 a4).bind fun bt125 => ((inquestref06_With.f kj10 a0_0 a0_1 a3 a4).bind fun bt128 => (if bt121.1 = bt123.1 then (if (bt121.2 != bt123.2) = true then (inquestlaw06_TernTells.j1 kj10 a4 a5 true a0_0 a0_1 a1_0 a1_1) else (if (!(bt125.1 == bt128.1) || (!(bt125.2.1 == bt128.2.1))) = true then (inquestlaw06_TernTells.j1 kj10 a4 a5 true a0_0 a0_1 a1_0 a1_1) else (if bt125.2.2 = bt128.2.2 then ((tern_Not.f a0_0 a0_1).bind fun bt131 => ((inquestref06_Not.f kj10 a0_0 a0_1).bind fun bt133 => (if (!(bt131.1 == bt133.1) || (!(bt131.2 == bt133.2))) = true then (inquestlaw06_TernTells.j1 kj10 a4 a5 true a0_0 a0_1 a1_0 a1_1) else ((tern_And.f a0_0 a0_1 a1_0 a1_1).bind fun bt135 => ((inquestref06_And.f kj10 a0_0 a0_1 a1_0 a1_1).bind fun bt137 => (inquestlaw06_TernTells.j1 kj10 a4 a5 (!(bt135.1 == bt137.1) || (!(bt135.2 == bt137.2))) a0_0 a0_1 a1_0 a1_1)))))) else (inquestlaw06_TernTells.j1 kj10 a4 a5 true a0_0 a0_1 a1_0 a1_1)))) else (inquestlaw06_TernTells.j1 kj10 a4 a5 true a0_0 a0_1 a1_0 a1_1)))))) = some r := by rw [if_neg (show ¬ (false = true) by decide)] at H; exact H
        clear H
        have H := H1
        clear H1
        replace H := Option.bind_eq_some_iff.mp H
        obtain ⟨⟨t121, t122⟩, A510, H⟩ := H
        replace H : ((inquestref06_At.f kj10 a0_0 a0_1 a3).bind fun bt123 => ((tern_With.f a0_0 a0_1 a3 a4).bind fun bt125 => ((inquestref06_With.f kj10 a0_0 a0_1 a3 a4).bind fun bt128 => (if t121 = bt123.1 then (if (t122 != bt123.2) = true then (inquestlaw06_TernTells.j1 kj10 a4 a5 true a0_0 a0_1 a1_0 a1_1) else (if (!(bt125.1 == bt128.1) || (!(bt125.2.1 == bt128.2.1))) = true then (inquestlaw06_TernTells.j1 kj10 a4 a5 true a0_0 a0_1 a1_0 a1_1) else (if bt125.2.2 = bt128.2.2 then ((tern_Not.f a0_0 a0_1).bind fun bt131 => ((inquestref06_Not.f kj10 a0_0 a0_1).bind fun bt133 => (if (!(bt131.1 == bt133.1) || (!(bt131.2 == bt133.2))) = true then (inquestlaw06_TernTells.j1 kj10 a4 a5 true a0_0 a0_1 a1_0 a1_1) else ((tern_And.f a0_0 a0_1 a1_0 a1_1).bind fun bt135 => ((inquestref06_And.f kj10 a0_0 a0_1 a1_0 a1_1).bind fun bt137 => (inquestlaw06_TernTells.j1 kj10 a4 a5 (!(bt135.1 == bt137.1) || (!(bt135.2 == bt137.2))) a0_0 a0_1 a1_0 a1_1)))))) else (inquestlaw06_TernTells.j1 kj10 a4 a5 true a0_0 a0_1 a1_0 a1_1)))) else (inquestlaw06_TernTells.j1 kj10 a4 a5 true a0_0 a0_1 a1_0 a1_1))))) = some r := H
        have A51 := Aside0.mk A510
        clear A510
        replace H := Option.bind_eq_some_iff.mp H
        obtain ⟨⟨t123, t124⟩, A520, H⟩ := H
        replace H : ((tern_With.f a0_0 a0_1 a3 a4).bind fun bt125 => ((inquestref06_With.f kj10 a0_0 a0_1 a3 a4).bind fun bt128 => (if t121 = t123 then (if (t122 != t124) = true then (inquestlaw06_TernTells.j1 kj10 a4 a5 true a0_0 a0_1 a1_0 a1_1) else (if (!(bt125.1 == bt128.1) || (!(bt125.2.1 == bt128.2.1))) = true then (inquestlaw06_TernTells.j1 kj10 a4 a5 true a0_0 a0_1 a1_0 a1_1) else (if bt125.2.2 = bt128.2.2 then ((tern_Not.f a0_0 a0_1).bind fun bt131 => ((inquestref06_Not.f kj10 a0_0 a0_1).bind fun bt133 => (if (!(bt131.1 == bt133.1) || (!(bt131.2 == bt133.2))) = true then (inquestlaw06_TernTells.j1 kj10 a4 a5 true a0_0 a0_1 a1_0 a1_1) else ((tern_And.f a0_0 a0_1 a1_0 a1_1).bind fun bt135 => ((inquestref06_And.f kj10 a0_0 a0_1 a1_0 a1_1).bind fun bt137 => (inquestlaw06_TernTells.j1 kj10 a4 a5 (!(bt135.1 == bt137.1) || (!(bt135.2 == bt137.2))) a0_0 a0_1 a1_0 a1_1)))))) else (inquestlaw06_TernTells.j1 kj10 a4 a5 true a0_0 a0_1 a1_0 a1_1)))) else (inquestlaw06_TernTells.j1 kj10 a4 a5 true a0_0 a0_1 a1_0 a1_1)))) = some r := H
        have A52 := Aside0.mk A520
        clear A520
        replace H := Option.bind_eq_some_iff.mp H
        obtain ⟨⟨t125, t126, t127⟩, A530, H⟩ := H
        replace H : ((inquestref06_With.f kj10 a0_0 a0_1 a3 a4).bind fun bt128 => (if t121 = t123 then (if (t122 != t124) = true then (inquestlaw06_TernTells.j1 kj10 a4 a5 true a0_0 a0_1 a1_0 a1_1) else (if (!(t125 == bt128.1) || (!(t126 == bt128.2.1))) = true then (inquestlaw06_TernTells.j1 kj10 a4 a5 true a0_0 a0_1 a1_0 a1_1) else (if t127 = bt128.2.2 then ((tern_Not.f a0_0 a0_1).bind fun bt131 => ((inquestref06_Not.f kj10 a0_0 a0_1).bind fun bt133 => (if (!(bt131.1 == bt133.1) || (!(bt131.2 == bt133.2))) = true then (inquestlaw06_TernTells.j1 kj10 a4 a5 true a0_0 a0_1 a1_0 a1_1) else ((tern_And.f a0_0 a0_1 a1_0 a1_1).bind fun bt135 => ((inquestref06_And.f kj10 a0_0 a0_1 a1_0 a1_1).bind fun bt137 => (inquestlaw06_TernTells.j1 kj10 a4 a5 (!(bt135.1 == bt137.1) || (!(bt135.2 == bt137.2))) a0_0 a0_1 a1_0 a1_1)))))) else (inquestlaw06_TernTells.j1 kj10 a4 a5 true a0_0 a0_1 a1_0 a1_1)))) else (inquestlaw06_TernTells.j1 kj10 a4 a5 true a0_0 a0_1 a1_0 a1_1))) = some r := H
        have A53 := Aside0.mk A530
        clear A530
        replace H := Option.bind_eq_some_iff.mp H
        obtain ⟨⟨t128, t129, t130⟩, A540, H⟩ := H
        replace H : (if t121 = t123 then (if (t122 != t124) = true then (inquestlaw06_TernTells.j1 kj10 a4 a5 true a0_0 a0_1 a1_0 a1_1) else (if (!(t125 == t128) || (!(t126 == t129))) = true then (inquestlaw06_TernTells.j1 kj10 a4 a5 true a0_0 a0_1 a1_0 a1_1) else (if t127 = t130 then ((tern_Not.f a0_0 a0_1).bind fun bt131 => ((inquestref06_Not.f kj10 a0_0 a0_1).bind fun bt133 => (if (!(bt131.1 == bt133.1) || (!(bt131.2 == bt133.2))) = true then (inquestlaw06_TernTells.j1 kj10 a4 a5 true a0_0 a0_1 a1_0 a1_1) else ((tern_And.f a0_0 a0_1 a1_0 a1_1).bind fun bt135 => ((inquestref06_And.f kj10 a0_0 a0_1 a1_0 a1_1).bind fun bt137 => (inquestlaw06_TernTells.j1 kj10 a4 a5 (!(bt135.1 == bt137.1) || (!(bt135.2 == bt137.2))) a0_0 a0_1 a1_0 a1_1)))))) else (inquestlaw06_TernTells.j1 kj10 a4 a5 true a0_0 a0_1 a1_0 a1_1)))) else (inquestlaw06_TernTells.j1 kj10 a4 a5 true a0_0 a0_1 a1_0 a1_1)) = some r := H
        have A54 := Aside0.mk A540
        clear A540
        have HC55 := Aside0.mk H
        clear H
        have hnb56 := NB101_102.out
        have hnc56 := NB102_101.out
        have hnb57 := NB101_106.out
        have hnc57 := NB106_101.out
        have hnb58 := NB101_110.out
        have hnc58 := NB110_101.out
        have hnb59 := NB101_114.out
        have hnc59 := NB114_101.out
        have hnb60 := NB101_118.out
        have hnc60 := NB118_101.out
        have hcz61_0 : wc.cell? ⟨gb101, 0, none⟩ = some (.int .u64 a0_0) := (blk_cell BK101.out 0).trans rfl
        have hcz61_1 : wc.cell? ⟨gb101, 1, none⟩ = some (.int .u64 a0_1) := (blk_cell BK101.out 1).trans rfl
        have hfz61_0 := blk_frozen BK101.out 0
        have hfz61_1 := blk_frozen BK101.out 1
        go_upto_region 11 with (first | ((with_reducible refine gate_callee (f := 16) rfl ?_); refine goesL_ (some 73) rfl rfl Try.func16 (by kernel_rfl) rfl #[.agg #[.int .u64 a0_0, .int .u64 a0_1], .int .i64 a3] rfl (by (try simp only [List.map_toArray, List.map_cons, List.map_nil]); first | done | rfl | (simp only [List.length_drop, List.length_take]; rfl)) ?_; (with_reducible refine (tern_At.calls a0_0 a0_1 a3 t121 t122 _ A51.out).mono ?_); rintro e w62 ⟨rfl, hb⟩; refine ⟨_, rfl, ?_⟩; have n0_ := Aside0.mk (blk_below (g := gb101) (o := .cells #[.int .u64 a0_0, .int .u64 a0_1] 24 (0, 0)) (by (with_reducible repeat (first | refine blk_drewN ?_ _ | refine blk_drew ?_ | refine blk_alloc ?_ _)); exact BK101.out) hb); have n1_ := Aside0.mk (blk_below (g := gb102) (o := .cells #[.int .u64 a1_0, .int .u64 a1_1] 24 (0, 0)) (by (with_reducible repeat (first | refine blk_drewN ?_ _ | refine blk_drew ?_ | refine blk_alloc ?_ _)); exact BK102.out) hb); have n2_ := Aside0.mk (blk_below (g := gb106) (o := .cells #[.int .u64 t103, .int .u64 t104] 24 (0, 0)) (by (with_reducible repeat (first | refine blk_drewN ?_ _ | refine blk_drew ?_ | refine blk_alloc ?_ _)); exact BK106.out) hb); have n3_ := Aside0.mk (blk_below (g := gb110) (o := .cells #[.int .u64 t107, .int .u64 t108] 24 (0, 0)) (by (with_reducible repeat (first | refine blk_drewN ?_ _ | refine blk_drew ?_ | refine blk_alloc ?_ _)); exact BK110.out) hb); have n4_ := Aside0.mk (blk_below (g := gb114) (o := .cells #[.int .u64 t111, .int .u64 t112] 24 (0, 0)) (by (with_reducible repeat (first | refine blk_drewN ?_ _ | refine blk_drew ?_ | refine blk_alloc ?_ _)); exact BK114.out) hb); have n5_ := Aside0.mk (blk_below (g := gb118) (o := .cells #[.int .u64 t115, .int .u64 t116] 24 (0, 0)) (by (with_reducible repeat (first | refine blk_drewN ?_ _ | refine blk_drew ?_ | refine blk_alloc ?_ _)); exact BK118.out) hb); have n6_ := Aside0.mk (below_step (by repeat (first | (with_reducible first | exact HB.out | apply below_alloc | apply pw_below_drewN | apply below_drew1 | refine below_set ?_ GE101.out | refine below_set ?_ GE102.out | refine below_set ?_ GE106.out | refine below_set ?_ GE110.out | refine below_set ?_ GE114.out | refine below_set ?_ GE118.out) | exact HB.out)) hb); clear BK101; clear BK102; clear BK106; clear BK110; clear BK114; clear BK118; clear HB; have BK101 := n0_; have BK102 := n1_; have BK106 := n2_; have BK110 := n3_; have BK114 := n4_; have BK118 := n5_; have HB := n6_; clear n0_ n1_ n2_ n3_ n4_ n5_ n6_; (try clear hb); (try clear hb2); (try clear hk); (try clear hi); have hcz63_0 : w62.cell? ⟨gb101, 0, none⟩ = some (.int .u64 a0_0) := (blk_cell BK101.out 0).trans rfl; have hcz63_1 : w62.cell? ⟨gb101, 1, none⟩ = some (.int .u64 a0_1) := (blk_cell BK101.out 1).trans rfl; have hfz63_0 := blk_frozen BK101.out 0; have hfz63_1 := blk_frozen BK101.out 1) | ((with_reducible refine gate_callee (f := 22) rfl ?_); refine goesL_ (some 79) rfl rfl Try.func22 (by kernel_rfl) rfl #[.agg #[.int .u64 a0_0, .int .u64 a0_1], .int .i64 a3] rfl (by (try simp only [List.map_toArray, List.map_cons, List.map_nil]); first | done | rfl | (simp only [List.length_drop, List.length_take]; rfl)) ?_; (with_reducible refine (inquestref06_At.calls kj10 a0_0 a0_1 a3 t123 t124 _ A52.out).mono ?_); rintro e w64 ⟨rfl, hb⟩; refine ⟨_, rfl, ?_⟩; have n0_ := Aside0.mk (blk_below (g := gb101) (o := .cells #[.int .u64 a0_0, .int .u64 a0_1] 24 (0, 0)) (by (with_reducible repeat (first | refine blk_drewN ?_ _ | refine blk_drew ?_ | refine blk_alloc ?_ _)); exact BK101.out) hb); have n1_ := Aside0.mk (blk_below (g := gb102) (o := .cells #[.int .u64 a1_0, .int .u64 a1_1] 24 (0, 0)) (by (with_reducible repeat (first | refine blk_drewN ?_ _ | refine blk_drew ?_ | refine blk_alloc ?_ _)); exact BK102.out) hb); have n2_ := Aside0.mk (blk_below (g := gb106) (o := .cells #[.int .u64 t103, .int .u64 t104] 24 (0, 0)) (by (with_reducible repeat (first | refine blk_drewN ?_ _ | refine blk_drew ?_ | refine blk_alloc ?_ _)); exact BK106.out) hb); have n3_ := Aside0.mk (blk_below (g := gb110) (o := .cells #[.int .u64 t107, .int .u64 t108] 24 (0, 0)) (by (with_reducible repeat (first | refine blk_drewN ?_ _ | refine blk_drew ?_ | refine blk_alloc ?_ _)); exact BK110.out) hb); have n4_ := Aside0.mk (blk_below (g := gb114) (o := .cells #[.int .u64 t111, .int .u64 t112] 24 (0, 0)) (by (with_reducible repeat (first | refine blk_drewN ?_ _ | refine blk_drew ?_ | refine blk_alloc ?_ _)); exact BK114.out) hb); have n5_ := Aside0.mk (blk_below (g := gb118) (o := .cells #[.int .u64 t115, .int .u64 t116] 24 (0, 0)) (by (with_reducible repeat (first | refine blk_drewN ?_ _ | refine blk_drew ?_ | refine blk_alloc ?_ _)); exact BK118.out) hb); have n6_ := Aside0.mk (below_step (by repeat (first | (with_reducible first | exact HB.out | apply below_alloc | apply pw_below_drewN | apply below_drew1 | refine below_set ?_ GE101.out | refine below_set ?_ GE102.out | refine below_set ?_ GE106.out | refine below_set ?_ GE110.out | refine below_set ?_ GE114.out | refine below_set ?_ GE118.out) | exact HB.out)) hb); clear BK101; clear BK102; clear BK106; clear BK110; clear BK114; clear BK118; clear HB; have BK101 := n0_; have BK102 := n1_; have BK106 := n2_; have BK110 := n3_; have BK114 := n4_; have BK118 := n5_; have HB := n6_; clear n0_ n1_ n2_ n3_ n4_ n5_ n6_; (try clear hb); (try clear hb2); (try clear hk); (try clear hi); have hcz65_0 : w64.cell? ⟨gb101, 0, none⟩ = some (.int .u64 a0_0) := (blk_cell BK101.out 0).trans rfl; have hcz65_1 : w64.cell? ⟨gb101, 1, none⟩ = some (.int .u64 a0_1) := (blk_cell BK101.out 1).trans rfl; have hfz65_0 := blk_frozen BK101.out 0; have hfz65_1 := blk_frozen BK101.out 1) | ((with_reducible refine gate_callee (f := 23) rfl ?_); refine goesL_ (some 86) rfl rfl Try.func23 (by kernel_rfl) rfl #[.agg #[.int .u64 a0_0, .int .u64 a0_1], .int .i64 a3, .int .u8 a4] rfl (by (try simp only [List.map_toArray, List.map_cons, List.map_nil]); first | done | rfl | (simp only [List.length_drop, List.length_take]; rfl)) ?_; (with_reducible refine (tern_With.calls a0_0 a0_1 a3 a4 t125 t126 t127 _ A53.out).mono ?_); rintro e w66 ⟨rfl, hb⟩; refine ⟨_, rfl, ?_⟩; have n0_ := Aside0.mk (blk_below (g := gb101) (o := .cells #[.int .u64 a0_0, .int .u64 a0_1] 24 (0, 0)) (by (with_reducible repeat (first | refine blk_drewN ?_ _ | refine blk_drew ?_ | refine blk_alloc ?_ _)); exact BK101.out) hb); have n1_ := Aside0.mk (blk_below (g := gb102) (o := .cells #[.int .u64 a1_0, .int .u64 a1_1] 24 (0, 0)) (by (with_reducible repeat (first | refine blk_drewN ?_ _ | refine blk_drew ?_ | refine blk_alloc ?_ _)); exact BK102.out) hb); have n2_ := Aside0.mk (blk_below (g := gb106) (o := .cells #[.int .u64 t103, .int .u64 t104] 24 (0, 0)) (by (with_reducible repeat (first | refine blk_drewN ?_ _ | refine blk_drew ?_ | refine blk_alloc ?_ _)); exact BK106.out) hb); have n3_ := Aside0.mk (blk_below (g := gb110) (o := .cells #[.int .u64 t107, .int .u64 t108] 24 (0, 0)) (by (with_reducible repeat (first | refine blk_drewN ?_ _ | refine blk_drew ?_ | refine blk_alloc ?_ _)); exact BK110.out) hb); have n4_ := Aside0.mk (blk_below (g := gb114) (o := .cells #[.int .u64 t111, .int .u64 t112] 24 (0, 0)) (by (with_reducible repeat (first | refine blk_drewN ?_ _ | refine blk_drew ?_ | refine blk_alloc ?_ _)); exact BK114.out) hb); have n5_ := Aside0.mk (blk_below (g := gb118) (o := .cells #[.int .u64 t115, .int .u64 t116] 24 (0, 0)) (by (with_reducible repeat (first | refine blk_drewN ?_ _ | refine blk_drew ?_ | refine blk_alloc ?_ _)); exact BK118.out) hb); have n6_ := Aside0.mk (below_step (by repeat (first | (with_reducible first | exact HB.out | apply below_alloc | apply pw_below_drewN | apply below_drew1 | refine below_set ?_ GE101.out | refine below_set ?_ GE102.out | refine below_set ?_ GE106.out | refine below_set ?_ GE110.out | refine below_set ?_ GE114.out | refine below_set ?_ GE118.out) | exact HB.out)) hb); clear BK101; clear BK102; clear BK106; clear BK110; clear BK114; clear BK118; clear HB; have BK101 := n0_; have BK102 := n1_; have BK106 := n2_; have BK110 := n3_; have BK114 := n4_; have BK118 := n5_; have HB := n6_; clear n0_ n1_ n2_ n3_ n4_ n5_ n6_; (try clear hb); (try clear hb2); (try clear hk); (try clear hi); have hnb67 := NB106_102.out; have hnc67 := NB102_106.out; have hnb68 := NB106_110.out; have hnc68 := NB110_106.out; have hnb69 := NB106_114.out; have hnc69 := NB114_106.out; have hnb70 := NB106_118.out; have hnc70 := NB118_106.out; have hcz71_0 : w66.cell? ⟨gb106, 0, none⟩ = some (.int .u64 t103) := (blk_cell BK106.out 0).trans rfl; have hcz71_1 : w66.cell? ⟨gb106, 1, none⟩ = some (.int .u64 t104) := (blk_cell BK106.out 1).trans rfl; have hfz71_0 := blk_frozen BK106.out 0; have hfz71_1 := blk_frozen BK106.out 1; have hcz72_0 : w66.cell? ⟨gb101, 0, none⟩ = some (.int .u64 a0_0) := (blk_cell BK101.out 0).trans rfl; have hcz72_1 : w66.cell? ⟨gb101, 1, none⟩ = some (.int .u64 a0_1) := (blk_cell BK101.out 1).trans rfl; have hfz72_0 := blk_frozen BK101.out 0; have hfz72_1 := blk_frozen BK101.out 1) | ((with_reducible refine gate_callee (f := 24) rfl ?_); refine goesL_ (some 93) rfl rfl Try.func24 (by kernel_rfl) rfl #[.agg #[.int .u64 a0_0, .int .u64 a0_1], .int .i64 a3, .int .u8 a4] rfl (by (try simp only [List.map_toArray, List.map_cons, List.map_nil]); first | done | rfl | (simp only [List.length_drop, List.length_take]; rfl)) ?_; (with_reducible refine (inquestref06_With.calls kj10 a0_0 a0_1 a3 a4 t128 t129 t130 _ A54.out).mono ?_); rintro e w73 ⟨rfl, hb⟩; refine ⟨_, rfl, ?_⟩; have n0_ := Aside0.mk (blk_below (g := gb101) (o := .cells #[.int .u64 a0_0, .int .u64 a0_1] 24 (0, 0)) (by (with_reducible repeat (first | refine blk_drewN ?_ _ | refine blk_drew ?_ | refine blk_alloc ?_ _)); refine blk_far ?_ NB101_106.out _; (with_reducible repeat (first | refine blk_drewN ?_ _ | refine blk_drew ?_ | refine blk_alloc ?_ _)); refine blk_far ?_ NB101_106.out _; (with_reducible repeat (first | refine blk_drewN ?_ _ | refine blk_drew ?_ | refine blk_alloc ?_ _)); exact BK101.out) hb); have n1_ := Aside0.mk (blk_below (g := gb102) (o := .cells #[.int .u64 a1_0, .int .u64 a1_1] 24 (0, 0)) (by (with_reducible repeat (first | refine blk_drewN ?_ _ | refine blk_drew ?_ | refine blk_alloc ?_ _)); refine blk_far ?_ NB102_106.out _; (with_reducible repeat (first | refine blk_drewN ?_ _ | refine blk_drew ?_ | refine blk_alloc ?_ _)); refine blk_far ?_ NB102_106.out _; (with_reducible repeat (first | refine blk_drewN ?_ _ | refine blk_drew ?_ | refine blk_alloc ?_ _)); exact BK102.out) hb); have n2_ := Aside0.mk (blk_below (g := gb106) (o := .cells #[.int .u64 t125, .int .u64 t126] 24 (0, 0)) (by (with_reducible repeat (first | refine blk_drewN ?_ _ | refine blk_drew ?_ | refine blk_alloc ?_ _)); refine blk_put (cs := #[.int .u64 t125, .int .u64 t104]) ?_ 1 _ rfl; (with_reducible repeat (first | refine blk_drewN ?_ _ | refine blk_drew ?_ | refine blk_alloc ?_ _)); refine blk_put (cs := #[.int .u64 t103, .int .u64 t104]) ?_ 0 _ rfl; (with_reducible repeat (first | refine blk_drewN ?_ _ | refine blk_drew ?_ | refine blk_alloc ?_ _)); exact BK106.out) hb); have n3_ := Aside0.mk (blk_below (g := gb110) (o := .cells #[.int .u64 t107, .int .u64 t108] 24 (0, 0)) (by (with_reducible repeat (first | refine blk_drewN ?_ _ | refine blk_drew ?_ | refine blk_alloc ?_ _)); refine blk_far ?_ NB110_106.out _; (with_reducible repeat (first | refine blk_drewN ?_ _ | refine blk_drew ?_ | refine blk_alloc ?_ _)); refine blk_far ?_ NB110_106.out _; (with_reducible repeat (first | refine blk_drewN ?_ _ | refine blk_drew ?_ | refine blk_alloc ?_ _)); exact BK110.out) hb); have n4_ := Aside0.mk (blk_below (g := gb114) (o := .cells #[.int .u64 t111, .int .u64 t112] 24 (0, 0)) (by (with_reducible repeat (first | refine blk_drewN ?_ _ | refine blk_drew ?_ | refine blk_alloc ?_ _)); refine blk_far ?_ NB114_106.out _; (with_reducible repeat (first | refine blk_drewN ?_ _ | refine blk_drew ?_ | refine blk_alloc ?_ _)); refine blk_far ?_ NB114_106.out _; (with_reducible repeat (first | refine blk_drewN ?_ _ | refine blk_drew ?_ | refine blk_alloc ?_ _)); exact BK114.out) hb); have n5_ := Aside0.mk (blk_below (g := gb118) (o := .cells #[.int .u64 t115, .int .u64 t116] 24 (0, 0)) (by (with_reducible repeat (first | refine blk_drewN ?_ _ | refine blk_drew ?_ | refine blk_alloc ?_ _)); refine blk_far ?_ NB118_106.out _; (with_reducible repeat (first | refine blk_drewN ?_ _ | refine blk_drew ?_ | refine blk_alloc ?_ _)); refine blk_far ?_ NB118_106.out _; (with_reducible repeat (first | refine blk_drewN ?_ _ | refine blk_drew ?_ | refine blk_alloc ?_ _)); exact BK118.out) hb); have n6_ := Aside0.mk (below_step (by repeat (first | (with_reducible first | exact HB.out | apply below_alloc | apply pw_below_drewN | apply below_drew1 | refine below_set ?_ GE101.out | refine below_set ?_ GE102.out | refine below_set ?_ GE106.out | refine below_set ?_ GE110.out | refine below_set ?_ GE114.out | refine below_set ?_ GE118.out) | exact HB.out)) hb); clear BK101; clear BK102; clear BK106; clear BK110; clear BK114; clear BK118; clear HB; have BK101 := n0_; have BK102 := n1_; have BK106 := n2_; have BK110 := n3_; have BK114 := n4_; have BK118 := n5_; have HB := n6_; clear n0_ n1_ n2_ n3_ n4_ n5_ n6_; (try clear hb); (try clear hb2); (try clear hk); (try clear hi); have hnb74 := NB110_102.out; have hnc74 := NB102_110.out; have hnb75 := NB110_114.out; have hnc75 := NB114_110.out; have hnb76 := NB110_118.out; have hnc76 := NB118_110.out; have hcz77_0 : w73.cell? ⟨gb110, 0, none⟩ = some (.int .u64 t107) := (blk_cell BK110.out 0).trans rfl; have hcz77_1 : w73.cell? ⟨gb110, 1, none⟩ = some (.int .u64 t108) := (blk_cell BK110.out 1).trans rfl; have hfz77_0 := blk_frozen BK110.out 0; have hfz77_1 := blk_frozen BK110.out 1))
        (try simp only [Act.put, List.setIfInBounds_toArray, List.set_cons_zero, List.set_cons_succ])
        go_cut [129] (fun v129 wc => ∃ (kq : Nat) (x129_54 : Bool), v129 = .bool x129_54 ∧ Aside0 (inquestlaw06_TernTells.j1 kq a4 a5 x129_54 a0_0 a0_1 a1_0 a1_1 = some r) ∧ Aside0 (kq ≤ kj10) ∧ Aside0 (wc.heap[gb101]? = some (.cells #[.int .u64 a0_0, .int .u64 a0_1] 24 (0, 0))) ∧ Aside0 (wc.heap[gb102]? = some (.cells #[.int .u64 a1_0, .int .u64 a1_1] 24 (0, 0))) ∧ Aside0 (wc.heap[gb106]? = some (.cells #[.int .u64 t125, .int .u64 t126] 24 (0, 0))) ∧ Aside0 (wc.heap[gb110]? = some (.cells #[.int .u64 t128, .int .u64 t129] 24 (0, 0))) ∧ Aside0 (wc.heap[gb114]? = some (.cells #[.int .u64 t111, .int .u64 t112] 24 (0, 0))) ∧ Aside0 (wc.heap[gb118]? = some (.cells #[.int .u64 t115, .int .u64 t116] 24 (0, 0))) ∧ Aside0 (Below w.heap.size w wc))
        case first =>
          have H := HC55.out
          clear HC55
          by_cases c78 : t121 = t123
          · rw [if_pos c78] at H
            have c78b0 : (t121 == t123) = true := beq_iff_eq.mpr c78
            have c78b1 : (t121 != t123) = false := bne_eq_false_iff_eq.mpr c78
            clear c78
            (first | rw [c78b0] | (simp only [i64_w, i32_w]; rw [c78b0]) | skip)
            by_cases c79 : (t122 != t124) = true
            · rw [if_pos c79] at H
              have c79b0 : (t122 != t124) = true := c79
              (try (have c79b1 : decide (t122 = t124) = false := by simpa using c79))
              (try (have c79b2 : (t122 == t124) = false := by simpa using c79))
              (try (have c79b3 : ¬ (t122 = t124) := by simpa using c79))
              clear c79
              cases kj10 with
              | zero => exact absurd H (by simp [inquestlaw06_TernTells.j1])
              | succ kz_ => exact absurd ((Option.some.inj (show some false = some r from H)).trans hrt.out) (by simp)
            · rw [if_neg c79] at H
              have c79b0 : (t122 != t124) = false := by simpa using c79
              (try (have c79b1 : decide (t122 = t124) = true := by simpa using c79))
              (try (have c79b2 : (t122 == t124) = true := by simpa using c79))
              clear c79
              by_cases c80 : (!(t125 == t128) || (!(t126 == t129))) = true
              · rw [if_pos c80] at H
                have c80b0 : (!(t125 == t128) || (!(t126 == t129))) = true := c80
                clear c80
                cases kj10 with
                | zero => exact absurd H (by simp [inquestlaw06_TernTells.j1])
                | succ kz_ => exact absurd ((Option.some.inj (show some false = some r from H)).trans hrt.out) (by simp)
              · rw [if_neg c80] at H
                have c80b0 : (!(t125 == t128) || (!(t126 == t129))) = false := by simpa using c80
                clear c80
                by_cases c81 : t127 = t130
                · rw [if_pos c81] at H
                  have c81b0 : (t127 == t130) = true := beq_iff_eq.mpr c81
                  have c81b1 : (t127 != t130) = false := bne_eq_false_iff_eq.mpr c81
                  clear c81
                  replace H := Option.bind_eq_some_iff.mp H
                  obtain ⟨⟨t131, t132⟩, A820, H⟩ := H
                  replace H : ((inquestref06_Not.f kj10 a0_0 a0_1).bind fun bt133 => (if (!(t131 == bt133.1) || (!(t132 == bt133.2))) = true then (inquestlaw06_TernTells.j1 kj10 a4 a5 true a0_0 a0_1 a1_0 a1_1) else ((tern_And.f a0_0 a0_1 a1_0 a1_1).bind fun bt135 => ((inquestref06_And.f kj10 a0_0 a0_1 a1_0 a1_1).bind fun bt137 => (inquestlaw06_TernTells.j1 kj10 a4 a5 (!(bt135.1 == bt137.1) || (!(bt135.2 == bt137.2))) a0_0 a0_1 a1_0 a1_1))))) = some r := H
                  have A82 := Aside0.mk A820
                  clear A820
                  replace H := Option.bind_eq_some_iff.mp H
                  obtain ⟨⟨t133, t134⟩, A830, H⟩ := H
                  replace H : (if (!(t131 == t133) || (!(t132 == t134))) = true then (inquestlaw06_TernTells.j1 kj10 a4 a5 true a0_0 a0_1 a1_0 a1_1) else ((tern_And.f a0_0 a0_1 a1_0 a1_1).bind fun bt135 => ((inquestref06_And.f kj10 a0_0 a0_1 a1_0 a1_1).bind fun bt137 => (inquestlaw06_TernTells.j1 kj10 a4 a5 (!(bt135.1 == bt137.1) || (!(bt135.2 == bt137.2))) a0_0 a0_1 a1_0 a1_1)))) = some r := H
                  have A83 := Aside0.mk A830
                  clear A830
                  by_cases c84 : (!(t131 == t133) || (!(t132 == t134))) = true
                  · rw [if_pos c84] at H
                    have c84b0 : (!(t131 == t133) || (!(t132 == t134))) = true := c84
                    clear c84
                    cases kj10 with
                    | zero => exact absurd H (by simp [inquestlaw06_TernTells.j1])
                    | succ kz_ => exact absurd ((Option.some.inj (show some false = some r from H)).trans hrt.out) (by simp)
                  · rw [if_neg c84] at H
                    have c84b0 : (!(t131 == t133) || (!(t132 == t134))) = false := by simpa using c84
                    clear c84
                    replace H := Option.bind_eq_some_iff.mp H
                    obtain ⟨⟨t135, t136⟩, A850, H⟩ := H
                    replace H : ((inquestref06_And.f kj10 a0_0 a0_1 a1_0 a1_1).bind fun bt137 => (inquestlaw06_TernTells.j1 kj10 a4 a5 (!(t135 == bt137.1) || (!(t136 == bt137.2))) a0_0 a0_1 a1_0 a1_1)) = some r := H
                    have A85 := Aside0.mk A850
                    clear A850
                    replace H := Option.bind_eq_some_iff.mp H
                    obtain ⟨⟨t137, t138⟩, A860, H⟩ := H
                    replace H : (inquestlaw06_TernTells.j1 kj10 a4 a5 (!(t135 == t137) || (!(t136 == t138))) a0_0 a0_1 a1_0 a1_1) = some r := H
                    have A86 := Aside0.mk A860
                    clear A860
                    have H' := Aside0.mk H
                    clear H
                    try go_wp2
                    have n0_ : Aside0 (((w73.setCell ⟨gb110, 0, none⟩ (.int .u64 t128)).setCell ⟨gb110, 1, none⟩ (.int .u64 t129)).heap[gb101]? = some (.cells #[.int .u64 a0_0, .int .u64 a0_1] 24 (0, 0))) := ⟨by (with_reducible repeat (first | refine blk_drewN ?_ _ | refine blk_drew ?_ | refine blk_alloc ?_ _)); refine blk_far ?_ NB101_110.out _; (with_reducible repeat (first | refine blk_drewN ?_ _ | refine blk_drew ?_ | refine blk_alloc ?_ _)); refine blk_far ?_ NB101_110.out _; (with_reducible repeat (first | refine blk_drewN ?_ _ | refine blk_drew ?_ | refine blk_alloc ?_ _)); exact BK101.out⟩
                    have n1_ : Aside0 (((w73.setCell ⟨gb110, 0, none⟩ (.int .u64 t128)).setCell ⟨gb110, 1, none⟩ (.int .u64 t129)).heap[gb102]? = some (.cells #[.int .u64 a1_0, .int .u64 a1_1] 24 (0, 0))) := ⟨by (with_reducible repeat (first | refine blk_drewN ?_ _ | refine blk_drew ?_ | refine blk_alloc ?_ _)); refine blk_far ?_ NB102_110.out _; (with_reducible repeat (first | refine blk_drewN ?_ _ | refine blk_drew ?_ | refine blk_alloc ?_ _)); refine blk_far ?_ NB102_110.out _; (with_reducible repeat (first | refine blk_drewN ?_ _ | refine blk_drew ?_ | refine blk_alloc ?_ _)); exact BK102.out⟩
                    have n2_ : Aside0 (((w73.setCell ⟨gb110, 0, none⟩ (.int .u64 t128)).setCell ⟨gb110, 1, none⟩ (.int .u64 t129)).heap[gb106]? = some (.cells #[.int .u64 t125, .int .u64 t126] 24 (0, 0))) := ⟨by (with_reducible repeat (first | refine blk_drewN ?_ _ | refine blk_drew ?_ | refine blk_alloc ?_ _)); refine blk_far ?_ NB106_110.out _; (with_reducible repeat (first | refine blk_drewN ?_ _ | refine blk_drew ?_ | refine blk_alloc ?_ _)); refine blk_far ?_ NB106_110.out _; (with_reducible repeat (first | refine blk_drewN ?_ _ | refine blk_drew ?_ | refine blk_alloc ?_ _)); exact BK106.out⟩
                    have n3_ : Aside0 (((w73.setCell ⟨gb110, 0, none⟩ (.int .u64 t128)).setCell ⟨gb110, 1, none⟩ (.int .u64 t129)).heap[gb110]? = some (.cells #[.int .u64 t128, .int .u64 t129] 24 (0, 0))) := ⟨by (with_reducible repeat (first | refine blk_drewN ?_ _ | refine blk_drew ?_ | refine blk_alloc ?_ _)); refine blk_put (cs := #[.int .u64 t128, .int .u64 t108]) ?_ 1 _ rfl; (with_reducible repeat (first | refine blk_drewN ?_ _ | refine blk_drew ?_ | refine blk_alloc ?_ _)); refine blk_put (cs := #[.int .u64 t107, .int .u64 t108]) ?_ 0 _ rfl; (with_reducible repeat (first | refine blk_drewN ?_ _ | refine blk_drew ?_ | refine blk_alloc ?_ _)); exact BK110.out⟩
                    have n4_ : Aside0 (((w73.setCell ⟨gb110, 0, none⟩ (.int .u64 t128)).setCell ⟨gb110, 1, none⟩ (.int .u64 t129)).heap[gb114]? = some (.cells #[.int .u64 t111, .int .u64 t112] 24 (0, 0))) := ⟨by (with_reducible repeat (first | refine blk_drewN ?_ _ | refine blk_drew ?_ | refine blk_alloc ?_ _)); refine blk_far ?_ NB114_110.out _; (with_reducible repeat (first | refine blk_drewN ?_ _ | refine blk_drew ?_ | refine blk_alloc ?_ _)); refine blk_far ?_ NB114_110.out _; (with_reducible repeat (first | refine blk_drewN ?_ _ | refine blk_drew ?_ | refine blk_alloc ?_ _)); exact BK114.out⟩
                    have n5_ : Aside0 (((w73.setCell ⟨gb110, 0, none⟩ (.int .u64 t128)).setCell ⟨gb110, 1, none⟩ (.int .u64 t129)).heap[gb118]? = some (.cells #[.int .u64 t115, .int .u64 t116] 24 (0, 0))) := ⟨by (with_reducible repeat (first | refine blk_drewN ?_ _ | refine blk_drew ?_ | refine blk_alloc ?_ _)); refine blk_far ?_ NB118_110.out _; (with_reducible repeat (first | refine blk_drewN ?_ _ | refine blk_drew ?_ | refine blk_alloc ?_ _)); refine blk_far ?_ NB118_110.out _; (with_reducible repeat (first | refine blk_drewN ?_ _ | refine blk_drew ?_ | refine blk_alloc ?_ _)); exact BK118.out⟩
                    have n6_ : Aside0 (Below w.heap.size w ((w73.setCell ⟨gb110, 0, none⟩ (.int .u64 t128)).setCell ⟨gb110, 1, none⟩ (.int .u64 t129))) := ⟨by repeat (first | (with_reducible first | exact HB.out | apply below_alloc | apply pw_below_drewN | apply below_drew1 | refine below_set ?_ GE101.out | refine below_set ?_ GE102.out | refine below_set ?_ GE106.out | refine below_set ?_ GE110.out | refine below_set ?_ GE114.out | refine below_set ?_ GE118.out) | exact HB.out)⟩
                    (try clear BK101)
                    (try clear BK102)
                    (try clear BK106)
                    (try clear BK110)
                    (try clear BK114)
                    (try clear BK118)
                    (try clear HB)
                    generalize ((w73.setCell ⟨gb110, 0, none⟩ (.int .u64 t128)).setCell ⟨gb110, 1, none⟩ (.int .u64 t129)) = w87 at n0_ n1_ n2_ n3_ n4_ n5_ n6_ ⊢
                    have BK101 := n0_
                    have BK102 := n1_
                    have BK106 := n2_
                    have BK110 := n3_
                    have BK114 := n4_
                    have BK118 := n5_
                    have HB := n6_
                    clear n0_ n1_ n2_ n3_ n4_ n5_ n6_
                    have n0_ := Aside0.mk (blk_drew BK101.out)
                    have n1_ := Aside0.mk (blk_drew BK102.out)
                    have n2_ := Aside0.mk (blk_drew BK106.out)
                    have n3_ := Aside0.mk (blk_drew BK110.out)
                    have n4_ := Aside0.mk (blk_drew BK114.out)
                    have n5_ := Aside0.mk (blk_drew BK118.out)
                    have n6_ := Aside0.mk (below_drew1 HB.out)
                    clear BK101
                    clear BK102
                    clear BK106
                    clear BK110
                    clear BK114
                    clear BK118
                    clear HB
                    have BK101 := n0_
                    have BK102 := n1_
                    have BK106 := n2_
                    have BK110 := n3_
                    have BK114 := n4_
                    have BK118 := n5_
                    have HB := n6_
                    clear n0_ n1_ n2_ n3_ n4_ n5_ n6_
                    refine start_ (n := 34) (S := fun w' => w'.cell? ⟨gb106, 0, none⟩ = some (.int .u64 t125) ∧ w'.cell? ⟨gb106, 1, none⟩ = some (.int .u64 t126) ∧ w'.cell? ⟨gb110, 0, none⟩ = some (.int .u64 t128) ∧ w'.cell? ⟨gb110, 1, none⟩ = some (.int .u64 t129) ∧ w'.cell? ⟨gb101, 0, none⟩ = some (.int .u64 a0_0) ∧ w'.cell? ⟨gb101, 1, none⟩ = some (.int .u64 a0_1) ∧ w'.cell? ⟨gb102, 0, none⟩ = some (.int .u64 a1_0) ∧ w'.cell? ⟨gb102, 1, none⟩ = some (.int .u64 a1_1)) (ds := []) #[false, false, false, false, false, false, false, false, false, false, false, false, false, false, false, false, false, false, false, false, false, false, false, false, false, false, false, false, false, false, false, false, false, false] (by kernel_rfl) rfl rfl ⟨(blk_cell BK106.out 0).trans rfl, (blk_cell BK106.out 1).trans rfl, (blk_cell BK110.out 0).trans rfl, (blk_cell BK110.out 1).trans rfl, (blk_cell BK101.out 0).trans rfl, (blk_cell BK101.out 1).trans rfl, (blk_cell BK102.out 0).trans rfl, (blk_cell BK102.out 1).trans rfl⟩ (fun hHeld => ?_); refine with_tabW inquestlaw06_TernTells.tab11 inquestlaw06_TernTells.bits11 (fun HT_ HW_ => ?_)
                    generalize w87.drew = w88 at BK101 BK102 BK106 BK110 BK114 BK118 HB hHeld ⊢
                    refine pure_ (i := 0) (N := some 96) (v := ?_) (a' := ?_) #[true, false, false, false, false, false, false, false, false, false, false, false, false, false, false, false, false, false, false, false, false, false, false, false, false, false, false, false, false, false, false, false, false, false] rfl rfl (any_of HT_.out (by kernel_rfl)) (fun _ _ _ h => h) (Or.inl ⟨by rfl, ?_⟩) ?_ ?_
                    rotate_left
                    · intro w'
                      go_simp
                      with_reducible rfl
                    rotate_left
                    · simp only [Act.put, List.setIfInBounds_toArray, List.set_cons_zero, List.set_cons_succ, i64_w, i32_w]
                      rfl
                    refine pure_ (i := 1) (N := some 97) (v := ?_) (a' := ?_) #[true, true, false, false, false, false, false, false, false, false, false, false, false, false, false, false, false, false, false, false, false, false, false, false, false, false, false, false, false, false, false, false, false, false] rfl rfl (any_of HT_.out (by kernel_rfl)) (fun _ _ _ h => h) (Or.inl ⟨by rfl, ?_⟩) ?_ ?_
                    rotate_left
                    · intro w'
                      go_simp
                      with_reducible rfl
                    rotate_left
                    · simp only [Act.put, List.setIfInBounds_toArray, List.set_cons_zero, List.set_cons_succ, i64_w, i32_w]
                      rfl
                    refine pure_ (i := 2) (N := some 98) (v := ?_) (a' := ?_) #[true, true, true, false, false, false, false, false, false, false, false, false, false, false, false, false, false, false, false, false, false, false, false, false, false, false, false, false, false, false, false, false, false, false] rfl rfl (any_of HT_.out (by kernel_rfl)) (fun _ _ _ h => h) (Or.inl ⟨by rfl, ?_⟩) ?_ ?_
                    rotate_left
                    · intro w'
                      go_simp
                      with_reducible rfl
                    rotate_left
                    · simp only [Act.put, List.setIfInBounds_toArray, List.set_cons_zero, List.set_cons_succ, i64_w, i32_w]
                      rfl
                    refine pure_ (i := 3) (N := some 99) (v := ?_) (a' := ?_) #[true, true, true, true, false, false, false, false, false, false, false, false, false, false, false, false, false, false, false, false, false, false, false, false, false, false, false, false, false, false, false, false, false, false] rfl rfl (any_of HT_.out (by kernel_rfl)) (fun _ _ _ h => h) (Or.inl ⟨by rfl, ?_⟩) ?_ ?_
                    rotate_left
                    · intro w'
                      go_simp
                      with_reducible rfl
                    rotate_left
                    · simp only [Act.put, List.setIfInBounds_toArray, List.set_cons_zero, List.set_cons_succ, i64_w, i32_w]
                      rfl
                    refine pure_ (i := 4) (N := some 100) (v := ?_) (a' := ?_) #[true, true, true, true, true, false, false, false, false, false, false, false, false, false, false, false, false, false, false, false, false, false, false, false, false, false, false, false, false, false, false, false, false, false] rfl rfl (any_of HT_.out (by kernel_rfl)) (fun _ _ _ h => h) (Or.inl ⟨by rfl, ?_⟩) ?_ ?_
                    rotate_left
                    · intro w'
                      go_simp
                      with_reducible rfl
                    rotate_left
                    · simp only [Act.put, List.setIfInBounds_toArray, List.set_cons_zero, List.set_cons_succ, i64_w, i32_w]
                      rfl
                    refine pure_ (i := 5) (N := some 101) (v := ?_) (a' := ?_) #[true, true, true, true, true, true, false, false, false, false, false, false, false, false, false, false, false, false, false, false, false, false, false, false, false, false, false, false, false, false, false, false, false, false] rfl rfl (any_of HT_.out (by kernel_rfl)) (fun _ _ _ h => h) (Or.inl ⟨by rfl, ?_⟩) ?_ ?_
                    rotate_left
                    · intro w'
                      go_simp
                      with_reducible rfl
                    rotate_left
                    · simp only [Act.put, List.setIfInBounds_toArray, List.set_cons_zero, List.set_cons_succ, i64_w, i32_w]
                      rfl
                    refine pure_ (i := 6) (N := some 102) (v := ?_) (a' := ?_) #[true, true, true, true, true, true, true, false, false, false, false, false, false, false, false, false, false, false, false, false, false, false, false, false, false, false, false, false, false, false, false, false, false, false] rfl rfl (any_of HT_.out (by kernel_rfl)) (fun _ _ _ h => h) (Or.inl ⟨by rfl, ?_⟩) ?_ ?_
                    rotate_left
                    · intro w'
                      go_simp
                      with_reducible rfl
                    rotate_left
                    · simp only [Act.put, List.setIfInBounds_toArray, List.set_cons_zero, List.set_cons_succ, i64_w, i32_w]
                      rfl
                    refine pure_ (i := 7) (N := some 103) (v := ?_) (a' := ?_) #[true, true, true, true, true, true, true, true, false, false, false, false, false, false, false, false, false, false, false, false, false, false, false, false, false, false, false, false, false, false, false, false, false, false] rfl rfl (any_of HT_.out (by kernel_rfl)) (fun _ _ _ h => h) (Or.inl ⟨by rfl, ?_⟩) ?_ ?_
                    rotate_left
                    · intro w'
                      go_simp
                      with_reducible rfl
                    rotate_left
                    · simp only [Act.put, List.setIfInBounds_toArray, List.set_cons_zero, List.set_cons_succ, i64_w, i32_w]
                      rfl
                    refine pure_ (i := 8) (N := some 104) (v := ?_) (a' := ?_) #[true, true, true, true, true, true, true, true, true, false, false, false, false, false, false, false, false, false, false, false, false, false, false, false, false, false, false, false, false, false, false, false, false, false] rfl rfl (any_of HT_.out (by kernel_rfl)) (fun _ _ _ h => h) (Or.inl ⟨by rfl, ?_⟩) ?_ ?_
                    rotate_left
                    · intro w'
                      go_simp
                      with_reducible rfl
                    rotate_left
                    · simp only [Act.put, List.setIfInBounds_toArray, List.set_cons_zero, List.set_cons_succ, i64_w, i32_w]
                      rfl
                    refine take_ (i := 9) (N := some 105) (v := ?_) (a' := ?_) #[true, true, true, true, true, true, true, true, true, true, false, false, false, false, false, false, false, false, false, false, false, false, false, false, false, false, false, false, false, false, false, false, false, false] rfl rfl (take_ofW HT_.out HW_.out (by kernel_rfl)) (fun _ _ _ h => h) (Or.inl ⟨by rfl, ?_⟩) hHeld ?_ ?_
                    rotate_left
                    · rintro w' ⟨s0, s1, s2, s3, s4, s5, s6, s7⟩
                      go_simp
                      with_reducible rfl
                    rotate_left
                    · simp only [Act.put, List.setIfInBounds_toArray, List.set_cons_zero, List.set_cons_succ, i64_w, i32_w]
                      rfl
                    refine take_ (i := 10) (N := some 106) (v := ?_) (a' := ?_) #[true, true, true, true, true, true, true, true, true, true, true, false, false, false, false, false, false, false, false, false, false, false, false, false, false, false, false, false, false, false, false, false, false, false] rfl rfl (take_ofW HT_.out HW_.out (by kernel_rfl)) (fun _ _ _ h => h) (Or.inl ⟨by rfl, ?_⟩) hHeld ?_ ?_
                    rotate_left
                    · rintro w' ⟨s0, s1, s2, s3, s4, s5, s6, s7⟩
                      go_simp
                      with_reducible rfl
                    rotate_left
                    · simp only [Act.put, List.setIfInBounds_toArray, List.set_cons_zero, List.set_cons_succ, i64_w, i32_w]
                      rfl
                    refine pure_ (i := 11) (N := some 107) (v := ?_) (a' := ?_) #[true, true, true, true, true, true, true, true, true, true, true, true, false, false, false, false, false, false, false, false, false, false, false, false, false, false, false, false, false, false, false, false, false, false] rfl rfl (any_of HT_.out (by kernel_rfl)) (fun _ _ _ h => h) (Or.inl ⟨by rfl, ?_⟩) ?_ ?_
                    rotate_left
                    · intro w'
                      go_simp
                      with_reducible rfl
                    rotate_left
                    · simp only [Act.put, List.setIfInBounds_toArray, List.set_cons_zero, List.set_cons_succ, i64_w, i32_w]
                      rfl
                    refine pure_ (i := 12) (N := some 108) (v := ?_) (a' := ?_) #[true, true, true, true, true, true, true, true, true, true, true, true, true, false, false, false, false, false, false, false, false, false, false, false, false, false, false, false, false, false, false, false, false, false] rfl rfl (any_of HT_.out (by kernel_rfl)) (fun _ _ _ h => h) (Or.inl ⟨by rfl, ?_⟩) ?_ ?_
                    rotate_left
                    · intro w'
                      go_simp
                      with_reducible rfl
                    rotate_left
                    · simp only [Act.put, List.setIfInBounds_toArray, List.set_cons_zero, List.set_cons_succ, i64_w, i32_w]
                      rfl
                    refine pure_ (i := 13) (N := some 109) (v := ?_) (a' := ?_) #[true, true, true, true, true, true, true, true, true, true, true, true, true, true, false, false, false, false, false, false, false, false, false, false, false, false, false, false, false, false, false, false, false, false] rfl rfl (any_of HT_.out (by kernel_rfl)) (fun _ _ _ h => h) (Or.inl ⟨by rfl, ?_⟩) ?_ ?_
                    rotate_left
                    · intro w'
                      go_simp
                      with_reducible rfl
                    rotate_left
                    · simp only [Act.put, List.setIfInBounds_toArray, List.set_cons_zero, List.set_cons_succ, i64_w, i32_w]
                      rfl
                    refine pure_ (i := 14) (N := some 110) (v := ?_) (a' := ?_) #[true, true, true, true, true, true, true, true, true, true, true, true, true, true, true, false, false, false, false, false, false, false, false, false, false, false, false, false, false, false, false, false, false, false] rfl rfl (any_of HT_.out (by kernel_rfl)) (fun _ _ _ h => h) (Or.inl ⟨by rfl, ?_⟩) ?_ ?_
                    rotate_left
                    · intro w'
                      go_simp
                      with_reducible rfl
                    rotate_left
                    · simp only [Act.put, List.setIfInBounds_toArray, List.set_cons_zero, List.set_cons_succ, i64_w, i32_w]
                      rfl
                    refine pure_ (i := 15) (N := some 111) (v := ?_) (a' := ?_) #[true, true, true, true, true, true, true, true, true, true, true, true, true, true, true, true, false, false, false, false, false, false, false, false, false, false, false, false, false, false, false, false, false, false] rfl rfl (any_of HT_.out (by kernel_rfl)) (fun _ _ _ h => h) (Or.inl ⟨by rfl, ?_⟩) ?_ ?_
                    rotate_left
                    · intro w'
                      go_simp
                      with_reducible rfl
                    rotate_left
                    · simp only [Act.put, List.setIfInBounds_toArray, List.set_cons_zero, List.set_cons_succ, i64_w, i32_w]
                      rfl
                    refine pure_ (i := 16) (N := some 112) (v := ?_) (a' := ?_) #[true, true, true, true, true, true, true, true, true, true, true, true, true, true, true, true, true, false, false, false, false, false, false, false, false, false, false, false, false, false, false, false, false, false] rfl rfl (any_of HT_.out (by kernel_rfl)) (fun _ _ _ h => h) (Or.inl ⟨by rfl, ?_⟩) ?_ ?_
                    rotate_left
                    · intro w'
                      go_simp
                      with_reducible rfl
                    rotate_left
                    · simp only [Act.put, List.setIfInBounds_toArray, List.set_cons_zero, List.set_cons_succ, i64_w, i32_w]
                      rfl
                    refine pure_ (i := 17) (N := some 113) (v := ?_) (a' := ?_) #[true, true, true, true, true, true, true, true, true, true, true, true, true, true, true, true, true, true, false, false, false, false, false, false, false, false, false, false, false, false, false, false, false, false] rfl rfl (any_of HT_.out (by kernel_rfl)) (fun _ _ _ h => h) (Or.inl ⟨by rfl, ?_⟩) ?_ ?_
                    rotate_left
                    · intro w'
                      go_simp
                      with_reducible rfl
                    rotate_left
                    · simp only [Act.put, List.setIfInBounds_toArray, List.set_cons_zero, List.set_cons_succ, i64_w, i32_w]
                      rfl
                    refine pure_ (i := 18) (N := some 114) (v := ?_) (a' := ?_) #[true, true, true, true, true, true, true, true, true, true, true, true, true, true, true, true, true, true, true, false, false, false, false, false, false, false, false, false, false, false, false, false, false, false] rfl rfl (any_of HT_.out (by kernel_rfl)) (fun _ _ _ h => h) (Or.inl ⟨by rfl, ?_⟩) ?_ ?_
                    rotate_left
                    · intro w'
                      go_simp
                      with_reducible rfl
                    rotate_left
                    · simp only [Act.put, List.setIfInBounds_toArray, List.set_cons_zero, List.set_cons_succ, i64_w, i32_w]
                      rfl
                    refine take_ (i := 19) (N := some 115) (v := ?_) (a' := ?_) #[true, true, true, true, true, true, true, true, true, true, true, true, true, true, true, true, true, true, true, true, false, false, false, false, false, false, false, false, false, false, false, false, false, false] rfl rfl (take_ofW HT_.out HW_.out (by kernel_rfl)) (fun _ _ _ h => h) (Or.inl ⟨by rfl, ?_⟩) hHeld ?_ ?_
                    rotate_left
                    · rintro w' ⟨s0, s1, s2, s3, s4, s5, s6, s7⟩
                      go_simp
                      with_reducible rfl
                    rotate_left
                    · simp only [Act.put, List.setIfInBounds_toArray, List.set_cons_zero, List.set_cons_succ, i64_w, i32_w]
                      rfl
                    refine take_ (i := 21) (N := some 117) (v := ?_) (a' := ?_) #[true, true, true, true, true, true, true, true, true, true, true, true, true, true, true, true, true, true, true, true, false, true, false, false, false, false, false, false, false, false, false, false, false, false] rfl rfl (take_ofW HT_.out HW_.out (by kernel_rfl)) (fun _ _ _ h => h) (Or.inl ⟨by rfl, ?_⟩) hHeld ?_ ?_
                    rotate_left
                    · rintro w' ⟨s0, s1, s2, s3, s4, s5, s6, s7⟩
                      go_simp
                      with_reducible rfl
                    rotate_left
                    · simp only [Act.put, List.setIfInBounds_toArray, List.set_cons_zero, List.set_cons_succ, i64_w, i32_w]
                      rfl
                    refine one_ (i := 20) (N := some 116) #[true, true, true, true, true, true, true, true, true, true, true, true, true, true, true, true, true, true, true, true, true, true, false, false, false, false, false, false, false, false, false, false, false, false] rfl rfl (one_of HT_.out (by kernel_rfl)) (by decide) (fun K hK => ?_)
                    refine goes_ Try.func14 (by kernel_rfl) rfl #[.agg #[.int .u64 a0_0, .int .u64 a0_1]] (by rfl) rfl rfl (by (try simp only [List.map_toArray, List.map_cons, List.map_nil]); first | done | rfl | (simp only [List.length_drop, List.length_take]; rfl)) ?_
                    with_reducible refine (tern_Not.calls a0_0 a0_1 t131 t132 _ A82.out).mono ?_
                    rintro e w89 ⟨rfl, hb⟩
                    refine ⟨_, rfl, ?_⟩
                    have n0_ := Aside0.mk (blk_below (g := gb101) (o := .cells #[.int .u64 a0_0, .int .u64 a0_1] 24 (0, 0)) (by (with_reducible repeat (first | refine blk_drewN ?_ _ | refine blk_drew ?_ | refine blk_alloc ?_ _)); exact BK101.out) hb)
                    have n1_ := Aside0.mk (blk_below (g := gb102) (o := .cells #[.int .u64 a1_0, .int .u64 a1_1] 24 (0, 0)) (by (with_reducible repeat (first | refine blk_drewN ?_ _ | refine blk_drew ?_ | refine blk_alloc ?_ _)); exact BK102.out) hb)
                    have n2_ := Aside0.mk (blk_below (g := gb106) (o := .cells #[.int .u64 t125, .int .u64 t126] 24 (0, 0)) (by (with_reducible repeat (first | refine blk_drewN ?_ _ | refine blk_drew ?_ | refine blk_alloc ?_ _)); exact BK106.out) hb)
                    have n3_ := Aside0.mk (blk_below (g := gb110) (o := .cells #[.int .u64 t128, .int .u64 t129] 24 (0, 0)) (by (with_reducible repeat (first | refine blk_drewN ?_ _ | refine blk_drew ?_ | refine blk_alloc ?_ _)); exact BK110.out) hb)
                    have n4_ := Aside0.mk (blk_below (g := gb114) (o := .cells #[.int .u64 t111, .int .u64 t112] 24 (0, 0)) (by (with_reducible repeat (first | refine blk_drewN ?_ _ | refine blk_drew ?_ | refine blk_alloc ?_ _)); exact BK114.out) hb)
                    have n5_ := Aside0.mk (blk_below (g := gb118) (o := .cells #[.int .u64 t115, .int .u64 t116] 24 (0, 0)) (by (with_reducible repeat (first | refine blk_drewN ?_ _ | refine blk_drew ?_ | refine blk_alloc ?_ _)); exact BK118.out) hb)
                    have n6_ := Aside0.mk (below_step (by repeat (first | (with_reducible first | exact HB.out | apply below_alloc | apply pw_below_drewN | apply below_drew1 | refine below_set ?_ GE101.out | refine below_set ?_ GE102.out | refine below_set ?_ GE106.out | refine below_set ?_ GE110.out | refine below_set ?_ GE114.out | refine below_set ?_ GE118.out) | exact HB.out)) hb)
                    clear BK101
                    clear BK102
                    clear BK106
                    clear BK110
                    clear BK114
                    clear BK118
                    clear HB
                    have BK101 := n0_
                    have BK102 := n1_
                    have BK106 := n2_
                    have BK110 := n3_
                    have BK114 := n4_
                    have BK118 := n5_
                    have HB := n6_
                    clear n0_ n1_ n2_ n3_ n4_ n5_ n6_
                    (try clear hb)
                    (try clear hb2)
                    (try clear hk)
                    (try clear hi)
                    refine hK.out _ _ ⟨(blk_cell BK106.out 0).trans rfl, (blk_cell BK106.out 1).trans rfl, (blk_cell BK110.out 0).trans rfl, (blk_cell BK110.out 1).trans rfl, (blk_cell BK101.out 0).trans rfl, (blk_cell BK101.out 1).trans rfl, (blk_cell BK102.out 0).trans rfl, (blk_cell BK102.out 1).trans rfl⟩ (fun hHeld => ?_)
                    clear hK K
                    refine norm_ (a' := ?_) ?_ ?_
                    rotate_left
                    · show Act.put _ (some 116) _ = _
                      simp only [Act.put, List.setIfInBounds_toArray, List.set_cons_zero, List.set_cons_succ, i64_w, i32_w]
                      rfl
                    refine one_ (i := 22) (N := some 118) #[true, true, true, true, true, true, true, true, true, true, true, true, true, true, true, true, true, true, true, true, true, true, true, false, false, false, false, false, false, false, false, false, false, false] rfl rfl (one_of HT_.out (by kernel_rfl)) (by decide) (fun K hK => ?_)
                    refine goes_ Try.func25 (by kernel_rfl) rfl #[.agg #[.int .u64 a0_0, .int .u64 a0_1]] (by rfl) rfl rfl (by (try simp only [List.map_toArray, List.map_cons, List.map_nil]); first | done | rfl | (simp only [List.length_drop, List.length_take]; rfl)) ?_
                    with_reducible refine (inquestref06_Not.calls kj10 a0_0 a0_1 t133 t134 _ A83.out).mono ?_
                    rintro e w90 ⟨rfl, hb⟩
                    refine ⟨_, rfl, ?_⟩
                    have n0_ := Aside0.mk (blk_below (g := gb101) (o := .cells #[.int .u64 a0_0, .int .u64 a0_1] 24 (0, 0)) (by (with_reducible repeat (first | refine blk_drewN ?_ _ | refine blk_drew ?_ | refine blk_alloc ?_ _)); exact BK101.out) hb)
                    have n1_ := Aside0.mk (blk_below (g := gb102) (o := .cells #[.int .u64 a1_0, .int .u64 a1_1] 24 (0, 0)) (by (with_reducible repeat (first | refine blk_drewN ?_ _ | refine blk_drew ?_ | refine blk_alloc ?_ _)); exact BK102.out) hb)
                    have n2_ := Aside0.mk (blk_below (g := gb106) (o := .cells #[.int .u64 t125, .int .u64 t126] 24 (0, 0)) (by (with_reducible repeat (first | refine blk_drewN ?_ _ | refine blk_drew ?_ | refine blk_alloc ?_ _)); exact BK106.out) hb)
                    have n3_ := Aside0.mk (blk_below (g := gb110) (o := .cells #[.int .u64 t128, .int .u64 t129] 24 (0, 0)) (by (with_reducible repeat (first | refine blk_drewN ?_ _ | refine blk_drew ?_ | refine blk_alloc ?_ _)); exact BK110.out) hb)
                    have n4_ := Aside0.mk (blk_below (g := gb114) (o := .cells #[.int .u64 t111, .int .u64 t112] 24 (0, 0)) (by (with_reducible repeat (first | refine blk_drewN ?_ _ | refine blk_drew ?_ | refine blk_alloc ?_ _)); exact BK114.out) hb)
                    have n5_ := Aside0.mk (blk_below (g := gb118) (o := .cells #[.int .u64 t115, .int .u64 t116] 24 (0, 0)) (by (with_reducible repeat (first | refine blk_drewN ?_ _ | refine blk_drew ?_ | refine blk_alloc ?_ _)); exact BK118.out) hb)
                    have n6_ := Aside0.mk (below_step (by repeat (first | (with_reducible first | exact HB.out | apply below_alloc | apply pw_below_drewN | apply below_drew1 | refine below_set ?_ GE101.out | refine below_set ?_ GE102.out | refine below_set ?_ GE106.out | refine below_set ?_ GE110.out | refine below_set ?_ GE114.out | refine below_set ?_ GE118.out) | exact HB.out)) hb)
                    clear BK101
                    clear BK102
                    clear BK106
                    clear BK110
                    clear BK114
                    clear BK118
                    clear HB
                    have BK101 := n0_
                    have BK102 := n1_
                    have BK106 := n2_
                    have BK110 := n3_
                    have BK114 := n4_
                    have BK118 := n5_
                    have HB := n6_
                    clear n0_ n1_ n2_ n3_ n4_ n5_ n6_
                    (try clear hb)
                    (try clear hb2)
                    (try clear hk)
                    (try clear hi)
                    refine hK.out _ _ ⟨(blk_cell BK106.out 0).trans rfl, (blk_cell BK106.out 1).trans rfl, (blk_cell BK110.out 0).trans rfl, (blk_cell BK110.out 1).trans rfl, (blk_cell BK101.out 0).trans rfl, (blk_cell BK101.out 1).trans rfl, (blk_cell BK102.out 0).trans rfl, (blk_cell BK102.out 1).trans rfl⟩ (fun hHeld => ?_)
                    clear hK K
                    refine norm_ (a' := ?_) ?_ ?_
                    rotate_left
                    · show Act.put _ (some 118) _ = _
                      simp only [Act.put, List.setIfInBounds_toArray, List.set_cons_zero, List.set_cons_succ, i64_w, i32_w]
                      rfl
                    refine pure_ (i := 23) (N := some 119) (v := ?_) (a' := ?_) #[true, true, true, true, true, true, true, true, true, true, true, true, true, true, true, true, true, true, true, true, true, true, true, true, false, false, false, false, false, false, false, false, false, false] rfl rfl (any_of HT_.out (by kernel_rfl)) (fun _ _ _ h => h) (Or.inl ⟨by rfl, ?_⟩) ?_ ?_
                    rotate_left
                    · intro w'
                      go_simp
                      with_reducible rfl
                    rotate_left
                    · simp only [Act.put, List.setIfInBounds_toArray, List.set_cons_zero, List.set_cons_succ, i64_w, i32_w]
                      rfl
                    refine pure_ (i := 24) (N := some 120) (v := ?_) (a' := ?_) #[true, true, true, true, true, true, true, true, true, true, true, true, true, true, true, true, true, true, true, true, true, true, true, true, true, false, false, false, false, false, false, false, false, false] rfl rfl (any_of HT_.out (by kernel_rfl)) (fun _ _ _ h => h) (Or.inl ⟨by rfl, ?_⟩) ?_ ?_
                    rotate_left
                    · intro w'
                      go_simp
                      with_reducible rfl
                    rotate_left
                    · simp only [Act.put, List.setIfInBounds_toArray, List.set_cons_zero, List.set_cons_succ, i64_w, i32_w]
                      rfl
                    refine pure_ (i := 25) (N := some 121) (v := ?_) (a' := ?_) #[true, true, true, true, true, true, true, true, true, true, true, true, true, true, true, true, true, true, true, true, true, true, true, true, true, true, false, false, false, false, false, false, false, false] rfl rfl (any_of HT_.out (by kernel_rfl)) (fun _ _ _ h => h) (Or.inl ⟨by rfl, ?_⟩) ?_ ?_
                    rotate_left
                    · intro w'
                      go_simp
                      with_reducible rfl
                    rotate_left
                    · simp only [Act.put, List.setIfInBounds_toArray, List.set_cons_zero, List.set_cons_succ, i64_w, i32_w]
                      rfl
                    refine take_ (i := 26) (N := some 122) (v := ?_) (a' := ?_) #[true, true, true, true, true, true, true, true, true, true, true, true, true, true, true, true, true, true, true, true, true, true, true, true, true, true, true, false, false, false, false, false, false, false] rfl rfl (take_ofW HT_.out HW_.out (by kernel_rfl)) (fun _ _ _ h => h) (Or.inl ⟨by rfl, ?_⟩) hHeld ?_ ?_
                    rotate_left
                    · rintro w' ⟨s0, s1, s2, s3, s4, s5, s6, s7⟩
                      go_simp
                      with_reducible rfl
                    rotate_left
                    · simp only [Act.put, List.setIfInBounds_toArray, List.set_cons_zero, List.set_cons_succ, i64_w, i32_w]
                      rfl
                    refine take_ (i := 27) (N := some 123) (v := ?_) (a' := ?_) #[true, true, true, true, true, true, true, true, true, true, true, true, true, true, true, true, true, true, true, true, true, true, true, true, true, true, true, true, false, false, false, false, false, false] rfl rfl (take_ofW HT_.out HW_.out (by kernel_rfl)) (fun _ _ _ h => h) (Or.inl ⟨by rfl, ?_⟩) hHeld ?_ ?_
                    rotate_left
                    · rintro w' ⟨s0, s1, s2, s3, s4, s5, s6, s7⟩
                      go_simp
                      with_reducible rfl
                    rotate_left
                    · simp only [Act.put, List.setIfInBounds_toArray, List.set_cons_zero, List.set_cons_succ, i64_w, i32_w]
                      rfl
                    refine take_ (i := 29) (N := some 125) (v := ?_) (a' := ?_) #[true, true, true, true, true, true, true, true, true, true, true, true, true, true, true, true, true, true, true, true, true, true, true, true, true, true, true, true, false, true, false, false, false, false] rfl rfl (take_ofW HT_.out HW_.out (by kernel_rfl)) (fun _ _ _ h => h) (Or.inl ⟨by rfl, ?_⟩) hHeld ?_ ?_
                    rotate_left
                    · rintro w' ⟨s0, s1, s2, s3, s4, s5, s6, s7⟩
                      go_simp
                      with_reducible rfl
                    rotate_left
                    · simp only [Act.put, List.setIfInBounds_toArray, List.set_cons_zero, List.set_cons_succ, i64_w, i32_w]
                      rfl
                    refine take_ (i := 30) (N := some 126) (v := ?_) (a' := ?_) #[true, true, true, true, true, true, true, true, true, true, true, true, true, true, true, true, true, true, true, true, true, true, true, true, true, true, true, true, false, true, true, false, false, false] rfl rfl (take_ofW HT_.out HW_.out (by kernel_rfl)) (fun _ _ _ h => h) (Or.inl ⟨by rfl, ?_⟩) hHeld ?_ ?_
                    rotate_left
                    · rintro w' ⟨s0, s1, s2, s3, s4, s5, s6, s7⟩
                      go_simp
                      with_reducible rfl
                    rotate_left
                    · simp only [Act.put, List.setIfInBounds_toArray, List.set_cons_zero, List.set_cons_succ, i64_w, i32_w]
                      rfl
                    refine one_ (i := 28) (N := some 124) #[true, true, true, true, true, true, true, true, true, true, true, true, true, true, true, true, true, true, true, true, true, true, true, true, true, true, true, true, true, true, true, false, false, false] rfl rfl (one_of HT_.out (by kernel_rfl)) (by decide) (fun K hK => ?_)
                    refine goes_ Try.func15 (by kernel_rfl) rfl #[.agg #[.int .u64 a0_0, .int .u64 a0_1], .agg #[.int .u64 a1_0, .int .u64 a1_1]] (by rfl) rfl rfl (by (try simp only [List.map_toArray, List.map_cons, List.map_nil]); first | done | rfl | (simp only [List.length_drop, List.length_take]; rfl)) ?_
                    with_reducible refine (tern_And.calls a0_0 a0_1 a1_0 a1_1 t135 t136 _ A85.out).mono ?_
                    rintro e w91 ⟨rfl, hb⟩
                    refine ⟨_, rfl, ?_⟩
                    have n0_ := Aside0.mk (blk_below (g := gb101) (o := .cells #[.int .u64 a0_0, .int .u64 a0_1] 24 (0, 0)) (by (with_reducible repeat (first | refine blk_drewN ?_ _ | refine blk_drew ?_ | refine blk_alloc ?_ _)); exact BK101.out) hb)
                    have n1_ := Aside0.mk (blk_below (g := gb102) (o := .cells #[.int .u64 a1_0, .int .u64 a1_1] 24 (0, 0)) (by (with_reducible repeat (first | refine blk_drewN ?_ _ | refine blk_drew ?_ | refine blk_alloc ?_ _)); exact BK102.out) hb)
                    have n2_ := Aside0.mk (blk_below (g := gb106) (o := .cells #[.int .u64 t125, .int .u64 t126] 24 (0, 0)) (by (with_reducible repeat (first | refine blk_drewN ?_ _ | refine blk_drew ?_ | refine blk_alloc ?_ _)); exact BK106.out) hb)
                    have n3_ := Aside0.mk (blk_below (g := gb110) (o := .cells #[.int .u64 t128, .int .u64 t129] 24 (0, 0)) (by (with_reducible repeat (first | refine blk_drewN ?_ _ | refine blk_drew ?_ | refine blk_alloc ?_ _)); exact BK110.out) hb)
                    have n4_ := Aside0.mk (blk_below (g := gb114) (o := .cells #[.int .u64 t111, .int .u64 t112] 24 (0, 0)) (by (with_reducible repeat (first | refine blk_drewN ?_ _ | refine blk_drew ?_ | refine blk_alloc ?_ _)); exact BK114.out) hb)
                    have n5_ := Aside0.mk (blk_below (g := gb118) (o := .cells #[.int .u64 t115, .int .u64 t116] 24 (0, 0)) (by (with_reducible repeat (first | refine blk_drewN ?_ _ | refine blk_drew ?_ | refine blk_alloc ?_ _)); exact BK118.out) hb)
                    have n6_ := Aside0.mk (below_step (by repeat (first | (with_reducible first | exact HB.out | apply below_alloc | apply pw_below_drewN | apply below_drew1 | refine below_set ?_ GE101.out | refine below_set ?_ GE102.out | refine below_set ?_ GE106.out | refine below_set ?_ GE110.out | refine below_set ?_ GE114.out | refine below_set ?_ GE118.out) | exact HB.out)) hb)
                    clear BK101
                    clear BK102
                    clear BK106
                    clear BK110
                    clear BK114
                    clear BK118
                    clear HB
                    have BK101 := n0_
                    have BK102 := n1_
                    have BK106 := n2_
                    have BK110 := n3_
                    have BK114 := n4_
                    have BK118 := n5_
                    have HB := n6_
                    clear n0_ n1_ n2_ n3_ n4_ n5_ n6_
                    (try clear hb)
                    (try clear hb2)
                    (try clear hk)
                    (try clear hi)
                    refine hK.out _ _ ⟨(blk_cell BK106.out 0).trans rfl, (blk_cell BK106.out 1).trans rfl, (blk_cell BK110.out 0).trans rfl, (blk_cell BK110.out 1).trans rfl, (blk_cell BK101.out 0).trans rfl, (blk_cell BK101.out 1).trans rfl, (blk_cell BK102.out 0).trans rfl, (blk_cell BK102.out 1).trans rfl⟩ (fun hHeld => ?_)
                    clear hK K
                    refine norm_ (a' := ?_) ?_ ?_
                    rotate_left
                    · show Act.put _ (some 124) _ = _
                      simp only [Act.put, List.setIfInBounds_toArray, List.set_cons_zero, List.set_cons_succ, i64_w, i32_w]
                      rfl
                    refine one_ (i := 31) (N := some 127) #[true, true, true, true, true, true, true, true, true, true, true, true, true, true, true, true, true, true, true, true, true, true, true, true, true, true, true, true, true, true, true, true, false, false] rfl rfl (one_of HT_.out (by kernel_rfl)) (by decide) (fun K hK => ?_)
                    refine goes_ Try.func26 (by kernel_rfl) rfl #[.agg #[.int .u64 a0_0, .int .u64 a0_1], .agg #[.int .u64 a1_0, .int .u64 a1_1]] (by rfl) rfl rfl (by (try simp only [List.map_toArray, List.map_cons, List.map_nil]); first | done | rfl | (simp only [List.length_drop, List.length_take]; rfl)) ?_
                    with_reducible refine (inquestref06_And.calls kj10 a0_0 a0_1 a1_0 a1_1 t137 t138 _ A86.out).mono ?_
                    rintro e w92 ⟨rfl, hb⟩
                    refine ⟨_, rfl, ?_⟩
                    have n0_ := Aside0.mk (blk_below (g := gb101) (o := .cells #[.int .u64 a0_0, .int .u64 a0_1] 24 (0, 0)) (by (with_reducible repeat (first | refine blk_drewN ?_ _ | refine blk_drew ?_ | refine blk_alloc ?_ _)); exact BK101.out) hb)
                    have n1_ := Aside0.mk (blk_below (g := gb102) (o := .cells #[.int .u64 a1_0, .int .u64 a1_1] 24 (0, 0)) (by (with_reducible repeat (first | refine blk_drewN ?_ _ | refine blk_drew ?_ | refine blk_alloc ?_ _)); exact BK102.out) hb)
                    have n2_ := Aside0.mk (blk_below (g := gb106) (o := .cells #[.int .u64 t125, .int .u64 t126] 24 (0, 0)) (by (with_reducible repeat (first | refine blk_drewN ?_ _ | refine blk_drew ?_ | refine blk_alloc ?_ _)); exact BK106.out) hb)
                    have n3_ := Aside0.mk (blk_below (g := gb110) (o := .cells #[.int .u64 t128, .int .u64 t129] 24 (0, 0)) (by (with_reducible repeat (first | refine blk_drewN ?_ _ | refine blk_drew ?_ | refine blk_alloc ?_ _)); exact BK110.out) hb)
                    have n4_ := Aside0.mk (blk_below (g := gb114) (o := .cells #[.int .u64 t111, .int .u64 t112] 24 (0, 0)) (by (with_reducible repeat (first | refine blk_drewN ?_ _ | refine blk_drew ?_ | refine blk_alloc ?_ _)); exact BK114.out) hb)
                    have n5_ := Aside0.mk (blk_below (g := gb118) (o := .cells #[.int .u64 t115, .int .u64 t116] 24 (0, 0)) (by (with_reducible repeat (first | refine blk_drewN ?_ _ | refine blk_drew ?_ | refine blk_alloc ?_ _)); exact BK118.out) hb)
                    have n6_ := Aside0.mk (below_step (by repeat (first | (with_reducible first | exact HB.out | apply below_alloc | apply pw_below_drewN | apply below_drew1 | refine below_set ?_ GE101.out | refine below_set ?_ GE102.out | refine below_set ?_ GE106.out | refine below_set ?_ GE110.out | refine below_set ?_ GE114.out | refine below_set ?_ GE118.out) | exact HB.out)) hb)
                    clear BK101
                    clear BK102
                    clear BK106
                    clear BK110
                    clear BK114
                    clear BK118
                    clear HB
                    have BK101 := n0_
                    have BK102 := n1_
                    have BK106 := n2_
                    have BK110 := n3_
                    have BK114 := n4_
                    have BK118 := n5_
                    have HB := n6_
                    clear n0_ n1_ n2_ n3_ n4_ n5_ n6_
                    (try clear hb)
                    (try clear hb2)
                    (try clear hk)
                    (try clear hi)
                    refine hK.out _ _ ⟨(blk_cell BK106.out 0).trans rfl, (blk_cell BK106.out 1).trans rfl, (blk_cell BK110.out 0).trans rfl, (blk_cell BK110.out 1).trans rfl, (blk_cell BK101.out 0).trans rfl, (blk_cell BK101.out 1).trans rfl, (blk_cell BK102.out 0).trans rfl, (blk_cell BK102.out 1).trans rfl⟩ (fun hHeld => ?_)
                    clear hK K
                    refine norm_ (a' := ?_) ?_ ?_
                    rotate_left
                    · show Act.put _ (some 127) _ = _
                      simp only [Act.put, List.setIfInBounds_toArray, List.set_cons_zero, List.set_cons_succ, i64_w, i32_w]
                      rfl
                    refine pure_ (i := 32) (N := some 128) (v := ?_) (a' := ?_) #[true, true, true, true, true, true, true, true, true, true, true, true, true, true, true, true, true, true, true, true, true, true, true, true, true, true, true, true, true, true, true, true, true, false] rfl rfl (any_of HT_.out (by kernel_rfl)) (fun _ _ _ h => h) (Or.inl ⟨by rfl, ?_⟩) ?_ ?_
                    rotate_left
                    · intro w'
                      go_simp
                      with_reducible rfl
                    rotate_left
                    · simp only [Act.put, List.setIfInBounds_toArray, List.set_cons_zero, List.set_cons_succ, i64_w, i32_w]
                      rfl
                    refine pure_ (i := 33) (N := some 129) (v := ?_) (a' := ?_) #[true, true, true, true, true, true, true, true, true, true, true, true, true, true, true, true, true, true, true, true, true, true, true, true, true, true, true, true, true, true, true, true, true, true] rfl rfl (any_of HT_.out (by kernel_rfl)) (fun _ _ _ h => h) (Or.inl ⟨by rfl, ?_⟩) ?_ ?_
                    rotate_left
                    · intro w'
                      go_simp
                      with_reducible rfl
                    rotate_left
                    · simp only [Act.put, List.setIfInBounds_toArray, List.set_cons_zero, List.set_cons_succ, i64_w, i32_w]
                      rfl
                    refine done_ (done_of HT_.out (by kernel_rfl)) ?_
                    try go_wp2
                    go_meet
                    case rel => exact ⟨_, ((!(t135 == t137) || (!(t136 == t138)))), (by first | rfl | (simp; done) | (simp [*]; done)), H', ⟨by have := HJ10.out; first | omega | exact Nat.le_refl _⟩, ⟨by (with_reducible repeat (first | refine blk_drewN ?_ _ | refine blk_drew ?_ | refine blk_alloc ?_ _)); exact BK101.out⟩, ⟨by (with_reducible repeat (first | refine blk_drewN ?_ _ | refine blk_drew ?_ | refine blk_alloc ?_ _)); exact BK102.out⟩, ⟨by (with_reducible repeat (first | refine blk_drewN ?_ _ | refine blk_drew ?_ | refine blk_alloc ?_ _)); exact BK106.out⟩, ⟨by (with_reducible repeat (first | refine blk_drewN ?_ _ | refine blk_drew ?_ | refine blk_alloc ?_ _)); exact BK110.out⟩, ⟨by (with_reducible repeat (first | refine blk_drewN ?_ _ | refine blk_drew ?_ | refine blk_alloc ?_ _)); exact BK114.out⟩, ⟨by (with_reducible repeat (first | refine blk_drewN ?_ _ | refine blk_drew ?_ | refine blk_alloc ?_ _)); exact BK118.out⟩, ⟨by repeat (first | (with_reducible first | exact HB.out | apply below_alloc | apply pw_below_drewN | apply below_drew1 | refine below_set ?_ GE101.out | refine below_set ?_ GE102.out | refine below_set ?_ GE106.out | refine below_set ?_ GE110.out | refine below_set ?_ GE114.out | refine below_set ?_ GE118.out) | exact HB.out)⟩⟩
                · rw [if_neg c81] at H
                  have c81b0 : (t127 == t130) = false := beq_eq_false_iff_ne.mpr c81
                  have c81b1 : (t127 != t130) = true := bne_iff_ne.mpr c81
                  cases kj10 with
                  | zero => exact absurd H (by simp [inquestlaw06_TernTells.j1])
                  | succ kz_ => exact absurd ((Option.some.inj (show some false = some r from H)).trans hrt.out) (by simp)
          · rw [if_neg c78] at H
            have c78b0 : (t121 == t123) = false := beq_eq_false_iff_ne.mpr c78
            have c78b1 : (t121 != t123) = true := bne_iff_ne.mpr c78
            (first | rw [c78b0] | (simp only [i64_w, i32_w]; rw [c78b0]) | skip)
            cases kj10 with
            | zero => exact absurd H (by simp [inquestlaw06_TernTells.j1])
            | succ kz_ => exact absurd ((Option.some.inj (show some false = some r from H)).trans hrt.out) (by simp)
        case rest =>
          clear HC55
          try clear c1
          try clear c2
          try clear p2
          try clear c5
          try clear c6
          try clear c7
          try clear c8
          try clear c14
          try clear c15
          try clear c16
          try clear c22
          try clear c23
          try clear c24
          try clear c25
          try clear c26
          try clear c50
          try clear c56
          try clear c57
          try clear c58
          try clear c59
          try clear c60
          try clear c67
          try clear c68
          try clear c69
          try clear c70
          try clear c74
          try clear c75
          try clear c76
          try clear c78
          try clear c78b0
          try clear c78b1
          try clear c79
          try clear c79b0
          try clear c79b1
          try clear c79b2
          try clear c80
          try clear c80b0
          try clear c81
          try clear c81b0
          try clear c81b1
          try clear c84
          try clear c84b0
          try clear hcz31_1
          try clear hcz39_0
          try clear hcz39_1
          try clear hcz61_0
          try clear hcz61_1
          try clear hcz63_0
          try clear hcz63_1
          try clear hcz65_0
          try clear hcz65_1
          try clear hcz71_0
          try clear hcz71_1
          try clear hcz72_0
          try clear hcz72_1
          try clear hcz77_0
          try clear hcz77_1
          try clear hfz18_0
          try clear hfz18_1
          try clear hfz24_0
          try clear hfz24_1
          try clear hfz31_0
          try clear hfz31_1
          try clear hfz39_0
          try clear hfz39_1
          try clear hfz61_0
          try clear hfz61_1
          try clear hfz63_0
          try clear hfz63_1
          try clear hfz65_0
          try clear hfz65_1
          try clear hfz71_0
          try clear hfz71_1
          try clear hfz72_0
          try clear hfz72_1
          try clear hfz77_0
          try clear hfz77_1
          obtain ⟨kq, x129_54, rfl, HA, HJ54, BK101, BK102, BK106, BK110, BK114, BK118, HB⟩ := hcut
          cases kq with
          | zero => exact absurd HA.out (by simp [inquestlaw06_TernTells.j1])
          | succ kj54 =>
            have H := HA.out
            clear HA
            simp only [inquestlaw06_TernTells.j1] at H
            by_cases c93 : x129_54 = true
            · subst c93
              have H1 : (some false) = some r := by rw [if_pos rfl] at H; exact H
              clear H
              have H := H1
              clear H1
              exact absurd ((Option.some.inj H).trans hrt.out) (by simp)
            · replace c93 := Bool.eq_false_iff.mpr c93
              subst c93
              have H1 : ((tern_Within.f a0_0 a0_1 a1_0 a1_1).bind fun t139 => ((inquestref06_Within.f kj54 a0_0 a0_1 a1_0 a1_1).bind fun t140 => (if t139 = t140 then ((tern_Not1.f a4).bind fun t141 => ((inquestref06_Not1.f a4).bind fun t142 => (if t141 = t142 then ((tern_And1.f kj54 a4 a5).bind fun t143 => ((inquestref06_And1.f kj54 a4 a5).bind fun t144 => (if t143 = t144 then ((inquestlaw06_lives.f).bind fun t145 => (some t145)) else (some false)))) else (some false)))) else (some false)))) = some r := by rw [if_neg (show ¬ (false = true) by decide)] at H; exact H
              clear H
              have H := H1
              clear H1
              replace H := Option.bind_eq_some_iff.mp H
              obtain ⟨t139, A940, H⟩ := H
              replace H : ((inquestref06_Within.f kj54 a0_0 a0_1 a1_0 a1_1).bind fun t140 => (if t139 = t140 then ((tern_Not1.f a4).bind fun t141 => ((inquestref06_Not1.f a4).bind fun t142 => (if t141 = t142 then ((tern_And1.f kj54 a4 a5).bind fun t143 => ((inquestref06_And1.f kj54 a4 a5).bind fun t144 => (if t143 = t144 then ((inquestlaw06_lives.f).bind fun t145 => (some t145)) else (some false)))) else (some false)))) else (some false))) = some r := H
              have A94 := Aside0.mk A940
              clear A940
              replace H := Option.bind_eq_some_iff.mp H
              obtain ⟨t140, A950, H⟩ := H
              replace H : (if t139 = t140 then ((tern_Not1.f a4).bind fun t141 => ((inquestref06_Not1.f a4).bind fun t142 => (if t141 = t142 then ((tern_And1.f kj54 a4 a5).bind fun t143 => ((inquestref06_And1.f kj54 a4 a5).bind fun t144 => (if t143 = t144 then ((inquestlaw06_lives.f).bind fun t145 => (some t145)) else (some false)))) else (some false)))) else (some false)) = some r := H
              have A95 := Aside0.mk A950
              clear A950
              by_cases c96 : t139 = t140
              · rw [if_pos c96] at H
                have c96b0 : (t139 == t140) = true := beq_iff_eq.mpr c96
                have c96b1 : (t139 != t140) = false := bne_eq_false_iff_eq.mpr c96
                clear c96
                replace H := Option.bind_eq_some_iff.mp H
                obtain ⟨t141, A970, H⟩ := H
                replace H : ((inquestref06_Not1.f a4).bind fun t142 => (if t141 = t142 then ((tern_And1.f kj54 a4 a5).bind fun t143 => ((inquestref06_And1.f kj54 a4 a5).bind fun t144 => (if t143 = t144 then ((inquestlaw06_lives.f).bind fun t145 => (some t145)) else (some false)))) else (some false))) = some r := H
                have A97 := Aside0.mk A970
                clear A970
                replace H := Option.bind_eq_some_iff.mp H
                obtain ⟨t142, A980, H⟩ := H
                replace H : (if t141 = t142 then ((tern_And1.f kj54 a4 a5).bind fun t143 => ((inquestref06_And1.f kj54 a4 a5).bind fun t144 => (if t143 = t144 then ((inquestlaw06_lives.f).bind fun t145 => (some t145)) else (some false)))) else (some false)) = some r := H
                have A98 := Aside0.mk A980
                clear A980
                by_cases c99 : t141 = t142
                · rw [if_pos c99] at H
                  have c99b0 : (t141 == t142) = true := beq_iff_eq.mpr c99
                  have c99b1 : (t141 != t142) = false := bne_eq_false_iff_eq.mpr c99
                  clear c99
                  replace H := Option.bind_eq_some_iff.mp H
                  obtain ⟨t143, A1000, H⟩ := H
                  replace H : ((inquestref06_And1.f kj54 a4 a5).bind fun t144 => (if t143 = t144 then ((inquestlaw06_lives.f).bind fun t145 => (some t145)) else (some false))) = some r := H
                  have A100 := Aside0.mk A1000
                  clear A1000
                  replace H := Option.bind_eq_some_iff.mp H
                  obtain ⟨t144, A1010, H⟩ := H
                  replace H : (if t143 = t144 then ((inquestlaw06_lives.f).bind fun t145 => (some t145)) else (some false)) = some r := H
                  have A101 := Aside0.mk A1010
                  clear A1010
                  by_cases c102 : t143 = t144
                  · rw [if_pos c102] at H
                    have c102b0 : (t143 == t144) = true := beq_iff_eq.mpr c102
                    have c102b1 : (t143 != t144) = false := bne_eq_false_iff_eq.mpr c102
                    clear c102
                    replace H := Option.bind_eq_some_iff.mp H
                    obtain ⟨t145, A1030, H⟩ := H
                    replace H : (some t145) = some r := H
                    have A103 := Aside0.mk A1030
                    clear A1030
                    obtain rfl := Option.some.inj H
                    try go_wp2
                    have n0_ := Aside0.mk (blk_drew BK101.out)
                    have n1_ := Aside0.mk (blk_drew BK102.out)
                    have n2_ := Aside0.mk (blk_drew BK106.out)
                    have n3_ := Aside0.mk (blk_drew BK110.out)
                    have n4_ := Aside0.mk (blk_drew BK114.out)
                    have n5_ := Aside0.mk (blk_drew BK118.out)
                    have n6_ := Aside0.mk (below_drew1 HB.out)
                    clear BK101
                    clear BK102
                    clear BK106
                    clear BK110
                    clear BK114
                    clear BK118
                    clear HB
                    have BK101 := n0_
                    have BK102 := n1_
                    have BK106 := n2_
                    have BK110 := n3_
                    have BK114 := n4_
                    have BK118 := n5_
                    have HB := n6_
                    clear n0_ n1_ n2_ n3_ n4_ n5_ n6_
                    refine start_ (n := 27) (S := fun w' => w'.cell? ⟨gb101, 0, none⟩ = some (.int .u64 a0_0) ∧ w'.cell? ⟨gb101, 1, none⟩ = some (.int .u64 a0_1) ∧ w'.cell? ⟨gb102, 0, none⟩ = some (.int .u64 a1_0) ∧ w'.cell? ⟨gb102, 1, none⟩ = some (.int .u64 a1_1)) (ds := []) #[false, false, false, false, false, false, false, false, false, false, false, false, false, false, false, false, false, false, false, false, false, false, false, false, false, false, false] (by kernel_rfl) rfl rfl ⟨(blk_cell BK101.out 0).trans rfl, (blk_cell BK101.out 1).trans rfl, (blk_cell BK102.out 0).trans rfl, (blk_cell BK102.out 1).trans rfl⟩ (fun hHeld => ?_); refine with_tabW inquestlaw06_TernTells.tab13 inquestlaw06_TernTells.bits13 (fun HT_ HW_ => ?_)
                    generalize wc.drew = w104 at BK101 BK102 BK106 BK110 BK114 BK118 HB hHeld ⊢
                    refine take_ (i := 0) (N := some 130) (v := ?_) (a' := ?_) #[true, false, false, false, false, false, false, false, false, false, false, false, false, false, false, false, false, false, false, false, false, false, false, false, false, false, false] rfl rfl (take_ofW HT_.out HW_.out (by kernel_rfl)) (fun _ _ _ h => h) (Or.inl ⟨by rfl, ?_⟩) hHeld ?_ ?_
                    rotate_left
                    · rintro w' ⟨s0, s1, s2, s3⟩
                      go_simp
                      with_reducible rfl
                    rotate_left
                    · simp only [Act.put, List.setIfInBounds_toArray, List.set_cons_zero, List.set_cons_succ, i64_w, i32_w]
                      rfl
                    refine take_ (i := 1) (N := some 131) (v := ?_) (a' := ?_) #[true, true, false, false, false, false, false, false, false, false, false, false, false, false, false, false, false, false, false, false, false, false, false, false, false, false, false] rfl rfl (take_ofW HT_.out HW_.out (by kernel_rfl)) (fun _ _ _ h => h) (Or.inl ⟨by rfl, ?_⟩) hHeld ?_ ?_
                    rotate_left
                    · rintro w' ⟨s0, s1, s2, s3⟩
                      go_simp
                      with_reducible rfl
                    rotate_left
                    · simp only [Act.put, List.setIfInBounds_toArray, List.set_cons_zero, List.set_cons_succ, i64_w, i32_w]
                      rfl
                    refine take_ (i := 3) (N := some 133) (v := ?_) (a' := ?_) #[true, true, false, true, false, false, false, false, false, false, false, false, false, false, false, false, false, false, false, false, false, false, false, false, false, false, false] rfl rfl (take_ofW HT_.out HW_.out (by kernel_rfl)) (fun _ _ _ h => h) (Or.inl ⟨by rfl, ?_⟩) hHeld ?_ ?_
                    rotate_left
                    · rintro w' ⟨s0, s1, s2, s3⟩
                      go_simp
                      with_reducible rfl
                    rotate_left
                    · simp only [Act.put, List.setIfInBounds_toArray, List.set_cons_zero, List.set_cons_succ, i64_w, i32_w]
                      rfl
                    refine take_ (i := 4) (N := some 134) (v := ?_) (a' := ?_) #[true, true, false, true, true, false, false, false, false, false, false, false, false, false, false, false, false, false, false, false, false, false, false, false, false, false, false] rfl rfl (take_ofW HT_.out HW_.out (by kernel_rfl)) (fun _ _ _ h => h) (Or.inl ⟨by rfl, ?_⟩) hHeld ?_ ?_
                    rotate_left
                    · rintro w' ⟨s0, s1, s2, s3⟩
                      go_simp
                      with_reducible rfl
                    rotate_left
                    · simp only [Act.put, List.setIfInBounds_toArray, List.set_cons_zero, List.set_cons_succ, i64_w, i32_w]
                      rfl
                    refine one_ (i := 2) (N := some 132) #[true, true, true, true, true, false, false, false, false, false, false, false, false, false, false, false, false, false, false, false, false, false, false, false, false, false, false] rfl rfl (one_of HT_.out (by kernel_rfl)) (by decide) (fun K hK => ?_)
                    refine goes_ Try.func13 (by kernel_rfl) rfl #[.agg #[.int .u64 a0_0, .int .u64 a0_1], .agg #[.int .u64 a1_0, .int .u64 a1_1]] (by rfl) rfl rfl (by (try simp only [List.map_toArray, List.map_cons, List.map_nil]); first | done | rfl | (simp only [List.length_drop, List.length_take]; rfl)) ?_
                    with_reducible refine (tern_Within.calls a0_0 a0_1 a1_0 a1_1 t139 _ A94.out).mono ?_
                    rintro e w105 ⟨rfl, hb⟩
                    refine ⟨_, rfl, ?_⟩
                    have n0_ := Aside0.mk (blk_below (g := gb101) (o := .cells #[.int .u64 a0_0, .int .u64 a0_1] 24 (0, 0)) (by (with_reducible repeat (first | refine blk_drewN ?_ _ | refine blk_drew ?_ | refine blk_alloc ?_ _)); exact BK101.out) hb)
                    have n1_ := Aside0.mk (blk_below (g := gb102) (o := .cells #[.int .u64 a1_0, .int .u64 a1_1] 24 (0, 0)) (by (with_reducible repeat (first | refine blk_drewN ?_ _ | refine blk_drew ?_ | refine blk_alloc ?_ _)); exact BK102.out) hb)
                    have n2_ := Aside0.mk (blk_below (g := gb106) (o := .cells #[.int .u64 t125, .int .u64 t126] 24 (0, 0)) (by (with_reducible repeat (first | refine blk_drewN ?_ _ | refine blk_drew ?_ | refine blk_alloc ?_ _)); exact BK106.out) hb)
                    have n3_ := Aside0.mk (blk_below (g := gb110) (o := .cells #[.int .u64 t128, .int .u64 t129] 24 (0, 0)) (by (with_reducible repeat (first | refine blk_drewN ?_ _ | refine blk_drew ?_ | refine blk_alloc ?_ _)); exact BK110.out) hb)
                    have n4_ := Aside0.mk (blk_below (g := gb114) (o := .cells #[.int .u64 t111, .int .u64 t112] 24 (0, 0)) (by (with_reducible repeat (first | refine blk_drewN ?_ _ | refine blk_drew ?_ | refine blk_alloc ?_ _)); exact BK114.out) hb)
                    have n5_ := Aside0.mk (blk_below (g := gb118) (o := .cells #[.int .u64 t115, .int .u64 t116] 24 (0, 0)) (by (with_reducible repeat (first | refine blk_drewN ?_ _ | refine blk_drew ?_ | refine blk_alloc ?_ _)); exact BK118.out) hb)
                    have n6_ := Aside0.mk (below_step (by repeat (first | (with_reducible first | exact HB.out | apply below_alloc | apply pw_below_drewN | apply below_drew1 | refine below_set ?_ GE101.out | refine below_set ?_ GE102.out | refine below_set ?_ GE106.out | refine below_set ?_ GE110.out | refine below_set ?_ GE114.out | refine below_set ?_ GE118.out) | exact HB.out)) hb)
                    clear BK101
                    clear BK102
                    clear BK106
                    clear BK110
                    clear BK114
                    clear BK118
                    clear HB
                    have BK101 := n0_
                    have BK102 := n1_
                    have BK106 := n2_
                    have BK110 := n3_
                    have BK114 := n4_
                    have BK118 := n5_
                    have HB := n6_
                    clear n0_ n1_ n2_ n3_ n4_ n5_ n6_
                    (try clear hb)
                    (try clear hb2)
                    (try clear hk)
                    (try clear hi)
                    refine hK.out _ _ ⟨(blk_cell BK101.out 0).trans rfl, (blk_cell BK101.out 1).trans rfl, (blk_cell BK102.out 0).trans rfl, (blk_cell BK102.out 1).trans rfl⟩ (fun hHeld => ?_)
                    clear hK K
                    refine norm_ (a' := ?_) ?_ ?_
                    rotate_left
                    · show Act.put _ (some 132) _ = _
                      simp only [Act.put, List.setIfInBounds_toArray, List.set_cons_zero, List.set_cons_succ, i64_w, i32_w]
                      rfl
                    refine one_ (i := 5) (N := some 135) #[true, true, true, true, true, true, false, false, false, false, false, false, false, false, false, false, false, false, false, false, false, false, false, false, false, false, false] rfl rfl (one_of HT_.out (by kernel_rfl)) (by decide) (fun K hK => ?_)
                    refine goes_ Try.func27 (by kernel_rfl) rfl #[.agg #[.int .u64 a0_0, .int .u64 a0_1], .agg #[.int .u64 a1_0, .int .u64 a1_1]] (by rfl) rfl rfl (by (try simp only [List.map_toArray, List.map_cons, List.map_nil]); first | done | rfl | (simp only [List.length_drop, List.length_take]; rfl)) ?_
                    with_reducible refine (inquestref06_Within.calls kj54 a0_0 a0_1 a1_0 a1_1 t140 _ A95.out).mono ?_
                    rintro e w106 ⟨rfl, hb⟩
                    refine ⟨_, rfl, ?_⟩
                    have n0_ := Aside0.mk (blk_below (g := gb101) (o := .cells #[.int .u64 a0_0, .int .u64 a0_1] 24 (0, 0)) (by (with_reducible repeat (first | refine blk_drewN ?_ _ | refine blk_drew ?_ | refine blk_alloc ?_ _)); exact BK101.out) hb)
                    have n1_ := Aside0.mk (blk_below (g := gb102) (o := .cells #[.int .u64 a1_0, .int .u64 a1_1] 24 (0, 0)) (by (with_reducible repeat (first | refine blk_drewN ?_ _ | refine blk_drew ?_ | refine blk_alloc ?_ _)); exact BK102.out) hb)
                    have n2_ := Aside0.mk (blk_below (g := gb106) (o := .cells #[.int .u64 t125, .int .u64 t126] 24 (0, 0)) (by (with_reducible repeat (first | refine blk_drewN ?_ _ | refine blk_drew ?_ | refine blk_alloc ?_ _)); exact BK106.out) hb)
                    have n3_ := Aside0.mk (blk_below (g := gb110) (o := .cells #[.int .u64 t128, .int .u64 t129] 24 (0, 0)) (by (with_reducible repeat (first | refine blk_drewN ?_ _ | refine blk_drew ?_ | refine blk_alloc ?_ _)); exact BK110.out) hb)
                    have n4_ := Aside0.mk (blk_below (g := gb114) (o := .cells #[.int .u64 t111, .int .u64 t112] 24 (0, 0)) (by (with_reducible repeat (first | refine blk_drewN ?_ _ | refine blk_drew ?_ | refine blk_alloc ?_ _)); exact BK114.out) hb)
                    have n5_ := Aside0.mk (blk_below (g := gb118) (o := .cells #[.int .u64 t115, .int .u64 t116] 24 (0, 0)) (by (with_reducible repeat (first | refine blk_drewN ?_ _ | refine blk_drew ?_ | refine blk_alloc ?_ _)); exact BK118.out) hb)
                    have n6_ := Aside0.mk (below_step (by repeat (first | (with_reducible first | exact HB.out | apply below_alloc | apply pw_below_drewN | apply below_drew1 | refine below_set ?_ GE101.out | refine below_set ?_ GE102.out | refine below_set ?_ GE106.out | refine below_set ?_ GE110.out | refine below_set ?_ GE114.out | refine below_set ?_ GE118.out) | exact HB.out)) hb)
                    clear BK101
                    clear BK102
                    clear BK106
                    clear BK110
                    clear BK114
                    clear BK118
                    clear HB
                    have BK101 := n0_
                    have BK102 := n1_
                    have BK106 := n2_
                    have BK110 := n3_
                    have BK114 := n4_
                    have BK118 := n5_
                    have HB := n6_
                    clear n0_ n1_ n2_ n3_ n4_ n5_ n6_
                    (try clear hb)
                    (try clear hb2)
                    (try clear hk)
                    (try clear hi)
                    refine hK.out _ _ ⟨(blk_cell BK101.out 0).trans rfl, (blk_cell BK101.out 1).trans rfl, (blk_cell BK102.out 0).trans rfl, (blk_cell BK102.out 1).trans rfl⟩ (fun hHeld => ?_)
                    clear hK K
                    refine norm_ (a' := ?_) ?_ ?_
                    rotate_left
                    · show Act.put _ (some 135) _ = _
                      simp only [Act.put, List.setIfInBounds_toArray, List.set_cons_zero, List.set_cons_succ, i64_w, i32_w]
                      rfl
                    refine pure_ (i := 6) (N := some 136) (v := ?_) (a' := ?_) #[true, true, true, true, true, true, true, false, false, false, false, false, false, false, false, false, false, false, false, false, false, false, false, false, false, false, false] rfl rfl (any_of HT_.out (by kernel_rfl)) (fun _ _ _ h => h) (Or.inl ⟨by rfl, ?_⟩) ?_ ?_
                    rotate_left
                    · intro w'
                      go_simp
                      with_reducible rfl
                    rotate_left
                    · simp only [Act.put, List.setIfInBounds_toArray, List.set_cons_zero, List.set_cons_succ, i64_w, i32_w]
                      rfl
                    refine pure_ (i := 7) (N := some 137) (v := ?_) (a' := ?_) #[true, true, true, true, true, true, true, true, false, false, false, false, false, false, false, false, false, false, false, false, false, false, false, false, false, false, false] rfl rfl (any_of HT_.out (by kernel_rfl)) (fun _ _ _ h => h) (Or.inl ⟨by rfl, ?_⟩) ?_ ?_
                    rotate_left
                    · intro w'
                      go_simp
                      with_reducible rfl
                    rotate_left
                    · simp only [Act.put, List.setIfInBounds_toArray, List.set_cons_zero, List.set_cons_succ, i64_w, i32_w]
                      rfl
                    refine pure_ (i := 8) (N := some 138) (v := ?_) (a' := ?_) #[true, true, true, true, true, true, true, true, true, false, false, false, false, false, false, false, false, false, false, false, false, false, false, false, false, false, false] rfl rfl (any_of HT_.out (by kernel_rfl)) (fun _ _ _ h => h) (Or.inl ⟨by rfl, ?_⟩) ?_ ?_
                    rotate_left
                    · intro w'
                      go_simp
                      with_reducible rfl
                    rotate_left
                    · simp only [Act.put, List.setIfInBounds_toArray, List.set_cons_zero, List.set_cons_succ, i64_w, i32_w]
                      rfl
                    refine pure_ (i := 10) (N := some 140) (v := ?_) (a' := ?_) #[true, true, true, true, true, true, true, true, true, false, true, false, false, false, false, false, false, false, false, false, false, false, false, false, false, false, false] rfl rfl (any_of HT_.out (by kernel_rfl)) (fun _ _ _ h => h) (Or.inl ⟨by rfl, ?_⟩) ?_ ?_
                    rotate_left
                    · intro w'
                      go_simp
                      with_reducible rfl
                    rotate_left
                    · simp only [Act.put, List.setIfInBounds_toArray, List.set_cons_zero, List.set_cons_succ, i64_w, i32_w]
                      rfl
                    refine one_ (i := 9) (N := some 139) #[true, true, true, true, true, true, true, true, true, true, true, false, false, false, false, false, false, false, false, false, false, false, false, false, false, false, false] rfl rfl (one_of HT_.out (by kernel_rfl)) (by decide) (fun K hK => ?_)
                    refine goes_ Try.func28 (by kernel_rfl) rfl #[.int .u8 a4] (by rfl) rfl rfl (by (try simp only [List.map_toArray, List.map_cons, List.map_nil]); first | done | rfl | (simp only [List.length_drop, List.length_take]; rfl)) ?_
                    with_reducible refine (tern_Not1.calls a4 t141 _ A97.out).mono ?_
                    rintro e w' ⟨rfl, ⟨nd, rfl⟩⟩
                    refine ⟨_, rfl, ?_⟩
                    refine hK.out _ _ ⟨(blk_cell BK101.out 0).trans rfl, (blk_cell BK101.out 1).trans rfl, (blk_cell BK102.out 0).trans rfl, (blk_cell BK102.out 1).trans rfl⟩ (fun hHeld => ?_)
                    clear hK K
                    refine norm_ (a' := ?_) ?_ ?_
                    rotate_left
                    · show Act.put _ (some 139) _ = _
                      simp only [Act.put, List.setIfInBounds_toArray, List.set_cons_zero, List.set_cons_succ, i64_w, i32_w]
                      rfl
                    refine one_ (i := 11) (N := some 141) #[true, true, true, true, true, true, true, true, true, true, true, true, false, false, false, false, false, false, false, false, false, false, false, false, false, false, false] rfl rfl (one_of HT_.out (by kernel_rfl)) (by decide) (fun K hK => ?_)
                    refine goes_ Try.func29 (by kernel_rfl) rfl #[.int .u8 a4] (by rfl) rfl rfl (by (try simp only [List.map_toArray, List.map_cons, List.map_nil]); first | done | rfl | (simp only [List.length_drop, List.length_take]; rfl)) ?_
                    with_reducible refine (inquestref06_Not1.calls a4 t142 _ A98.out).mono ?_
                    rintro e w' ⟨rfl, ⟨nd, rfl⟩⟩
                    refine ⟨_, rfl, ?_⟩
                    refine hK.out _ _ ⟨(blk_cell BK101.out 0).trans rfl, (blk_cell BK101.out 1).trans rfl, (blk_cell BK102.out 0).trans rfl, (blk_cell BK102.out 1).trans rfl⟩ (fun hHeld => ?_)
                    clear hK K
                    refine norm_ (a' := ?_) ?_ ?_
                    rotate_left
                    · show Act.put _ (some 141) _ = _
                      simp only [Act.put, List.setIfInBounds_toArray, List.set_cons_zero, List.set_cons_succ, i64_w, i32_w]
                      rfl
                    refine pure_ (i := 12) (N := some 142) (v := ?_) (a' := ?_) #[true, true, true, true, true, true, true, true, true, true, true, true, true, false, false, false, false, false, false, false, false, false, false, false, false, false, false] rfl rfl (any_of HT_.out (by kernel_rfl)) (fun _ _ _ h => h) (Or.inl ⟨by rfl, ?_⟩) ?_ ?_
                    rotate_left
                    · intro w'
                      go_simp
                      with_reducible rfl
                    rotate_left
                    · simp only [Act.put, List.setIfInBounds_toArray, List.set_cons_zero, List.set_cons_succ, i64_w, i32_w]
                      rfl
                    refine pure_ (i := 13) (N := some 143) (v := ?_) (a' := ?_) #[true, true, true, true, true, true, true, true, true, true, true, true, true, true, false, false, false, false, false, false, false, false, false, false, false, false, false] rfl rfl (any_of HT_.out (by kernel_rfl)) (fun _ _ _ h => h) (Or.inl ⟨by rfl, ?_⟩) ?_ ?_
                    rotate_left
                    · intro w'
                      go_simp
                      with_reducible rfl
                    rotate_left
                    · simp only [Act.put, List.setIfInBounds_toArray, List.set_cons_zero, List.set_cons_succ, i64_w, i32_w]
                      rfl
                    refine pure_ (i := 14) (N := some 144) (v := ?_) (a' := ?_) #[true, true, true, true, true, true, true, true, true, true, true, true, true, true, true, false, false, false, false, false, false, false, false, false, false, false, false] rfl rfl (any_of HT_.out (by kernel_rfl)) (fun _ _ _ h => h) (Or.inl ⟨by rfl, ?_⟩) ?_ ?_
                    rotate_left
                    · intro w'
                      go_simp
                      with_reducible rfl
                    rotate_left
                    · simp only [Act.put, List.setIfInBounds_toArray, List.set_cons_zero, List.set_cons_succ, i64_w, i32_w]
                      rfl
                    refine pure_ (i := 15) (N := some 145) (v := ?_) (a' := ?_) #[true, true, true, true, true, true, true, true, true, true, true, true, true, true, true, true, false, false, false, false, false, false, false, false, false, false, false] rfl rfl (any_of HT_.out (by kernel_rfl)) (fun _ _ _ h => h) (Or.inl ⟨by rfl, ?_⟩) ?_ ?_
                    rotate_left
                    · intro w'
                      go_simp
                      with_reducible rfl
                    rotate_left
                    · simp only [Act.put, List.setIfInBounds_toArray, List.set_cons_zero, List.set_cons_succ, i64_w, i32_w]
                      rfl
                    refine pure_ (i := 16) (N := some 146) (v := ?_) (a' := ?_) #[true, true, true, true, true, true, true, true, true, true, true, true, true, true, true, true, true, false, false, false, false, false, false, false, false, false, false] rfl rfl (any_of HT_.out (by kernel_rfl)) (fun _ _ _ h => h) (Or.inl ⟨by rfl, ?_⟩) ?_ ?_
                    rotate_left
                    · intro w'
                      go_simp
                      with_reducible rfl
                    rotate_left
                    · simp only [Act.put, List.setIfInBounds_toArray, List.set_cons_zero, List.set_cons_succ, i64_w, i32_w]
                      rfl
                    refine pure_ (i := 18) (N := some 148) (v := ?_) (a' := ?_) #[true, true, true, true, true, true, true, true, true, true, true, true, true, true, true, true, true, false, true, false, false, false, false, false, false, false, false] rfl rfl (any_of HT_.out (by kernel_rfl)) (fun _ _ _ h => h) (Or.inl ⟨by rfl, ?_⟩) ?_ ?_
                    rotate_left
                    · intro w'
                      go_simp
                      with_reducible rfl
                    rotate_left
                    · simp only [Act.put, List.setIfInBounds_toArray, List.set_cons_zero, List.set_cons_succ, i64_w, i32_w]
                      rfl
                    refine pure_ (i := 19) (N := some 149) (v := ?_) (a' := ?_) #[true, true, true, true, true, true, true, true, true, true, true, true, true, true, true, true, true, false, true, true, false, false, false, false, false, false, false] rfl rfl (any_of HT_.out (by kernel_rfl)) (fun _ _ _ h => h) (Or.inl ⟨by rfl, ?_⟩) ?_ ?_
                    rotate_left
                    · intro w'
                      go_simp
                      with_reducible rfl
                    rotate_left
                    · simp only [Act.put, List.setIfInBounds_toArray, List.set_cons_zero, List.set_cons_succ, i64_w, i32_w]
                      rfl
                    refine one_ (i := 17) (N := some 147) #[true, true, true, true, true, true, true, true, true, true, true, true, true, true, true, true, true, true, true, true, false, false, false, false, false, false, false] rfl rfl (one_of HT_.out (by kernel_rfl)) (by decide) (fun K hK => ?_)
                    refine goes_ Try.func30 (by kernel_rfl) rfl #[.int .u8 a4, .int .u8 a5] (by rfl) rfl rfl (by (try simp only [List.map_toArray, List.map_cons, List.map_nil]); first | done | rfl | (simp only [List.length_drop, List.length_take]; rfl)) ?_
                    with_reducible refine (tern_And1.calls kj54 a4 a5 t143 _ A100.out).mono ?_
                    rintro e w' ⟨rfl, ⟨nd, rfl⟩⟩
                    refine ⟨_, rfl, ?_⟩
                    refine hK.out _ _ ⟨(blk_cell BK101.out 0).trans rfl, (blk_cell BK101.out 1).trans rfl, (blk_cell BK102.out 0).trans rfl, (blk_cell BK102.out 1).trans rfl⟩ (fun hHeld => ?_)
                    clear hK K
                    refine norm_ (a' := ?_) ?_ ?_
                    rotate_left
                    · show Act.put _ (some 147) _ = _
                      simp only [Act.put, List.setIfInBounds_toArray, List.set_cons_zero, List.set_cons_succ, i64_w, i32_w]
                      rfl
                    refine one_ (i := 20) (N := some 150) #[true, true, true, true, true, true, true, true, true, true, true, true, true, true, true, true, true, true, true, true, true, false, false, false, false, false, false] rfl rfl (one_of HT_.out (by kernel_rfl)) (by decide) (fun K hK => ?_)
                    refine goes_ Try.func31 (by kernel_rfl) rfl #[.int .u8 a4, .int .u8 a5] (by rfl) rfl rfl (by (try simp only [List.map_toArray, List.map_cons, List.map_nil]); first | done | rfl | (simp only [List.length_drop, List.length_take]; rfl)) ?_
                    with_reducible refine (inquestref06_And1.calls kj54 a4 a5 t144 _ A101.out).mono ?_
                    rintro e w' ⟨rfl, ⟨nd, rfl⟩⟩
                    refine ⟨_, rfl, ?_⟩
                    refine hK.out _ _ ⟨(blk_cell BK101.out 0).trans rfl, (blk_cell BK101.out 1).trans rfl, (blk_cell BK102.out 0).trans rfl, (blk_cell BK102.out 1).trans rfl⟩ (fun hHeld => ?_)
                    clear hK K
                    refine norm_ (a' := ?_) ?_ ?_
                    rotate_left
                    · show Act.put _ (some 150) _ = _
                      simp only [Act.put, List.setIfInBounds_toArray, List.set_cons_zero, List.set_cons_succ, i64_w, i32_w]
                      rfl
                    refine pure_ (i := 21) (N := some 151) (v := ?_) (a' := ?_) #[true, true, true, true, true, true, true, true, true, true, true, true, true, true, true, true, true, true, true, true, true, true, false, false, false, false, false] rfl rfl (any_of HT_.out (by kernel_rfl)) (fun _ _ _ h => h) (Or.inl ⟨by rfl, ?_⟩) ?_ ?_
                    rotate_left
                    · intro w'
                      go_simp
                      with_reducible rfl
                    rotate_left
                    · simp only [Act.put, List.setIfInBounds_toArray, List.set_cons_zero, List.set_cons_succ, i64_w, i32_w]
                      rfl
                    refine pure_ (i := 22) (N := some 152) (v := ?_) (a' := ?_) #[true, true, true, true, true, true, true, true, true, true, true, true, true, true, true, true, true, true, true, true, true, true, true, false, false, false, false] rfl rfl (any_of HT_.out (by kernel_rfl)) (fun _ _ _ h => h) (Or.inl ⟨by rfl, ?_⟩) ?_ ?_
                    rotate_left
                    · intro w'
                      go_simp
                      with_reducible rfl
                    rotate_left
                    · simp only [Act.put, List.setIfInBounds_toArray, List.set_cons_zero, List.set_cons_succ, i64_w, i32_w]
                      rfl
                    refine pure_ (i := 23) (N := some 153) (v := ?_) (a' := ?_) #[true, true, true, true, true, true, true, true, true, true, true, true, true, true, true, true, true, true, true, true, true, true, true, true, false, false, false] rfl rfl (any_of HT_.out (by kernel_rfl)) (fun _ _ _ h => h) (Or.inl ⟨by rfl, ?_⟩) ?_ ?_
                    rotate_left
                    · intro w'
                      go_simp
                      with_reducible rfl
                    rotate_left
                    · simp only [Act.put, List.setIfInBounds_toArray, List.set_cons_zero, List.set_cons_succ, i64_w, i32_w]
                      rfl
                    refine one_ (i := 24) (N := some 154) #[true, true, true, true, true, true, true, true, true, true, true, true, true, true, true, true, true, true, true, true, true, true, true, true, true, false, false] rfl rfl (one_of HT_.out (by kernel_rfl)) (by decide) (fun K hK => ?_)
                    refine goes_ Try.func12 (by kernel_rfl) rfl #[] (by rfl) rfl rfl (by (try simp only [List.map_toArray, List.map_cons, List.map_nil]); first | done | rfl | (simp only [List.length_drop, List.length_take]; rfl)) ?_
                    with_reducible refine (inquestlaw06_lives.calls  t145 _ A103.out).mono ?_
                    rintro e w107 ⟨rfl, hb⟩
                    refine ⟨_, rfl, ?_⟩
                    have n0_ := Aside0.mk (blk_below (g := gb101) (o := .cells #[.int .u64 a0_0, .int .u64 a0_1] 24 (0, 0)) (by (with_reducible repeat (first | refine blk_drewN ?_ _ | refine blk_drew ?_ | refine blk_alloc ?_ _)); exact BK101.out) hb)
                    have n1_ := Aside0.mk (blk_below (g := gb102) (o := .cells #[.int .u64 a1_0, .int .u64 a1_1] 24 (0, 0)) (by (with_reducible repeat (first | refine blk_drewN ?_ _ | refine blk_drew ?_ | refine blk_alloc ?_ _)); exact BK102.out) hb)
                    have n2_ := Aside0.mk (blk_below (g := gb106) (o := .cells #[.int .u64 t125, .int .u64 t126] 24 (0, 0)) (by (with_reducible repeat (first | refine blk_drewN ?_ _ | refine blk_drew ?_ | refine blk_alloc ?_ _)); exact BK106.out) hb)
                    have n3_ := Aside0.mk (blk_below (g := gb110) (o := .cells #[.int .u64 t128, .int .u64 t129] 24 (0, 0)) (by (with_reducible repeat (first | refine blk_drewN ?_ _ | refine blk_drew ?_ | refine blk_alloc ?_ _)); exact BK110.out) hb)
                    have n4_ := Aside0.mk (blk_below (g := gb114) (o := .cells #[.int .u64 t111, .int .u64 t112] 24 (0, 0)) (by (with_reducible repeat (first | refine blk_drewN ?_ _ | refine blk_drew ?_ | refine blk_alloc ?_ _)); exact BK114.out) hb)
                    have n5_ := Aside0.mk (blk_below (g := gb118) (o := .cells #[.int .u64 t115, .int .u64 t116] 24 (0, 0)) (by (with_reducible repeat (first | refine blk_drewN ?_ _ | refine blk_drew ?_ | refine blk_alloc ?_ _)); exact BK118.out) hb)
                    have n6_ := Aside0.mk (below_step (by repeat (first | (with_reducible first | exact HB.out | apply below_alloc | apply pw_below_drewN | apply below_drew1 | refine below_set ?_ GE101.out | refine below_set ?_ GE102.out | refine below_set ?_ GE106.out | refine below_set ?_ GE110.out | refine below_set ?_ GE114.out | refine below_set ?_ GE118.out) | exact HB.out)) hb)
                    clear BK101
                    clear BK102
                    clear BK106
                    clear BK110
                    clear BK114
                    clear BK118
                    clear HB
                    have BK101 := n0_
                    have BK102 := n1_
                    have BK106 := n2_
                    have BK110 := n3_
                    have BK114 := n4_
                    have BK118 := n5_
                    have HB := n6_
                    clear n0_ n1_ n2_ n3_ n4_ n5_ n6_
                    (try clear hb)
                    (try clear hb2)
                    (try clear hk)
                    (try clear hi)
                    refine hK.out _ _ ⟨(blk_cell BK101.out 0).trans rfl, (blk_cell BK101.out 1).trans rfl, (blk_cell BK102.out 0).trans rfl, (blk_cell BK102.out 1).trans rfl⟩ (fun hHeld => ?_)
                    clear hK K
                    refine norm_ (a' := ?_) ?_ ?_
                    rotate_left
                    · show Act.put _ (some 154) _ = _
                      simp only [Act.put, List.setIfInBounds_toArray, List.set_cons_zero, List.set_cons_succ, i64_w, i32_w]
                      rfl
                    refine pure_ (i := 25) (N := some 155) (v := ?_) (a' := ?_) #[true, true, true, true, true, true, true, true, true, true, true, true, true, true, true, true, true, true, true, true, true, true, true, true, true, true, false] rfl rfl (any_of HT_.out (by kernel_rfl)) (fun _ _ _ h => h) (Or.inl ⟨by rfl, ?_⟩) ?_ ?_
                    rotate_left
                    · intro w'
                      go_simp
                      with_reducible rfl
                    rotate_left
                    · simp only [Act.put, List.setIfInBounds_toArray, List.set_cons_zero, List.set_cons_succ, i64_w, i32_w]
                      rfl
                    refine pure_ (i := 26) (N := some 12) (v := ?_) (a' := ?_) #[true, true, true, true, true, true, true, true, true, true, true, true, true, true, true, true, true, true, true, true, true, true, true, true, true, true, true] rfl rfl (any_of HT_.out (by kernel_rfl)) (fun _ _ _ h => h) (Or.inl ⟨by rfl, ?_⟩) ?_ ?_
                    rotate_left
                    · intro w'
                      go_simp
                      with_reducible rfl
                    rotate_left
                    · simp only [Act.put, List.setIfInBounds_toArray, List.set_cons_zero, List.set_cons_succ, i64_w, i32_w]
                      rfl
                    refine done_ (done_of HT_.out (by kernel_rfl)) ?_
                    try go_wp2
                    go_ret
                    exact ⟨by first | rfl | (simp [errW_none, errW_some] <;> rfl) | (simp [*, errW_none, errW_some] <;> rfl), by repeat (first | (with_reducible first | exact HB.out | apply below_alloc | apply pw_below_drewN | apply below_drew1 | refine below_set ?_ GE101.out | refine below_set ?_ GE102.out | refine below_set ?_ GE106.out | refine below_set ?_ GE110.out | refine below_set ?_ GE114.out | refine below_set ?_ GE118.out) | exact HB.out)⟩
                  · rw [if_neg c102] at H
                    have c102b0 : (t143 == t144) = false := beq_eq_false_iff_ne.mpr c102
                    have c102b1 : (t143 != t144) = true := bne_iff_ne.mpr c102
                    exact absurd ((Option.some.inj H).trans hrt.out) (by simp)
                · rw [if_neg c99] at H
                  have c99b0 : (t141 == t142) = false := beq_eq_false_iff_ne.mpr c99
                  have c99b1 : (t141 != t142) = true := bne_iff_ne.mpr c99
                  exact absurd ((Option.some.inj H).trans hrt.out) (by simp)
              · rw [if_neg c96] at H
                have c96b0 : (t139 == t140) = false := beq_eq_false_iff_ne.mpr c96
                have c96b1 : (t139 != t140) = true := bne_iff_ne.mpr c96
                exact absurd ((Option.some.inj H).trans hrt.out) (by simp)

end Go.Proofs.Ythpnooookkpkaaa.F
namespace Go.Proofs.Ythpnooookkpkaaa.T
open Go.RowKit Go.Proofs.Ythpnooookkpkaaa.F Go.Proofs.YthpnooookkpkaaaW.PrintWords Go.Proofs.YthpnooookkpkaaaW.PrintMore

theorem TernTells_pure {a0 a1 b0 b1 : Nat} (ha0 : a0 < 2 ^ 64) (ha1 : a1 < 2 ^ 64) (hb0 : b0 < 2 ^ 64) (hb1 : b1 < 2 ^ 64) (l : List Int) (i v u : Int) (v0 : 0 ≤ v) (v1 : v < 256) (u0 : 0 ≤ u) (u1 : u < 256) :
    inquestlaw06_TernTells.f 1000 a0 a1 b0 b1 l i v u = some true := by
  obtain ⟨r, o1, o2⟩ := Of_is l 1000 1000 (by omega) (by omega)
  unfold inquestlaw06_TernTells.f
  rw [o1, Option.bind_some, o2, Option.bind_some, All_is, Option.bind_some, rAll_is v v0 1000 (by omega), Option.bind_some, if_neg (by simp), if_pos rfl, if_neg (by simp), if_pos rfl, may_is ha0 ha1, Option.bind_some, rmay_is ha0 ha1 1000 (by omega), Option.bind_some]
  rw [show (mayB a0 a1 != mayB a0 a1) = false by simp]
  show inquestlaw06_TernTells.j0 (999 + 1) i v u false a0 a1 b0 b1 = some true
  simp only [inquestlaw06_TernTells.j0]
  rw [if_neg (by simp), at_is i ha0 ha1, Option.bind_some, rAt_is i ha0 ha1 999 (by omega), Option.bind_some, With_is i v ha0 ha1, Option.bind_some, rWith_is i v ha0 ha1 999 (by omega), Option.bind_some, if_pos rfl, if_neg (by simp), if_neg (by simp), if_pos rfl, Not_is ha0 ha1, Option.bind_some, rNot_is ha0 ha1 999 (by omega), Option.bind_some, if_neg (by simp), And_is ha0 ha1 hb0 hb1, Option.bind_some, rAnd_is ha0 ha1 hb0 hb1 999 (by omega), Option.bind_some]
  have e : (!((((andR a0 a1 b0 b1).1 : Nat) : Int) == (((andR a0 a1 b0 b1).1 : Nat) : Int)) || (!((((andR a0 a1 b0 b1).2 : Nat) : Int) == (((andR a0 a1 b0 b1).2 : Nat) : Int)))) = false := by simp
  rw [e]
  show inquestlaw06_TernTells.j1 (998 + 1) v u false a0 a1 b0 b1 = some true
  simp only [inquestlaw06_TernTells.j1]
  rw [if_neg (by simp), Within_is ha0 ha1 hb0 hb1, Option.bind_some, rWithin_is ha0 ha1 hb0 hb1 998 (by omega), Option.bind_some, if_pos rfl, (Not1_is v v0 v1).1, Option.bind_some, (Not1_is v v0 v1).2, Option.bind_some, if_pos rfl, And1_is v u v0 v1 u0 u1 998 (by omega), Option.bind_some, rAnd1_is v u 998 (by omega), Option.bind_some, if_pos rfl, lives_is]
  rfl
end Go.Proofs.Ythpnooookkpkaaa.T
namespace Go.Proofs.Ythpnooookkpkaaa.RowLaw
open Go.RowKit Go.Proofs.YthpnooookkpkaaaW.PrintWords
def IsRow (k : IntKind) (w : World) (a : Option Addr) (len cap : Nat) (zs : List Int) : Prop :=
  (a = none ∧ len = 0 ∧ cap = 0 ∧ zs = []) ∨
  ∃ x, a = some x ∧ len ≤ cap ∧ cap ≤ maxLen ∧ zs.length = cap ∧ (∀ i, i < zs.length → w.cell? (x.add i) = some (.int k (zs.getD i 0))) ∧ ∀ n ∈ zs, (Lit.int k n).wf = true
end Go.Proofs.Ythpnooookkpkaaa.RowLaw
namespace Go.Proofs.Ythpnooookkpkaaa.T
open Go.RowKit Go.Proofs.Ythpnooookkpkaaa.F Go.Proofs.YthpnooookkpkaaaW.PrintWords Go.Proofs.YthpnooookkpkaaaW.PrintMore
theorem TernTells_walk (a b c d : Int) (A : Option Addr) (len cap : Nat) (z : List Int) (i v u : Int) (W : World) (wa : (Lit.int .u64 a).wf = true) (wb : (Lit.int .u64 b).wf = true) (wc : (Lit.int .u64 c).wf = true) (wd : (Lit.int .u64 d).wf = true) (wl : RowLaw.IsRow .u8 W A len cap z) (_wi : (Lit.int .i64 i).wf = true) (wv : (Lit.int .u8 v).wf = true) (wu : (Lit.int .u8 u).wf = true) :
    Calls Try.prog 4 #[.agg #[.int .u64 a, .int .u64 b], .agg #[.int .u64 c, .int .u64 d], .slice A len cap, .int .i64 i, .int .u8 v, .int .u8 u] W fun e w' => e = .returned (.bool true) ∧ Below W.heap.size W w' := by
  obtain ⟨a, rfl, ha⟩ := nat_of_u64 wa
  obtain ⟨b, rfl, hb⟩ := nat_of_u64 wb
  obtain ⟨c, rfl, hc⟩ := nat_of_u64 wc
  obtain ⟨d, rfl, hd⟩ := nat_of_u64 wd
  obtain ⟨l, rfl, hr, hm, hw, hcap⟩ := ReadsInt.ofRowC wl
  exact inquestlaw06_TernTells.calls 1000 _ _ _ _ _ _ l i v u true W (Kd.C_of_reads (d := (0 : Int)) (h1 := fun _ => rfl) hr) hcap ⟨rfl⟩ (TernTells_pure ha hb hc hd l i v u (u8_of wv).1 (u8_of wv).2 (u8_of wu).1 (u8_of wu).2)
end Go.Proofs.Ythpnooookkpkaaa.T

namespace Go.Proofs.Ythpnooookkpkaaa.ternTells
open Go.ChangeShapes Go.WideShapes Go.ChangeAt Go.RowKit Go.Joins
open Go.ChangeMaps (open_string shut_string)
set_option linter.unusedVariables false
theorem own : ownKnob Try.prog.godebug = none := by kernel_rfl
theorem laidOut : laidOutB Try.prog = true := by kernel_rfl
theorem cells24 : Try.prog.cellsOf 24 = 2 := by kernel_rfl
set_option maxRecDepth 100000 in
theorem lifted (os : Os) (started : os.Started) (H : Type) (enc : TypeId × Value → H) :
    ReturnsInHanded {} Try.checked os 4 .any (Rows.ternTellsSpec.pre6 enc Try.prog Try.f4 Rows.ternTellsRow.domain false) (Rows.ternTellsSpec.post enc Try.prog Try.f4 false true false false) := by
  refine returnsInHanded_of_change_sized (C := Try.checked) own started (by kernel_rfl) Try.func4
    (ChangeSpec.witness6 (enc := enc) (C := Try.checked) false ⟨#[], #[.agg #[.int .u64 0, .int .u64 0], .agg #[.int .u64 0, .int .u64 0], .slice none 0 0, .int .i64 0, .int .u8 0, .int .u8 0], []⟩ 8 (by kernel_rfl) (by kernel_rfl) (by kernel_rfl) (by kernel_rfl)) ?_
  intro W base args ds gs before hval0 hW hcnd hsz0 _
  have hsz : (DataW.weightsEach Try.prog (Try.f4.params.toList ++ Rows.ternTellsSpec.plain.varTypes Try.prog) (ds ++ gs)).all (· ≤ reachBytes) = true := hsz0
  have hval : ∀ (j : Nat) t v, Try.f4.params[j]? = some t → args[j]? = some v → Value.okWide Try.prog W .any base t v := hval0
  have hW' := hW
  obtain ⟨p, q, hA0, hV, rfl, hfz, hnd⟩ := hW
  have hA : DataW.TrodAll enc Try.prog W 0 (fun _ => true) true Try.f4.params.toList args.toList ds p := hA0
  rw [Try.params4] at hA hval hsz
  obtain ⟨v0, vs0, d0, ds0, p0, q0, hargs, rfl, rfl, h0, r0⟩ := trodAll_cons hA
  obtain ⟨v1, vs1, d1, ds1, p1, q1, rfl, rfl, rfl, h1, r1⟩ := trodAll_cons r0
  obtain ⟨v2, vs2, d2, ds2, p2, q2, rfl, rfl, rfl, h2, r2⟩ := trodAll_cons r1
  obtain ⟨v3, vs3, d3, ds3, p3, q3, rfl, rfl, rfl, h3, r3⟩ := trodAll_cons r2
  obtain ⟨v4, vs4, d4, ds4, p4, q4, rfl, rfl, rfl, h4, r4⟩ := trodAll_cons r3
  obtain ⟨v5, vs5, d5, ds5, p5, q5, rfl, rfl, rfl, h5, r5⟩ := trodAll_cons r4
  obtain ⟨rfl, rfl, rfl⟩ := trodAll_nil r5
  obtain rfl : args = #[v0, v1, v2, v3, v4, v5] := by cases args; simp_all
  obtain ⟨rfl, rfl⟩ := trodVars_none hV
  have k0 := h0
  have lt0 : ∀ x ∈ p0, x.block < W.heap.size := by obtain ⟨m, hm⟩ := k0; exact DataW.trod_lt m _ _ _ hm
  obtain ⟨e0_0, e0_1, y0_0, y0_1, m0, rfl, hd0, hp0, hy0_0, hy0_1⟩ := open_agg2 Try.underlying24 (by kernel_rfl) cells24 (hval 0 24 v0 rfl rfl) h0
  obtain ⟨a0_0, z0_0, hx0_0, w0_0⟩ := DataW.trod_int Try.underlying22 hy0_0
  simp at z0_0
  subst z0_0
  obtain ⟨a0_1, z0_1, hx0_1, w0_1⟩ := DataW.trod_int Try.underlying22 hy0_1
  simp at z0_1
  subst z0_1
  have k1 := h1
  have lt1 : ∀ x ∈ p1, x.block < W.heap.size := by obtain ⟨m, hm⟩ := k1; exact DataW.trod_lt m _ _ _ hm
  obtain ⟨e1_0, e1_1, y1_0, y1_1, m1, rfl, hd1, hp1, hy1_0, hy1_1⟩ := open_agg2 Try.underlying24 (by kernel_rfl) cells24 (hval 1 24 v1 rfl rfl) h1
  obtain ⟨a1_0, z1_0, hx1_0, w1_0⟩ := DataW.trod_int Try.underlying22 hy1_0
  simp at z1_0
  subst z1_0
  obtain ⟨a1_1, z1_1, hx1_1, w1_1⟩ := DataW.trod_int Try.underlying22 hy1_1
  simp at z1_1
  subst z1_1
  have k2 := h2
  have lt2 : ∀ x ∈ p2, x.block < W.heap.size := by obtain ⟨m, hm⟩ := k2; exact DataW.trod_lt m _ _ _ hm
  obtain ⟨a2, len2, cap2, rfl⟩ := okWide_slice Try.underlying34 (hval 2 34 v2 rfl rfl)
  obtain ⟨z2, w2⟩ : ∃ zs, RowLaw.IsRow .u8 W a2 len2 cap2 zs := by
    obtain ⟨fuel, hf⟩ := h2
    rcases open_ints Try.underlying34 Try.underlying5 (by kernel_rfl) hf with ⟨hcs, _⟩ | ⟨x, l, c, zs, hcs, _, hl, hm, hz, _, hcell, hwz⟩
    · simp [Value.cells] at hcs
      obtain ⟨rfl, rfl, rfl⟩ := hcs
      exact ⟨[], .inl ⟨rfl, rfl, rfl, rfl⟩⟩
    · simp [Value.cells] at hcs
      obtain ⟨rfl, rfl, rfl⟩ := hcs
      exact ⟨zs, .inr ⟨_, rfl, hl, hm, by simpa using hz, hcell, hwz⟩⟩
  have k3 := h3
  have lt3 : ∀ x ∈ p3, x.block < W.heap.size := by obtain ⟨m, hm⟩ := k3; exact DataW.trod_lt m _ _ _ hm
  obtain ⟨a3, rfl, hd3, hp3, w3⟩ := open_int Try.underlying3 (hval 3 3 v3 rfl rfl) h3
  have k4 := h4
  have lt4 : ∀ x ∈ p4, x.block < W.heap.size := by obtain ⟨m, hm⟩ := k4; exact DataW.trod_lt m _ _ _ hm
  obtain ⟨a4, rfl, hd4, hp4, w4⟩ := open_int Try.underlying5 (hval 4 5 v4 rfl rfl) h4
  have k5 := h5
  have lt5 : ∀ x ∈ p5, x.block < W.heap.size := by obtain ⟨m, hm⟩ := k5; exact DataW.trod_lt m _ _ _ hm
  obtain ⟨a5, rfl, hd5, hp5, w5⟩ := open_int Try.underlying5 (hval 5 5 v5 rfl rfl) h5
  clear hA0 hval0 hsz0 hsz
  refine (T.TernTells_walk a0_0 a0_1 a1_0 a1_1 a2 len2 cap2 z2 a3 a4 a5 W w0_0 w0_1 w1_0 w1_1 w2 w3 w4 w5).mono fun e W' ⟨he, bel⟩ => ?_
  subst he
  exact ⟨_, rfl, _, _, _, [], _, [], hW', trodAll_mk1 (shut_bool Try.underlying4 _), (trodAll_cons_mk (Below.trod laidOut (by kernel_rfl) (of_decide_eq_true (by kernel_rfl)) k0 bel lt0) (trodAll_cons_mk (Below.trod laidOut (by kernel_rfl) (of_decide_eq_true (by kernel_rfl)) k1 bel lt1) (trodAll_cons_mk (Below.trod laidOut (by kernel_rfl) (of_decide_eq_true (by kernel_rfl)) k2 bel lt2) (trodAll_cons_mk (Below.trod laidOut (by kernel_rfl) (of_decide_eq_true (by kernel_rfl)) k3 bel lt3) (trodAll_cons_mk (Below.trod laidOut (by kernel_rfl) (of_decide_eq_true (by kernel_rfl)) k4 bel lt4) (trodAll_cons_mk (Below.trod laidOut (by kernel_rfl) (of_decide_eq_true (by kernel_rfl)) k5 bel lt5) trodAll_mk0)))))), rfl, bel.frame _, fun h => by cases h⟩
theorem over : Rows.ternTellsRow.holds Try.pinned (OpenSpec.ofChange Rows.ternTellsSpec) :=
  OpenClaim.holds_of_wide 4 Try.f4 rfl rfl rfl rfl rfl rfl rfl ⟨rfl, rfl, rfl, rfl, rfl⟩ rfl rfl rfl rfl rfl (by kernel_rfl) Try.func4 (by kernel_rfl)
    (of_decide_eq_true (by kernel_rfl)) (by unfold Func.isWrapper; first | (rw [if_pos (by decide +kernel)]; kernel_rfl) | (rw [if_neg (by decide +kernel)]; exact ⟨rfl, rfl⟩))
    (fun os started H enc _ => lifted os started H enc)
theorem proved : Rows.TernTellsSaid := over
#print axioms proved
end Go.Proofs.Ythpnooookkpkaaa.ternTells
namespace Go.Proofs.Ythpnooookkpkaaa
/-- The row, under a short name, for the claim. -/
theorem ternTells_holds : Rows.TernTellsSaid := ternTells.proved
end Go.Proofs.Ythpnooookkpkaaa
