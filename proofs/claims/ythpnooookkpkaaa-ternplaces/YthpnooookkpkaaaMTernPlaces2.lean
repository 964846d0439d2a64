/- Texts of this session for the claim of TernPlaces: functions of the program as plain Lean functions, that the machine's calls come to them, and plain facts of these. -/
import Derived.Test.YthpnooookkpkaaaMTernPlaces1
import Derived.Outline
import Derived.LoopN
import Derived.Test.YthpnooookkpkaaaMTernPlaces0
namespace Go.Proofs.Ythpnooookkpkaaa.T
open Go.RowKit Go.Proofs.Ythpnooookkpkaaa.F Go.Proofs.YthpnooookkpkaaaW.PrintWords Go.Proofs.YthpnooookkpkaaaW.PrintMore

/-! ### what a loop over all places builds -/
def Built (f g : Nat → Bool) (i z o : Nat) : Prop := z < 2 ^ 64 ∧ o < 2 ^ 64 ∧ ∀ j, j < i → z.testBit j = f j ∧ o.testBit j = g j
theorem Built.start (f g : Nat → Bool) : Built f g 0 0 0 := ⟨by omega, by omega, fun j h => by omega⟩
theorem Built.next {f g : Nat → Bool} {i z o : Nat} (h : Built f g i z o) (hi : i < 64) {b c : Bool} (hb : b = f i) (hc : c = g i) : Built f g (i + 1) (setb z i b) (setb o i c) := by
  obtain ⟨h1, h2, h3⟩ := h
  refine ⟨setb_lt h1 hi, setb_lt h2 hi, fun j hj => ?_⟩
  rw [setb_bit hi j (by omega), setb_bit hi j (by omega)]
  by_cases e : i = j
  · subst e; simp [hb, hc]
  · simpa [e] using h3 j (by omega)
theorem Built.done {f g : Nat → Bool} {z o a b : Nat} (h : Built f g 64 z o) (ha : a < 2 ^ 64) (hb : b < 2 ^ 64) (h1 : ∀ j, j < 64 → a.testBit j = f j) (h2 : ∀ j, j < 64 → b.testBit j = g j) : z = a ∧ o = b :=
  ⟨ext64 h.1 ha fun i hi => by rw [h1 i hi, (h.2.2 i hi).1], ext64 h.2.1 hb fun i hi => by rw [h2 i hi, (h.2.2 i hi).2]⟩

theorem Not1_is (v : Int) (h0 : 0 ≤ v) (h1 : v < 256) : tern_Not1.f v = some (if v = 0 then 1 else if v = 1 then 0 else 2) ∧ inquestref06_Not1.f v = some (if v = 0 then 1 else if v = 1 then 0 else 2) := by
  unfold tern_Not1.f inquestref06_Not1.f
  constructor
  · by_cases a : v = 0
    · subst a; rfl
    · by_cases b : v = 1
      · subst b; rfl
      · rw [if_pos (by omega), if_neg a, if_neg b]
  · by_cases a : v = 0
    · subst a; rfl
    · by_cases b : v = 1
      · subst b; rfl
      · rw [if_neg a, if_neg b, if_neg a, if_neg b]
def and1 (v u : Int) : Int := if v = 0 ∨ u = 0 then 0 else if v = 1 ∧ u = 1 then 1 else 2
theorem or_one {a b : Nat} (ha : a ≠ 0) (hb : b ≠ 0) : (a ||| b = 1) ↔ (a = 1 ∧ b = 1) := by
  constructor
  · intro h
    have h1 : a ≤ 1 := by rw [← h]; exact Nat.left_le_or
    have h2 : b ≤ 1 := by rw [← h]; exact Nat.right_le_or
    omega
  · rintro ⟨rfl, rfl⟩; rfl
theorem And1_is (v u : Int) (h0 : 0 ≤ v) (h1 : v < 256) (g0 : 0 ≤ u) (g1 : u < 256) (k : Nat) (hk : 0 < k) : tern_And1.f k v u = some (and1 v u) := by
  obtain ⟨k, rfl⟩ : ∃ m, k = m + 1 := ⟨k - 1, by omega⟩
  unfold tern_And1.f and1
  by_cases a : v = 0
  · subst a; simp [tern_And1.j0]
  · rw [if_neg a]
    by_cases b : u = 0
    · subst b; simp [tern_And1.j0]
    · rw [if_neg (by omega)]
      simp only [tern_And1.j0]
      rw [if_neg (by simpa using b), u8_or v u h0 h1 g0 g1]
      have := or_one (a := v.toNat) (b := u.toNat) (by omega) (by omega)
      by_cases e : v = 1 ∧ u = 1
      · rw [if_pos e, if_pos (by have := this.2 ⟨by omega, by omega⟩; omega)]
      · rw [if_neg e, if_neg (fun h => e (by have := this.1 (by omega); omega))]
theorem rAnd1_is (v u : Int) (k : Nat) (hk : 0 < k) : inquestref06_And1.f k v u = some (and1 v u) := by
  obtain ⟨k, rfl⟩ : ∃ m, k = m + 1 := ⟨k - 1, by omega⟩
  unfold inquestref06_And1.f and1
  by_cases a : v = 0
  · subst a; simp [inquestref06_And1.j0]
  · rw [if_neg a]
    by_cases b : u = 0
    · subst b; simp [inquestref06_And1.j0]
    · rw [if_neg (by omega)]
      simp only [inquestref06_And1.j0]
      rw [if_neg (by simpa using b)]
      by_cases e : v = 1 <;> by_cases e2 : u = 1 <;> simp [e, e2]
theorem val_range (a b : Bool) : 0 ≤ val a b ∧ val a b ≤ 2 := by cases a <;> cases b <;> simp [val]

/-! ### Not -/
def notR (z o : Nat) : Nat × Nat := if mayB z o then (o, z) else (18446744073709551615, 0)
theorem Not_is {z o : Nat} (hz : z < 2 ^ 64) (ho : o < 2 ^ 64) : tern_Not.f z o = some ((((notR z o).1 : Nat) : Int), (((notR z o).2 : Nat) : Int)) := by
  unfold tern_Not.f notR
  rw [may_is hz ho, Option.bind_some]
  cases mayB z o <;> simp [tern_nothing.f]
theorem rNot_loop {z o : Nat} (hz : z < 2 ^ 64) (ho : o < 2 ^ 64) (f g : Nat → Bool) (hf : ∀ j, j < 64 → f j = (notR z o).1.testBit j) (hg : ∀ j, j < 64 → g j = (notR z o).2.testBit j) :
    ∀ d k i x y : Nat, i + d = 64 → d + 66 < k → Built f g i x y → ∃ x' y' : Nat, inquestref06_Not.l0 k i z o x y = some ((x' : Int), (y' : Int)) ∧ Built f g 64 x' y' := by
  intro d
  induction d with
  | zero =>
    intro k i x y hi hk hB
    obtain ⟨k, rfl⟩ : ∃ m, k = m + 1 := ⟨k - 1, by omega⟩
    obtain rfl : i = 64 := by omega
    exact ⟨x, y, by simp only [inquestref06_Not.l0]; rw [if_neg (by omega)], hB⟩
  | succ d ih =>
    intro k i x y hi hk hB
    obtain ⟨k, rfl⟩ : ∃ m, k = m + 1 := ⟨k - 1, by omega⟩
    simp only [inquestref06_Not.l0]
    rw [if_pos (by omega), rmay_is hz ho k (by omega), Option.bind_some]
    have hfi := hf i (by omega)
    have hgi := hg i (by omega)
    by_cases hm : mayB z o = true
    · have hor := (mayB_iff hz ho).1 hm i (by omega)
      have hv := val_range (z.testBit i) (o.testBit i)
      rw [if_pos hm, rat_is (by omega), Option.bind_some, (Not1_is _ hv.1 (by omega)).2, Option.bind_some, with_is _ hB.1 hB.2.1 (by omega), Option.bind_some, w64 (by omega)]
      refine ih k (i + 1) _ _ (by omega) (by omega) (hB.next (by omega) ?_ ?_)
      · rw [hfi, notR, if_pos hm]
        cases h1 : z.testBit i <;> cases h2 : o.testBit i <;> simp [val, h1, h2] at hor ⊢
      · rw [hgi, notR, if_pos hm]
        cases h1 : z.testBit i <;> cases h2 : o.testBit i <;> simp [val, h1, h2] at hor ⊢
    · rw [if_neg hm, with_is _ hB.1 hB.2.1 (by omega), Option.bind_some, w64 (by omega)]
      refine ih k (i + 1) _ _ (by omega) (by omega) (hB.next (by omega) ?_ ?_)
      · rw [hfi, notR, if_neg hm]; simp [full_bit (show i < 64 by omega)]
      · rw [hgi, notR, if_neg hm]; simp
theorem notR_lt {z o : Nat} (hz : z < 2 ^ 64) (ho : o < 2 ^ 64) : (notR z o).1 < 2 ^ 64 ∧ (notR z o).2 < 2 ^ 64 := by
  unfold notR; split <;> simp <;> omega
theorem rNot_is {z o : Nat} (hz : z < 2 ^ 64) (ho : o < 2 ^ 64) (k : Nat) (hk : 200 ≤ k) : inquestref06_Not.f k z o = some ((((notR z o).1 : Nat) : Int), (((notR z o).2 : Nat) : Int)) := by
  obtain ⟨x, y, h, hB⟩ := rNot_loop hz ho (fun j => (notR z o).1.testBit j) (fun j => (notR z o).2.testBit j) (fun _ _ => rfl) (fun _ _ => rfl) 64 k 0 0 0 (by omega) (by omega) (Built.start _ _)
  obtain ⟨rfl, rfl⟩ := hB.done (notR_lt hz ho).1 (notR_lt hz ho).2 (fun _ _ => rfl) (fun _ _ => rfl)
  exact h

/-! ### And -/
def andR (z o y p : Nat) : Nat × Nat := if mayB z o && mayB y p then (z ||| y, o &&& p) else (18446744073709551615, 0)
theorem And_is {z o y p : Nat} (hz : z < 2 ^ 64) (ho : o < 2 ^ 64) (hy : y < 2 ^ 64) (hp : p < 2 ^ 64) : tern_And.f z o y p = some ((((andR z o y p).1 : Nat) : Int), (((andR z o y p).2 : Nat) : Int)) := by
  unfold tern_And.f andR
  rw [may_is hz ho, Option.bind_some]
  cases mayB z o
  · simp [tern_nothing.f]
  · rw [if_pos rfl, may_is hy hp, Option.bind_some]
    cases mayB y p
    · simp [tern_nothing.f]
    · rw [if_pos rfl, or_nat hz hy, and_nat ho hp]; simp
theorem andR_lt {z o y p : Nat} (hz : z < 2 ^ 64) (ho : o < 2 ^ 64) (hy : y < 2 ^ 64) : (andR z o y p).1 < 2 ^ 64 ∧ (andR z o y p).2 < 2 ^ 64 := by
  unfold andR; split
  · exact ⟨Nat.or_lt_two_pow hz hy, Nat.lt_of_le_of_lt Nat.and_le_left ho⟩
  · simp
theorem rAnd_loop {z o y p : Nat} (hz : z < 2 ^ 64) (ho : o < 2 ^ 64) (hy : y < 2 ^ 64) (hp : p < 2 ^ 64) (f g : Nat → Bool) (hf : ∀ j, j < 64 → f j = (andR z o y p).1.testBit j) (hg : ∀ j, j < 64 → g j = (andR z o y p).2.testBit j) :
    ∀ d k i u v : Nat, i + d = 64 → 2 * d + 66 < k → Built f g i u v → ∃ u' v' : Nat, inquestref06_And.l0 k i z o y p u v = some ((u' : Int), (v' : Int)) ∧ Built f g 64 u' v' := by
  intro d
  induction d with
  | zero =>
    intro k i x y hi hk hB
    obtain ⟨k, rfl⟩ : ∃ m, k = m + 1 := ⟨k - 1, by omega⟩
    obtain rfl : i = 64 := by omega
    exact ⟨x, y, by simp only [inquestref06_And.l0]; rw [if_neg (by omega)], hB⟩
  | succ d ih =>
    intro k i u v hi hk hB
    obtain ⟨k, rfl⟩ : ∃ m, k = m + 2 := ⟨k - 2, by omega⟩
    have hfi := hf i (by omega)
    have hgi := hg i (by omega)
    have no : (mayB z o && mayB y p) = false → ∃ u' v' : Nat, inquestref06_And.j1 (k + 1) i false z o y p u v = some ((u' : Int), (v' : Int)) ∧ Built f g 64 u' v' := by
      intro hm
      simp only [inquestref06_And.j1]
      rw [if_neg (by simp), with_is _ hB.1 hB.2.1 (by omega), Option.bind_some, w64 (by omega)]
      refine ih k (i + 1) _ _ (by omega) (by omega) (hB.next (by omega) ?_ ?_)
      · rw [hfi, andR, hm]; simp [full_bit (show i < 64 by omega)]
      · rw [hgi, andR, hm]; simp
    simp only [inquestref06_And.l0]
    rw [if_pos (by omega), rmay_is hz ho _ (by omega), Option.bind_some]
    by_cases hm : mayB z o = true
    · rw [if_pos hm, rmay_is hy hp _ (by omega), Option.bind_some]
      by_cases hn : mayB y p = true
      · rw [hn]
        simp only [inquestref06_And.j1]
        have hor := (mayB_iff hz ho).1 hm i (by omega)
        have hor2 := (mayB_iff hy hp).1 hn i (by omega)
        rw [if_pos trivial, rat_is (by omega), Option.bind_some, rat_is (by omega), Option.bind_some, rAnd1_is _ _ _ (by omega), Option.bind_some, with_is _ hB.1 hB.2.1 (by omega), Option.bind_some, w64 (by omega)]
        refine ih k (i + 1) _ _ (by omega) (by omega) (hB.next (by omega) ?_ ?_)
        · rw [hfi, andR, hm, hn]
          cases h1 : z.testBit i <;> cases h2 : o.testBit i <;> cases h3 : y.testBit i <;> cases h4 : p.testBit i <;> simp [val, and1, h1, h2, h3, h4] at hor hor2 ⊢
        · rw [hgi, andR, hm, hn]
          cases h1 : z.testBit i <;> cases h2 : o.testBit i <;> cases h3 : y.testBit i <;> cases h4 : p.testBit i <;> simp [val, and1, h1, h2, h3, h4] at hor hor2 ⊢
      · have hn' : mayB y p = false := by simpa using hn
        rw [hn']
        exact no (by simp [hn'])
    · have hm' : mayB z o = false := by simpa using hm
      rw [if_neg hm]
      exact no (by simp [hm'])
theorem rAnd_is {z o y p : Nat} (hz : z < 2 ^ 64) (ho : o < 2 ^ 64) (hy : y < 2 ^ 64) (hp : p < 2 ^ 64) (k : Nat) (hk : 200 ≤ k) : inquestref06_And.f k z o y p = some ((((andR z o y p).1 : Nat) : Int), (((andR z o y p).2 : Nat) : Int)) := by
  obtain ⟨u, v, h, hB⟩ := rAnd_loop hz ho hy hp (fun j => (andR z o y p).1.testBit j) (fun j => (andR z o y p).2.testBit j) (fun _ _ => rfl) (fun _ _ => rfl) 64 k 0 0 0 (by omega) (by omega) (Built.start _ _)
  obtain ⟨rfl, rfl⟩ := hB.done (andR_lt hz ho hy).1 (andR_lt hz ho hy).2 (fun _ _ => rfl) (fun _ _ => rfl)
  exact h

/-! ### Within -/
def withinR (z o y p : Nat) : Nat := if mayB z o && mayB y p then 18446744073709551615 ^^^ ((z &&& (2 ^ 64 - (y + 1))) ||| (o &&& (2 ^ 64 - (p + 1)))) else 0
theorem withinR_lt {z o y p : Nat} (hz : z < 2 ^ 64) (ho : o < 2 ^ 64) : withinR z o y p < 2 ^ 64 := by
  unfold withinR; split
  · exact Nat.xor_lt_two_pow (by omega) (Nat.or_lt_two_pow (Nat.lt_of_le_of_lt Nat.and_le_left hz) (Nat.lt_of_le_of_lt Nat.and_le_left ho))
  · omega
theorem withinR_bit {z o y p : Nat} (hz : z < 2 ^ 64) (ho : o < 2 ^ 64) (hy : y < 2 ^ 64) (hp : p < 2 ^ 64) (i : Nat) (hi : i < 64) :
    (withinR z o y p).testBit i = (mayB z o && mayB y p && decide (val (y.testBit i) (p.testBit i) = 2 ∨ val (z.testBit i) (o.testBit i) = val (y.testBit i) (p.testBit i))) := by
  unfold withinR
  by_cases hm : (mayB z o && mayB y p) = true
  · have h1 := (mayB_iff hz ho).1 (by simp at hm; exact hm.1) i hi
    have h2 := (mayB_iff hy hp).1 (by simp at hm; exact hm.2) i hi
    rw [hm, if_pos rfl, Nat.testBit_xor, full_bit hi, Nat.testBit_or, Nat.testBit_and, Nat.testBit_and, Nat.testBit_two_pow_sub_succ hy, Nat.testBit_two_pow_sub_succ hp]
    cases e1 : z.testBit i <;> cases e2 : o.testBit i <;> cases e3 : y.testBit i <;> cases e4 : p.testBit i <;> simp [val, e1, e2, e3, e4, hi] at h1 h2 ⊢
  · have hm' : (mayB z o && mayB y p) = false := by simpa using hm
    rw [hm']; simp
theorem Within_is {z o y p : Nat} (hz : z < 2 ^ 64) (ho : o < 2 ^ 64) (hy : y < 2 ^ 64) (hp : p < 2 ^ 64) : tern_Within.f z o y p = some ((withinR z o y p : Nat) : Int) := by
  unfold tern_Within.f withinR
  rw [may_is hz ho, Option.bind_some]
  cases mayB z o
  · simp
  · rw [if_pos rfl, may_is hy hp, Option.bind_some]
    cases mayB y p
    · simp
    · rw [if_pos rfl, andNot_nat hz hy, andNot_nat ho hp, or_nat (Nat.lt_of_le_of_lt Nat.and_le_left hz) (Nat.lt_of_le_of_lt Nat.and_le_left ho), show (18446744073709551615 : Int) = ((18446744073709551615 : Nat) : Int) from rfl,
        u64_xor_nat _ _ (by omega) (by have := Nat.or_lt_two_pow (Nat.lt_of_le_of_lt (Nat.and_le_left (m := 2 ^ 64 - (y + 1))) hz) (Nat.lt_of_le_of_lt (Nat.and_le_left (m := 2 ^ 64 - (p + 1))) ho); omega)]
      simp
def UpTo (f : Nat → Bool) (i n : Nat) : Prop := n < 2 ^ i ∧ ∀ j, j < i → n.testBit j = f j
theorem UpTo.more {f : Nat → Bool} {i n : Nat} (h : UpTo f i n) (hi : i < 64) (hf : f i = true) : IntKind.u64.wrap ((n : Int) + shl .u64 1 (IntKind.u64.wrap (i : Int))) = ((n + 2 ^ i : Nat) : Int) ∧ UpTo f (i + 1) (n + 2 ^ i) := by
  have e : (2 : Nat) ^ (i + 1) ≤ 2 ^ 64 := Nat.pow_le_pow_right (by omega) (by omega)
  have e2 : n + 2 ^ i < 2 ^ (i + 1) := by have := h.1; rw [Nat.pow_succ]; omega
  constructor
  · rw [wu64 hi, shl_nat hi, ← Int.natCast_add, wrap_small (by omega)]
  · refine ⟨e2, fun j hj => ?_⟩
    rw [Nat.add_comm, ← Nat.mul_one (2 ^ i), Nat.two_pow_add_eq_or_of_lt h.1 1, Nat.mul_one, Nat.testBit_or, Nat.testBit_two_pow]
    by_cases c : i = j
    · subst c; simp [hf]
    · simp [c, h.2 j (by omega)]
theorem UpTo.less {f : Nat → Bool} {i n : Nat} (h : UpTo f i n) (hf : f i = false) : UpTo f (i + 1) n := by
  refine ⟨Nat.lt_of_lt_of_le h.1 (Nat.pow_le_pow_right (by omega) (by omega)), fun j hj => ?_⟩
  by_cases c : i = j
  · subst c; rw [hf]; exact Nat.testBit_lt_two_pow h.1
  · exact h.2 j (by omega)
theorem rWithin_loop {z o y p : Nat} (hz : z < 2 ^ 64) (ho : o < 2 ^ 64) (hy : y < 2 ^ 64) (hp : p < 2 ^ 64) (f : Nat → Bool) (hf : ∀ j, j < 64 → f j = (withinR z o y p).testBit j) :
    ∀ d k i n : Nat, i + d = 64 → d + 66 < k → UpTo f i n → ∃ n' : Nat, inquestref06_Within.l0 k n i z o y p = some (n' : Int) ∧ UpTo f 64 n' := by
  intro d
  induction d with
  | zero =>
    intro k i n hi hk hB
    obtain ⟨k, rfl⟩ : ∃ m, k = m + 1 := ⟨k - 1, by omega⟩
    obtain rfl : i = 64 := by omega
    exact ⟨n, by simp only [inquestref06_Within.l0]; rw [if_neg (by omega)], hB⟩
  | succ d ih =>
    intro k i n hi hk hB
    obtain ⟨k, rfl⟩ : ∃ m, k = m + 1 := ⟨k - 1, by omega⟩
    have hfi := hf i (by omega)
    rw [withinR_bit hz ho hy hp i (by omega)] at hfi
    simp only [inquestref06_Within.l0]
    rw [if_pos (by omega), rmay_is hz ho _ (by omega), Option.bind_some]
    by_cases hm : mayB z o = true
    · rw [if_pos hm, rmay_is hy hp _ (by omega), Option.bind_some]
      by_cases hn : mayB y p = true
      · rw [if_pos hn, rat_is (by omega), Option.bind_some]
        by_cases h2 : val (y.testBit i) (p.testBit i) = 2
        · have hs := hB.more (by omega) (by rw [hfi, hm, hn]; simp [h2])
          rw [if_pos h2, if_pos (by rw [wu64 (by omega)]; omega), hs.1, w64 (by omega)]
          exact ih k (i + 1) _ (by omega) (by omega) hs.2
        · rw [if_neg h2, rat_is (by omega), Option.bind_some, Option.bind_some]
          by_cases h3 : val (z.testBit i) (o.testBit i) = val (y.testBit i) (p.testBit i)
          · have hs := hB.more (by omega) (by rw [hfi, hm, hn]; simp [h3])
            rw [if_pos h3, if_pos (by rw [wu64 (by omega)]; omega), hs.1, w64 (by omega)]
            exact ih k (i + 1) _ (by omega) (by omega) hs.2
          · rw [if_neg h3, w64 (by omega)]
            exact ih k (i + 1) _ (by omega) (by omega) (hB.less (by rw [hfi]; simp [h2, h3]))
      · rw [if_neg hn, w64 (by omega)]
        exact ih k (i + 1) _ (by omega) (by omega) (hB.less (by rw [hfi]; simp [hn]))
    · rw [if_neg hm, w64 (by omega)]
      exact ih k (i + 1) _ (by omega) (by omega) (hB.less (by rw [hfi]; simp [hm]))
theorem rWithin_is {z o y p : Nat} (hz : z < 2 ^ 64) (ho : o < 2 ^ 64) (hy : y < 2 ^ 64) (hp : p < 2 ^ 64) (k : Nat) (hk : 200 ≤ k) : inquestref06_Within.f k z o y p = some ((withinR z o y p : Nat) : Int) := by
  obtain ⟨n, h, hB⟩ := rWithin_loop hz ho hy hp (fun j => (withinR z o y p).testBit j) (fun _ _ => rfl) 64 k 0 0 (by omega) (by omega) ⟨by omega, fun j h => by omega⟩
  have e : n = withinR z o y p := ext64 hB.1 (withinR_lt hz ho) hB.2
  subst e
  exact h

/-! ### Of, All -/
theorem of_loops (l : List Int) (hl : l.length ≤ 64) : ∀ d k k' i z o : Nat, i + d = l.length → d < k → d < k' → z < 2 ^ 64 → o < 2 ^ 64 →
    ∃ r, tern_Of.l0 k l (l.length : Int) i z o = some r ∧ inquestref06_Of.l1 k' l i z o = some r := by
  intro d
  induction d with
  | zero =>
    intro k k' i z o hi hk hk' hz ho
    obtain ⟨k, rfl⟩ : ∃ m, k = m + 1 := ⟨k - 1, by omega⟩
    obtain ⟨k', rfl⟩ : ∃ m, k' = m + 1 := ⟨k' - 1, by omega⟩
    exact ⟨(z, o, 0), by simp only [tern_Of.l0]; rw [if_neg (by omega)], by simp only [inquestref06_Of.l1]; rw [if_neg (by omega)]⟩
  | succ d ih =>
    intro k k' i z o hi hk hk' hz ho
    obtain ⟨k, rfl⟩ : ∃ m, k = m + 1 := ⟨k - 1, by omega⟩
    obtain ⟨k', rfl⟩ : ∃ m, k' = m + 1 := ⟨k' - 1, by omega⟩
    have a1 : (i : Int) < (l.length : Int) := by omega
    have a2 : 0 ≤ (i : Int) := by omega
    simp only [tern_Of.l0, inquestref06_Of.l1, if_pos a1, if_pos a2]
    by_cases h : rd l i > 2
    · exact ⟨(0, 0, 2), by rw [if_pos h], by rw [if_pos h]⟩
    · rw [if_neg h, if_neg h, put_is _ hz ho (by omega), with_is _ hz ho (by omega), Option.bind_some, Option.bind_some, w64 (by omega)]
      exact ih k k' (i + 1) _ _ (by omega) (by omega) (by omega) (setb_lt hz (by omega)) (setb_lt ho (by omega))
theorem zeros_loop (l : List Int) : ∀ d k i : Nat, i + d = 64 → d < k → inquestref06_Of.l0 k l i ((2 ^ i - 1 : Nat) : Int) 0 = if (l.length : Int) > 64 then some (0, 0, 2) else inquestref06_Of.l1 (k - d - 1) l 0 18446744073709551615 0 := by
  intro d
  induction d with
  | zero =>
    intro k i hi hk
    obtain ⟨k, rfl⟩ : ∃ m, k = m + 1 := ⟨k - 1, by omega⟩
    obtain rfl : i = 64 := by omega
    simp only [inquestref06_Of.l0]
    rw [if_neg (by omega)]
    rfl
  | succ d ih =>
    intro k i hi hk
    obtain ⟨k, rfl⟩ : ∃ m, k = m + 1 := ⟨k - 1, by omega⟩
    have hp := pow64 (show i < 64 by omega)
    have hp2 : (2 : Nat) ^ (i + 1) ≤ 2 ^ 64 := Nat.pow_le_pow_right (by omega) (by omega)
    simp only [inquestref06_Of.l0]
    have hw := with_is (z := 2 ^ i - 1) (o := 0) (i := i) 0 (by omega) (by omega) (by omega)
    have e1 : setb (2 ^ i - 1) i (decide ((0 : Int) ≠ 1)) = 2 ^ (i + 1) - 1 := by
      apply ext64 (setb_lt (by omega) (by omega)) (by omega)
      intro j hj
      rw [setb_bit (by omega) j hj, Nat.testBit_two_pow_sub_one, Nat.testBit_two_pow_sub_one]
      by_cases e : i = j
      · subst e; simp
      · simp [e]; omega
    have e2 : setb 0 i (decide ((0 : Int) ≠ 0)) = 0 := by simp [setb]
    rw [e1, e2] at hw
    rw [if_pos (by omega), show (0 : Int) = ((0 : Nat) : Int) from rfl, show ((0 : Nat) : Int) = 0 from rfl]
    have hw' : inquestref06_with.f ((2 ^ i - 1 : Nat) : Int) 0 (i : Int) 0 = some (((2 ^ (i + 1) - 1 : Nat) : Int), 0) := hw
    rw [hw', Option.bind_some, w64 (by omega)]
    have := ih k (i + 1) (by omega) (by omega)
    rw [this, show k + 1 - (d + 1) - 1 = k - d - 1 by omega]
theorem Of_is (l : List Int) (k k' : Nat) (hk : 200 ≤ k) (hk' : 200 ≤ k') : ∃ r, tern_Of.f k l = some r ∧ inquestref06_Of.f k' l = some r := by
  have hz := zeros_loop l 64 k' 0 (by omega) (by omega)
  unfold tern_Of.f inquestref06_Of.f
  rw [show tern_nothing.f = some (18446744073709551615, 0) from rfl, Option.bind_some]
  by_cases h : (l.length : Int) > 64
  · refine ⟨(0, 0, 2), by rw [if_pos h], ?_⟩
    rw [if_pos h] at hz
    exact hz
  · rw [if_neg h] at hz ⊢
    obtain ⟨r, h1, h2⟩ := of_loops l (by omega) l.length k (k' - 64 - 1) 0 18446744073709551615 0 (by omega) (by omega) (by omega) (by omega) (by omega)
    exact ⟨r, h1, hz.trans h2⟩
def allR (v : Int) : Int × Int × Int := if v = 0 then (18446744073709551615, 0, 0) else if v = 1 then (0, 18446744073709551615, 0) else if v = 2 then (18446744073709551615, 18446744073709551615, 0) else (0, 0, 2)
theorem All_is (v : Int) : tern_All.f v = some (allR v) := by
  unfold tern_All.f allR
  by_cases h0 : v = 0
  · rw [if_pos h0, if_pos h0]; rfl
  · rw [if_neg h0, if_neg h0]
    by_cases h1 : v = 1
    · rw [if_pos h1, if_pos h1]
    · rw [if_neg h1, if_neg h1]
      by_cases h2 : v = 2
      · rw [if_pos h2, if_pos h2]
      · rw [if_neg h2, if_neg h2]
theorem rd_rep (v : Int) (n i : Nat) (h : i < n) : rd (List.replicate n v) i = v := by
  unfold rd
  rw [Int.toNat_natCast, List.getD_eq_getElem?_getD, List.getElem?_replicate, if_pos h]
  rfl
theorem same_loop (v : Int) (h2 : v ≤ 2) : ∀ d k i z o : Nat, i + d = 64 → d < k → z < 2 ^ 64 → o < 2 ^ 64 →
    (∀ j, j < i → z.testBit j = decide (v ≠ 1) ∧ o.testBit j = decide (v ≠ 0)) →
    ∃ z' o' : Nat, inquestref06_Of.l1 k (List.replicate 64 v) i z o = some ((z' : Int), (o' : Int), 0) ∧ Built (fun _ => decide (v ≠ 1)) (fun _ => decide (v ≠ 0)) 64 z' o' := by
  intro d
  induction d with
  | zero =>
    intro k i z o hi hk hz ho hb
    obtain ⟨k, rfl⟩ : ∃ m, k = m + 1 := ⟨k - 1, by omega⟩
    obtain rfl : i = 64 := by omega
    refine ⟨z, o, ?_, hz, ho, fun j hj => hb j hj⟩
    simp only [inquestref06_Of.l1]
    rw [if_neg (by simp)]
  | succ d ih =>
    intro k i z o hi hk hz ho hb
    obtain ⟨k, rfl⟩ : ∃ m, k = m + 1 := ⟨k - 1, by omega⟩
    simp only [inquestref06_Of.l1]
    rw [if_pos (by simp; omega), if_pos (by omega), rd_rep v 64 i (by omega), if_neg (by omega), with_is _ hz ho (by omega), Option.bind_some, w64 (by omega)]
    have hN := Built.next (f := fun _ => decide (v ≠ 1)) (g := fun _ => decide (v ≠ 0)) ⟨hz, ho, hb⟩ (show i < 64 by omega) (b := decide (v ≠ 1)) (c := decide (v ≠ 0)) rfl rfl
    exact ih k (i + 1) _ _ (by omega) (by omega) hN.1 hN.2.1 hN.2.2
theorem rAll_list (v : Int) : ∀ d k i : Nat, i + d = 64 → d < k → inquestref06_All.l0 k v (List.replicate i v) i = (inquestref06_Of.f (k - d - 1) (List.replicate 64 v)).bind fun b => some (b.1, b.2.1, b.2.2) := by
  intro d
  induction d with
  | zero =>
    intro k i hi hk
    obtain ⟨k, rfl⟩ : ∃ m, k = m + 1 := ⟨k - 1, by omega⟩
    obtain rfl : i = 64 := by omega
    simp only [inquestref06_All.l0]
    rw [if_neg (by omega)]
    rfl
  | succ d ih =>
    intro k i hi hk
    obtain ⟨k, rfl⟩ : ∃ m, k = m + 1 := ⟨k - 1, by omega⟩
    simp only [inquestref06_All.l0]
    rw [if_pos (by omega), if_pos (by rw [List.length_replicate]; omega), ← List.replicate_succ', w64 (by omega), ih k (i + 1) (by omega) (by omega), show k + 1 - (d + 1) - 1 = k - d - 1 by omega]
theorem rAll_is (v : Int) (h0 : 0 ≤ v) (k : Nat) (hk : 400 ≤ k) : inquestref06_All.f k v = some (allR v) := by
  have h := rAll_list v 64 k 0 (by omega) (by omega)
  have hz := zeros_loop (List.replicate 64 v) 64 (k - 64 - 1) 0 (by omega) (by omega)
  rw [if_neg (by rw [List.length_replicate]; omega)] at hz
  unfold inquestref06_All.f
  refine h.trans ?_
  unfold inquestref06_Of.f
  have hz' : inquestref06_Of.l0 (k - 64 - 1) (List.replicate 64 v) 0 0 0 = inquestref06_Of.l1 (k - 64 - 1 - 64 - 1) (List.replicate 64 v) 0 18446744073709551615 0 := hz
  rw [hz']
  by_cases h2 : v ≤ 2
  · obtain ⟨z, o, h3, hB⟩ := same_loop v h2 64 (k - 64 - 1 - 64 - 1) 0 18446744073709551615 0 (by omega) (by omega) (by omega) (by omega) (fun j hj => by omega)
    have h3' : inquestref06_Of.l1 (k - 64 - 1 - 64 - 1) (List.replicate 64 v) 0 18446744073709551615 0 = some ((z : Int), (o : Int), 0) := h3
    rw [h3', Option.bind_some]
    rcases (show v = 0 ∨ v = 1 ∨ v = 2 by omega) with rfl | rfl | rfl
    · obtain ⟨rfl, rfl⟩ := hB.done (a := 18446744073709551615) (b := 0) (by omega) (by omega) (fun j hj => by simp [full_bit hj]) (fun j hj => by simp)
      rfl
    · obtain ⟨rfl, rfl⟩ := hB.done (a := 0) (b := 18446744073709551615) (by omega) (by omega) (fun j hj => by simp) (fun j hj => by simp [full_bit hj])
      rfl
    · obtain ⟨rfl, rfl⟩ := hB.done (a := 18446744073709551615) (b := 18446744073709551615) (by omega) (by omega) (fun j hj => by simp [full_bit hj]) (fun j hj => by simp [full_bit hj])
      rfl
  · obtain ⟨m, hm⟩ : ∃ m, k - 64 - 1 - 64 - 1 = m + 1 := ⟨k - 64 - 1 - 64 - 1 - 1, by omega⟩
    have hr := rd_rep v 64 0 (by omega)
    rw [hm]
    simp only [inquestref06_Of.l1]
    rw [if_pos (by simp), if_pos (by omega), if_pos (by rw [show ((0 : Int)) = ((0 : Nat) : Int) from rfl, hr]; omega), Option.bind_some, allR, if_neg (by omega), if_neg (by omega), if_neg (by omega)]
end Go.Proofs.Ythpnooookkpkaaa.T
namespace Go.Proofs.Ythpnooookkpkaaa.F
open Go.RowKit Go.Proofs.YthpnooookkpkaaaW.PrintWords Go.Proofs.YthpnooookkpkaaaW.PrintLast Go.Proofs.YthpnooookkpkaaaW.PrintMore
attribute [local go_sem] max2_int min2_int max_two min_two max_three min_three max_four min_four
theorem at_v {z o : Nat} (i : Int) (hz : z < 2 ^ 64) (ho : o < 2 ^ 64) (hm : T.mayB z o = true) (h0 : 0 ≤ i) (h1 : i < 64) (v : Int) (hv : T.val (z.testBit i.toNat) (o.testBit i.toNat) = v) (W : World) :
    Calls Try.prog 16 #[.agg #[.int .u64 z, .int .u64 o], .int .i64 i] W fun e w' => e = .returned (.tuple #[.int .u8 v, .bool true]) ∧ Below W.heap.size W w' :=
  tern_At.calls z o i _ _ W (by rw [T.at_is i hz ho, if_pos ⟨hm, h0, h1⟩, hv])
set_option maxHeartbeats 400000 in
theorem row06 (z o : Nat) (hz : z < 2 ^ 64) (ho : o < 2 ^ 64) (hm : T.mayB z o = true) (w : World) :
    Calls Try.prog 50 #[.agg #[.int .u64 z, .int .u64 o]] w fun e w' => e = .returned (.agg #[.int .u8 (T.val (z.testBit 0) (o.testBit 0)), .int .u8 (T.val (z.testBit 1) (o.testBit 1)), .int .u8 (T.val (z.testBit 2) (o.testBit 2))]) ∧ Below w.heap.size w w' := by
  have H := Aside0.mk hm
  clear hm
  generalize hv0 : T.val (z.testBit 0) (o.testBit 0) = x0
  generalize hv1 : T.val (z.testBit 1) (o.testBit 1) = x1
  generalize hv2 : T.val (z.testBit 2) (o.testBit 2) = x2
  have H0 := Aside0.mk hv0
  have H1 := Aside0.mk hv1
  have H2 := Aside0.mk hv2
  clear hv0 hv1 hv2
  go_enter Try.func50, Try.ntmps50
  go_wp2_with fail
  refine wp_loop_rounds 4 ?_
  rw [rounds_succ]
  go_wp2_with fail
  refine (at_v 0 hz ho H.out (by omega) (by omega) x0 H0.out _).mono ?_
  rintro e w1 ⟨rfl, hb⟩
  have HB1 : Below w.heap.size w w1 := below_step (by repeat (first | exact Below.refl _ _ | apply below_alloc | refine Below.setCell ?_ (by show w.heap.size ≤ w.heap.size + 1 + 1; omega) _)) hb
  have p0_1 : w1.cell? ⟨w.heap.size, 0, none⟩ = some (.int .u64 z) := pw_cell_below hb (by go_simp)
  have p1_1 : w1.cell? ⟨w.heap.size, 1, none⟩ = some (.int .u64 o) := pw_cell_below hb (by go_simp)
  have d0_1 : w1.cell? ⟨w.heap.size + 1 + 1, 0, none⟩ = some (.int .u8 0) := pw_cell_below hb (by go_simp)
  have d1_1 : w1.cell? ⟨w.heap.size + 1 + 1, 1, none⟩ = some (.int .u8 0) := pw_cell_below hb (by go_simp)
  have d2_1 : w1.cell? ⟨w.heap.size + 1 + 1, 2, none⟩ = some (.int .u8 0) := pw_cell_below hb (by go_simp)
  have g0_1 : w1.cell? ⟨w.heap.size + 1, 0, none⟩ = some (.int .u8 0) := pw_cell_below hb (by go_simp)
  have g1_1 : w1.cell? ⟨w.heap.size + 1, 1, none⟩ = some (.int .u8 0) := pw_cell_below hb (by go_simp)
  have g2_1 : w1.cell? ⟨w.heap.size + 1, 2, none⟩ = some (.int .u8 0) := pw_cell_below hb (by go_simp)
  have s2_1 : w.heap.size + 1 + 1 < w1.heap.size := World.block_lt_of_cell? _ _ d0_1
  have s1_1 : w.heap.size + 1 < w1.heap.size := World.block_lt_of_cell? _ _ g0_1
  have f0_1 : w1.frozen? ⟨w.heap.size + 1 + 1, 0, none⟩ = false := (hb.frozen (p := ⟨_, _, none⟩) (by go_simp)).trans (by go_simp)
  have f1_1 : w1.frozen? ⟨w.heap.size + 1 + 1, 1, none⟩ = false := (hb.frozen (p := ⟨_, _, none⟩) (by go_simp)).trans (by go_simp)
  have f2_1 : w1.frozen? ⟨w.heap.size + 1 + 1, 2, none⟩ = false := (hb.frozen (p := ⟨_, _, none⟩) (by go_simp)).trans (by go_simp)
  have e0_1 : w1.frozen? ⟨w.heap.size + 1, 0, none⟩ = false := (hb.frozen (p := ⟨_, _, none⟩) (by go_simp)).trans (by go_simp)
  have e1_1 : w1.frozen? ⟨w.heap.size + 1, 1, none⟩ = false := (hb.frozen (p := ⟨_, _, none⟩) (by go_simp)).trans (by go_simp)
  have e2_1 : w1.frozen? ⟨w.heap.size + 1, 2, none⟩ = false := (hb.frozen (p := ⟨_, _, none⟩) (by go_simp)).trans (by go_simp)
  clear hb
  go_wp2_with fail
  rw [rounds_succ]
  go_wp2_with fail
  refine (at_v 1 hz ho H.out (by omega) (by omega) x1 H1.out _).mono ?_
  rintro e w2 ⟨rfl, hb⟩
  have HB2 : Below w.heap.size w w2 := below_step (by repeat (first | exact HB1 | apply below_alloc | refine Below.setCell ?_ (by show w.heap.size ≤ w.heap.size + 1 + 1; omega) _)) hb
  have p0_2 : w2.cell? ⟨w.heap.size, 0, none⟩ = some (.int .u64 z) := pw_cell_below hb (by go_simp)
  have p1_2 : w2.cell? ⟨w.heap.size, 1, none⟩ = some (.int .u64 o) := pw_cell_below hb (by go_simp)
  have d0_2 : w2.cell? ⟨w.heap.size + 1 + 1, 0, none⟩ = some (.int .u8 x0) := pw_cell_below hb (by go_simp)
  have d1_2 : w2.cell? ⟨w.heap.size + 1 + 1, 1, none⟩ = some (.int .u8 0) := pw_cell_below hb (by go_simp)
  have d2_2 : w2.cell? ⟨w.heap.size + 1 + 1, 2, none⟩ = some (.int .u8 0) := pw_cell_below hb (by go_simp)
  have g0_2 : w2.cell? ⟨w.heap.size + 1, 0, none⟩ = some (.int .u8 0) := pw_cell_below hb (by go_simp)
  have g1_2 : w2.cell? ⟨w.heap.size + 1, 1, none⟩ = some (.int .u8 0) := pw_cell_below hb (by go_simp)
  have g2_2 : w2.cell? ⟨w.heap.size + 1, 2, none⟩ = some (.int .u8 0) := pw_cell_below hb (by go_simp)
  have s2_2 : w.heap.size + 1 + 1 < w2.heap.size := World.block_lt_of_cell? _ _ d0_2
  have s1_2 : w.heap.size + 1 < w2.heap.size := World.block_lt_of_cell? _ _ g0_2
  have f0_2 : w2.frozen? ⟨w.heap.size + 1 + 1, 0, none⟩ = false := (hb.frozen (p := ⟨_, _, none⟩) (by go_simp)).trans (by go_simp)
  have f1_2 : w2.frozen? ⟨w.heap.size + 1 + 1, 1, none⟩ = false := (hb.frozen (p := ⟨_, _, none⟩) (by go_simp)).trans (by go_simp)
  have f2_2 : w2.frozen? ⟨w.heap.size + 1 + 1, 2, none⟩ = false := (hb.frozen (p := ⟨_, _, none⟩) (by go_simp)).trans (by go_simp)
  have e0_2 : w2.frozen? ⟨w.heap.size + 1, 0, none⟩ = false := (hb.frozen (p := ⟨_, _, none⟩) (by go_simp)).trans (by go_simp)
  have e1_2 : w2.frozen? ⟨w.heap.size + 1, 1, none⟩ = false := (hb.frozen (p := ⟨_, _, none⟩) (by go_simp)).trans (by go_simp)
  have e2_2 : w2.frozen? ⟨w.heap.size + 1, 2, none⟩ = false := (hb.frozen (p := ⟨_, _, none⟩) (by go_simp)).trans (by go_simp)
  clear p0_1 p1_1 s1_1 s2_1 d0_1 d1_1 d2_1 g0_1 g1_1 g2_1 f0_1 f1_1 f2_1 e0_1 e1_1 e2_1
  clear hb
  go_wp2_with fail
  rw [rounds_succ]
  go_wp2_with fail
  refine (at_v 2 hz ho H.out (by omega) (by omega) x2 H2.out _).mono ?_
  rintro e w3 ⟨rfl, hb⟩
  have HB3 : Below w.heap.size w w3 := below_step (by repeat (first | exact HB2 | apply below_alloc | refine Below.setCell ?_ (by show w.heap.size ≤ w.heap.size + 1 + 1; omega) _)) hb
  have p0_3 : w3.cell? ⟨w.heap.size, 0, none⟩ = some (.int .u64 z) := pw_cell_below hb (by go_simp)
  have p1_3 : w3.cell? ⟨w.heap.size, 1, none⟩ = some (.int .u64 o) := pw_cell_below hb (by go_simp)
  have d0_3 : w3.cell? ⟨w.heap.size + 1 + 1, 0, none⟩ = some (.int .u8 x0) := pw_cell_below hb (by go_simp)
  have d1_3 : w3.cell? ⟨w.heap.size + 1 + 1, 1, none⟩ = some (.int .u8 x1) := pw_cell_below hb (by go_simp)
  have d2_3 : w3.cell? ⟨w.heap.size + 1 + 1, 2, none⟩ = some (.int .u8 0) := pw_cell_below hb (by go_simp)
  have g0_3 : w3.cell? ⟨w.heap.size + 1, 0, none⟩ = some (.int .u8 0) := pw_cell_below hb (by go_simp)
  have g1_3 : w3.cell? ⟨w.heap.size + 1, 1, none⟩ = some (.int .u8 0) := pw_cell_below hb (by go_simp)
  have g2_3 : w3.cell? ⟨w.heap.size + 1, 2, none⟩ = some (.int .u8 0) := pw_cell_below hb (by go_simp)
  have s2_3 : w.heap.size + 1 + 1 < w3.heap.size := World.block_lt_of_cell? _ _ d0_3
  have s1_3 : w.heap.size + 1 < w3.heap.size := World.block_lt_of_cell? _ _ g0_3
  have f0_3 : w3.frozen? ⟨w.heap.size + 1 + 1, 0, none⟩ = false := (hb.frozen (p := ⟨_, _, none⟩) (by go_simp)).trans (by go_simp)
  have f1_3 : w3.frozen? ⟨w.heap.size + 1 + 1, 1, none⟩ = false := (hb.frozen (p := ⟨_, _, none⟩) (by go_simp)).trans (by go_simp)
  have f2_3 : w3.frozen? ⟨w.heap.size + 1 + 1, 2, none⟩ = false := (hb.frozen (p := ⟨_, _, none⟩) (by go_simp)).trans (by go_simp)
  have e0_3 : w3.frozen? ⟨w.heap.size + 1, 0, none⟩ = false := (hb.frozen (p := ⟨_, _, none⟩) (by go_simp)).trans (by go_simp)
  have e1_3 : w3.frozen? ⟨w.heap.size + 1, 1, none⟩ = false := (hb.frozen (p := ⟨_, _, none⟩) (by go_simp)).trans (by go_simp)
  have e2_3 : w3.frozen? ⟨w.heap.size + 1, 2, none⟩ = false := (hb.frozen (p := ⟨_, _, none⟩) (by go_simp)).trans (by go_simp)
  clear p0_2 p1_2 s1_2 s2_2 d0_2 d1_2 d2_2 g0_2 g1_2 g2_2 f0_2 f1_2 f2_2 e0_2 e1_2 e2_2
  clear hb
  go_wp2_with fail
  rw [rounds_succ]
  go_wp2_with fail
  exact bodyPost_ret (v := .agg #[.int .u8 x0, .int .u8 x1, .int .u8 x2]) (by simp [results, Try.results50, go_sem, *]) rfl ⟨rfl, by repeat (first | exact HB3 | refine Below.setCell ?_ (by show w.heap.size ≤ w.heap.size + 1 + 1; omega) _ | refine Below.setCell ?_ (by show w.heap.size ≤ w.heap.size + 1; omega) _)⟩
theorem of012 (W : World) (b : Nat) (h0 : W.cell? ⟨b, 0, none⟩ = some (.int .u8 0)) (h1 : W.cell? ⟨b, 1, none⟩ = some (.int .u8 1)) (h2 : W.cell? ⟨b, 2, none⟩ = some (.int .u8 2)) :
    Calls Try.prog 17 #[.slice (some ⟨b, 0, none⟩) 3 3] W fun e w' => e = .returned (.tuple #[.agg #[.int .u64 18446744073709551613, .int .u64 6], .int .i64 0]) ∧ Below W.heap.size W w' :=
  tern_Of.calls 10 (some ⟨b, 0, none⟩) 3 [0, 1, 2] _ _ _ W (Kd.C_of_reads (d := (0 : Int)) (h1 := fun _ => rfl) ⟨rfl, by simp, fun _ => ⟨_, rfl, fun j hj => by
    rcases (show j = 0 ∨ j = 1 ∨ j = 2 by simp at hj; omega) with rfl | rfl | rfl
    · exact h0
    · exact h1
    · exact h2⟩⟩) (by simp) (by decide +kernel)
theorem all_c (v a b c : Int) (W : World) (h : T.allR v = (a, b, c)) : Calls Try.prog 19 #[.int .u8 v] W fun e w' => e = .returned (.tuple #[.agg #[.int .u64 a, .int .u64 b], .int .i64 c]) ∧ Below W.heap.size W w' :=
  tern_All.calls v a b c W (by rw [T.All_is, h])
theorem at_k (z o i v : Int) (r : Bool) (W : World) (h : tern_At.f z o i = some (v, r)) :
    Calls Try.prog 16 #[.agg #[.int .u64 z, .int .u64 o], .int .i64 i] W fun e w' => e = .returned (.tuple #[.int .u8 v, .bool r]) ∧ Below W.heap.size W w' := tern_At.calls z o i v r W h
theorem and_k (z o y p a b : Int) (W : World) (h : tern_And.f z o y p = some (a, b)) :
    Calls Try.prog 15 #[.agg #[.int .u64 z, .int .u64 o], .agg #[.int .u64 y, .int .u64 p]] W fun e w' => e = .returned (.agg #[.int .u64 a, .int .u64 b]) ∧ Below W.heap.size W w' := tern_And.calls z o y p a b W h
theorem not_k (z o a b : Int) (W : World) (h : tern_Not.f z o = some (a, b)) :
    Calls Try.prog 14 #[.agg #[.int .u64 z, .int .u64 o]] W fun e w' => e = .returned (.agg #[.int .u64 a, .int .u64 b]) ∧ Below W.heap.size W w' := tern_Not.calls z o a b W h
theorem within_k (z o y p a : Int) (W : World) (h : tern_Within.f z o y p = some a) :
    Calls Try.prog 13 #[.agg #[.int .u64 z, .int .u64 o], .agg #[.int .u64 y, .int .u64 p]] W fun e w' => e = .returned (.int .u64 a) ∧ Below W.heap.size W w' := tern_Within.calls z o y p a W h
theorem and1_k (v u a : Int) (W : World) (h : tern_And1.f 10 v u = some a) :
    Calls Try.prog 30 #[.int .u8 v, .int .u8 u] W fun e w' => e = .returned (.int .u8 a) ∧ Below W.heap.size W w' :=
  (tern_And1.calls 10 v u a W h).mono fun _ _ ⟨h1, h2⟩ => ⟨h1, h2.below⟩
theorem row_k (z o : Nat) (a b c : Int) (W : World) (ha : T.val (z.testBit 0) (o.testBit 0) = a) (hb : T.val (z.testBit 1) (o.testBit 1) = b) (hc : T.val (z.testBit 2) (o.testBit 2) = c) (hz : z < 2 ^ 64) (ho : o < 2 ^ 64) (hm : T.mayB z o = true) :
    Calls Try.prog 50 #[.agg #[.int .u64 (z : Int), .int .u64 (o : Int)]] W fun e w' => e = .returned (.agg #[.int .u8 a, .int .u8 b, .int .u8 c]) ∧ Below W.heap.size W w' := by
  subst ha hb hc
  exact row06 z o hz ho hm W
set_option maxHeartbeats 1000000 in
set_option maxRecDepth 100000 in
theorem lives06 (w : World) :
    Calls Try.prog 12 #[] w fun e w' => e = .returned (.bool true) ∧ Below w.heap.size w w' := by
  have eqa : ∀ W, (Op.equalIn 10000 72 (.agg #[.int .u8 0, .int .u8 2, .int .u8 2]) (.agg #[.int .u8 0, .int .u8 2, .int .u8 2])).run Try.prog W = .ok true W := fun W => by kernel_rfl
  have eqb : ∀ W, (Op.equalIn 10000 72 (.agg #[.int .u8 1, .int .u8 0, .int .u8 2]) (.agg #[.int .u8 1, .int .u8 0, .int .u8 2])).run Try.prog W = .ok true W := fun W => by kernel_rfl
  go_enter Try.func12, Try.ntmps12
  go_wp2_with fail
  refine (of012 _ _ (by go_simp) (by go_simp) (by go_simp)).mono ?_
  rintro e w1 ⟨rfl, hb⟩
  have HB1 : Below w.heap.size w w1 := below_step (by repeat (first | exact Below.refl _ _ | apply below_alloc | apply below_drew1 | apply pw_below_drewN | refine Below.setCell ?_ (by show w.heap.size ≤ w.heap.size; omega) _)) hb
  have cL_0_1 : w1.cell? ⟨w.heap.size, 0, none⟩ = some (.int .u8 0) := pw_cell_below hb (by go_simp)
  have cL_1_1 : w1.cell? ⟨w.heap.size, 1, none⟩ = some (.int .u8 1) := pw_cell_below hb (by go_simp)
  have cL_2_1 : w1.cell? ⟨w.heap.size, 2, none⟩ = some (.int .u8 2) := pw_cell_below hb (by go_simp)
  have sL_1 : w.heap.size < w1.heap.size := World.block_lt_of_cell? _ _ cL_0_1
  clear hb
  go_wp2_with fail
  refine (all_c 2 _ _ _ _ rfl).mono ?_
  rintro e w2 ⟨rfl, hb⟩
  have HB2 : Below w.heap.size w w2 := below_step (by repeat (first | exact HB1 | (refine Below.alloc ?_ (by first | exact Nat.le_refl _ | (have := HB1.size; simp; omega) | (simp; omega)) _) | apply below_alloc | apply below_drew1 | apply pw_below_drewN | refine Below.setCell ?_ (by show w.heap.size ≤ w1.heap.size; omega) _)) hb
  have cW_0_2 : w2.cell? ⟨w1.heap.size, 0, none⟩ = some (.int .u64 18446744073709551613) := pw_cell_below hb (by go_simp)
  have cW_1_2 : w2.cell? ⟨w1.heap.size, 1, none⟩ = some (.int .u64 6) := pw_cell_below hb (by go_simp)
  have sW_2 : w1.heap.size < w2.heap.size := World.block_lt_of_cell? _ _ cW_0_2
  clear hb cL_0_1 cL_1_1 cL_2_1 sL_1
  go_wp2_with fail
  refine (all_c 0 _ _ _ _ rfl).mono ?_
  rintro e w3 ⟨rfl, hb⟩
  have HB3 : Below w.heap.size w w3 := below_step (by repeat (first | exact HB2 | (refine Below.alloc ?_ (by first | exact Nat.le_refl _ | (have := HB2.size; simp; omega) | (simp; omega)) _) | apply below_alloc | apply below_drew1 | apply pw_below_drewN | refine Below.setCell ?_ (by show w.heap.size ≤ w1.heap.size; omega) _ | refine Below.setCell ?_ (by show w.heap.size ≤ w2.heap.size; omega) _)) hb
  have cW_0_3 : w3.cell? ⟨w1.heap.size, 0, none⟩ = some (.int .u64 18446744073709551613) := pw_cell_below hb (by go_simp)
  have cW_1_3 : w3.cell? ⟨w1.heap.size, 1, none⟩ = some (.int .u64 6) := pw_cell_below hb (by go_simp)
  have sW_3 : w1.heap.size < w3.heap.size := World.block_lt_of_cell? _ _ cW_0_3
  have cX_0_3 : w3.cell? ⟨w2.heap.size, 0, none⟩ = some (.int .u64 18446744073709551615) := pw_cell_below hb (by go_simp)
  have cX_1_3 : w3.cell? ⟨w2.heap.size, 1, none⟩ = some (.int .u64 18446744073709551615) := pw_cell_below hb (by go_simp)
  have sX_3 : w2.heap.size < w3.heap.size := World.block_lt_of_cell? _ _ cX_0_3
  clear hb cW_0_2 cW_1_2 sW_2
  have q1 : (bits .and .u64 18446744073709551613 7 != 5) = false := by decide +kernel
  have q2 : (bits .and .u64 6 7 != 6) = false := by decide +kernel
  have q3 : bits .and .u64 18446744073709551613 7 = 5 := by decide +kernel
  have q4 : bits .and .u64 6 7 = 6 := by decide +kernel
  go_wp2_with fail
  refine (at_k 18446744073709551613 6 2 2 true _ (by decide +kernel)).mono ?_
  rintro e w4 ⟨rfl, hb⟩
  have HB4 : Below w.heap.size w w4 := below_step (by repeat (first | exact HB3 | (refine Below.alloc ?_ (by first | exact Nat.le_refl _ | (have := HB3.size; simp; omega) | (simp; omega)) _) | apply below_alloc | apply below_drew1 | apply pw_below_drewN | refine Below.setCell ?_ (by show w.heap.size ≤ w1.heap.size; omega) _ | refine Below.setCell ?_ (by show w.heap.size ≤ w2.heap.size; omega) _ | refine Below.setCell ?_ (by show w.heap.size ≤ w3.heap.size; omega) _)) hb
  have cW_0_4 : w4.cell? ⟨w1.heap.size, 0, none⟩ = some (.int .u64 18446744073709551613) := pw_cell_below hb (by go_simp)
  have cW_1_4 : w4.cell? ⟨w1.heap.size, 1, none⟩ = some (.int .u64 6) := pw_cell_below hb (by go_simp)
  have sW_4 : w1.heap.size < w4.heap.size := World.block_lt_of_cell? _ _ cW_0_4
  have cX_0_4 : w4.cell? ⟨w2.heap.size, 0, none⟩ = some (.int .u64 18446744073709551615) := pw_cell_below hb (by go_simp)
  have cX_1_4 : w4.cell? ⟨w2.heap.size, 1, none⟩ = some (.int .u64 18446744073709551615) := pw_cell_below hb (by go_simp)
  have sX_4 : w2.heap.size < w4.heap.size := World.block_lt_of_cell? _ _ cX_0_4
  have cZ_0_4 : w4.cell? ⟨w3.heap.size, 0, none⟩ = some (.int .u64 18446744073709551615) := pw_cell_below hb (by go_simp)
  have cZ_1_4 : w4.cell? ⟨w3.heap.size, 1, none⟩ = some (.int .u64 0) := pw_cell_below hb (by go_simp)
  have sZ_4 : w3.heap.size < w4.heap.size := World.block_lt_of_cell? _ _ cZ_0_4
  clear hb cW_0_3 cW_1_3 sW_3 cX_0_3 cX_1_3 sX_3
  go_wp2_with fail
  refine (at_k 0 0 0 0 false _ (by decide +kernel)).mono ?_
  rintro e w5 ⟨rfl, hb⟩
  have HB5 : Below w.heap.size w w5 := below_step (by repeat (first | exact HB4 | (refine Below.alloc ?_ (by first | exact Nat.le_refl _ | (have := HB4.size; simp; omega) | (simp; omega)) _) | apply below_alloc | apply below_drew1 | apply pw_below_drewN | refine Below.setCell ?_ (by show w.heap.size ≤ w1.heap.size; omega) _ | refine Below.setCell ?_ (by show w.heap.size ≤ w2.heap.size; omega) _ | refine Below.setCell ?_ (by show w.heap.size ≤ w3.heap.size; omega) _)) hb
  have cW_0_5 : w5.cell? ⟨w1.heap.size, 0, none⟩ = some (.int .u64 18446744073709551613) := pw_cell_below hb (by go_simp)
  have cW_1_5 : w5.cell? ⟨w1.heap.size, 1, none⟩ = some (.int .u64 6) := pw_cell_below hb (by go_simp)
  have sW_5 : w1.heap.size < w5.heap.size := World.block_lt_of_cell? _ _ cW_0_5
  have cX_0_5 : w5.cell? ⟨w2.heap.size, 0, none⟩ = some (.int .u64 18446744073709551615) := pw_cell_below hb (by go_simp)
  have cX_1_5 : w5.cell? ⟨w2.heap.size, 1, none⟩ = some (.int .u64 18446744073709551615) := pw_cell_below hb (by go_simp)
  have sX_5 : w2.heap.size < w5.heap.size := World.block_lt_of_cell? _ _ cX_0_5
  have cZ_0_5 : w5.cell? ⟨w3.heap.size, 0, none⟩ = some (.int .u64 18446744073709551615) := pw_cell_below hb (by go_simp)
  have cZ_1_5 : w5.cell? ⟨w3.heap.size, 1, none⟩ = some (.int .u64 0) := pw_cell_below hb (by go_simp)
  have sZ_5 : w3.heap.size < w5.heap.size := World.block_lt_of_cell? _ _ cZ_0_5
  clear hb cW_0_4 cW_1_4 sW_4 cX_0_4 cX_1_4 sX_4 cZ_0_4 cZ_1_4 sZ_4
  go_wp2_with fail
  refine (and_k 18446744073709551613 6 18446744073709551615 18446744073709551615 18446744073709551615 6 _ (by decide +kernel)).mono ?_
  rintro e w6 ⟨rfl, hb⟩
  have HB6 : Below w.heap.size w w6 := below_step (by repeat (first | exact HB5 | (refine Below.alloc ?_ (by first | exact Nat.le_refl _ | (have := HB5.size; simp; omega) | (simp; omega)) _) | apply below_alloc | apply below_drew1 | apply pw_below_drewN | refine Below.setCell ?_ (by show w.heap.size ≤ w1.heap.size; omega) _ | refine Below.setCell ?_ (by show w.heap.size ≤ w2.heap.size; omega) _ | refine Below.setCell ?_ (by show w.heap.size ≤ w3.heap.size; omega) _)) hb
  have cW_0_6 : w6.cell? ⟨w1.heap.size, 0, none⟩ = some (.int .u64 18446744073709551613) := pw_cell_below hb (by go_simp)
  have cW_1_6 : w6.cell? ⟨w1.heap.size, 1, none⟩ = some (.int .u64 6) := pw_cell_below hb (by go_simp)
  have sW_6 : w1.heap.size < w6.heap.size := World.block_lt_of_cell? _ _ cW_0_6
  have cX_0_6 : w6.cell? ⟨w2.heap.size, 0, none⟩ = some (.int .u64 18446744073709551615) := pw_cell_below hb (by go_simp)
  have cX_1_6 : w6.cell? ⟨w2.heap.size, 1, none⟩ = some (.int .u64 18446744073709551615) := pw_cell_below hb (by go_simp)
  have sX_6 : w2.heap.size < w6.heap.size := World.block_lt_of_cell? _ _ cX_0_6
  have cZ_0_6 : w6.cell? ⟨w3.heap.size, 0, none⟩ = some (.int .u64 18446744073709551615) := pw_cell_below hb (by go_simp)
  have cZ_1_6 : w6.cell? ⟨w3.heap.size, 1, none⟩ = some (.int .u64 0) := pw_cell_below hb (by go_simp)
  have sZ_6 : w3.heap.size < w6.heap.size := World.block_lt_of_cell? _ _ cZ_0_6
  clear hb cW_0_5 cW_1_5 sW_5 cX_0_5 cX_1_5 sX_5 cZ_0_5 cZ_1_5 sZ_5
  go_wp2_with fail
  refine (row_k 18446744073709551615 6 0 2 2 _ (by decide +kernel) (by decide +kernel) (by decide +kernel) (by omega) (by omega) (by decide +kernel)).mono ?_
  rintro e w7 ⟨rfl, hb⟩
  have HB7 : Below w.heap.size w w7 := below_step (by repeat (first | exact HB6 | (refine Below.alloc ?_ (by first | exact Nat.le_refl _ | (have := HB6.size; simp; omega) | (simp; omega)) _) | apply below_alloc | apply below_drew1 | apply pw_below_drewN | refine Below.setCell ?_ (by show w.heap.size ≤ w1.heap.size; omega) _ | refine Below.setCell ?_ (by show w.heap.size ≤ w2.heap.size; omega) _ | refine Below.setCell ?_ (by show w.heap.size ≤ w3.heap.size; omega) _)) hb
  have cW_0_7 : w7.cell? ⟨w1.heap.size, 0, none⟩ = some (.int .u64 18446744073709551613) := pw_cell_below hb (by go_simp)
  have cW_1_7 : w7.cell? ⟨w1.heap.size, 1, none⟩ = some (.int .u64 6) := pw_cell_below hb (by go_simp)
  have sW_7 : w1.heap.size < w7.heap.size := World.block_lt_of_cell? _ _ cW_0_7
  have cX_0_7 : w7.cell? ⟨w2.heap.size, 0, none⟩ = some (.int .u64 18446744073709551615) := pw_cell_below hb (by go_simp)
  have cX_1_7 : w7.cell? ⟨w2.heap.size, 1, none⟩ = some (.int .u64 18446744073709551615) := pw_cell_below hb (by go_simp)
  have sX_7 : w2.heap.size < w7.heap.size := World.block_lt_of_cell? _ _ cX_0_7
  have cZ_0_7 : w7.cell? ⟨w3.heap.size, 0, none⟩ = some (.int .u64 18446744073709551615) := pw_cell_below hb (by go_simp)
  have cZ_1_7 : w7.cell? ⟨w3.heap.size, 1, none⟩ = some (.int .u64 0) := pw_cell_below hb (by go_simp)
  have sZ_7 : w3.heap.size < w7.heap.size := World.block_lt_of_cell? _ _ cZ_0_7
  clear hb cW_0_6 cW_1_6 sW_6 cX_0_6 cX_1_6 sX_6 cZ_0_6 cZ_1_6 sZ_6
  go_wp2_with fail
  refine (not_k 18446744073709551613 6 6 18446744073709551613 _ (by decide +kernel)).mono ?_
  rintro e w8 ⟨rfl, hb⟩
  have HB8 : Below w.heap.size w w8 := below_step (by repeat (first | exact HB7 | (refine Below.alloc ?_ (by first | exact Nat.le_refl _ | (have := HB7.size; simp; omega) | (simp; omega)) _) | apply below_alloc | apply below_drew1 | apply pw_below_drewN | refine Below.setCell ?_ (by show w.heap.size ≤ w1.heap.size; omega) _ | refine Below.setCell ?_ (by show w.heap.size ≤ w2.heap.size; omega) _ | refine Below.setCell ?_ (by show w.heap.size ≤ w3.heap.size; omega) _)) hb
  have cW_0_8 : w8.cell? ⟨w1.heap.size, 0, none⟩ = some (.int .u64 18446744073709551613) := pw_cell_below hb (by go_simp)
  have cW_1_8 : w8.cell? ⟨w1.heap.size, 1, none⟩ = some (.int .u64 6) := pw_cell_below hb (by go_simp)
  have sW_8 : w1.heap.size < w8.heap.size := World.block_lt_of_cell? _ _ cW_0_8
  have cX_0_8 : w8.cell? ⟨w2.heap.size, 0, none⟩ = some (.int .u64 18446744073709551615) := pw_cell_below hb (by go_simp)
  have cX_1_8 : w8.cell? ⟨w2.heap.size, 1, none⟩ = some (.int .u64 18446744073709551615) := pw_cell_below hb (by go_simp)
  have sX_8 : w2.heap.size < w8.heap.size := World.block_lt_of_cell? _ _ cX_0_8
  have cZ_0_8 : w8.cell? ⟨w3.heap.size, 0, none⟩ = some (.int .u64 18446744073709551615) := pw_cell_below hb (by go_simp)
  have cZ_1_8 : w8.cell? ⟨w3.heap.size, 1, none⟩ = some (.int .u64 0) := pw_cell_below hb (by go_simp)
  have sZ_8 : w3.heap.size < w8.heap.size := World.block_lt_of_cell? _ _ cZ_0_8
  clear hb cW_0_7 cW_1_7 sW_7 cX_0_7 cX_1_7 sX_7 cZ_0_7 cZ_1_7 sZ_7
  go_wp2_with fail
  refine (row_k 6 18446744073709551613 1 0 2 _ (by decide +kernel) (by decide +kernel) (by decide +kernel) (by omega) (by omega) (by decide +kernel)).mono ?_
  rintro e w9 ⟨rfl, hb⟩
  have HB9 : Below w.heap.size w w9 := below_step (by repeat (first | exact HB8 | (refine Below.alloc ?_ (by first | exact Nat.le_refl _ | (have := HB8.size; simp; omega) | (simp; omega)) _) | apply below_alloc | apply below_drew1 | apply pw_below_drewN | refine Below.setCell ?_ (by show w.heap.size ≤ w1.heap.size; omega) _ | refine Below.setCell ?_ (by show w.heap.size ≤ w2.heap.size; omega) _ | refine Below.setCell ?_ (by show w.heap.size ≤ w3.heap.size; omega) _)) hb
  have cW_0_9 : w9.cell? ⟨w1.heap.size, 0, none⟩ = some (.int .u64 18446744073709551613) := pw_cell_below hb (by go_simp)
  have cW_1_9 : w9.cell? ⟨w1.heap.size, 1, none⟩ = some (.int .u64 6) := pw_cell_below hb (by go_simp)
  have sW_9 : w1.heap.size < w9.heap.size := World.block_lt_of_cell? _ _ cW_0_9
  have cX_0_9 : w9.cell? ⟨w2.heap.size, 0, none⟩ = some (.int .u64 18446744073709551615) := pw_cell_below hb (by go_simp)
  have cX_1_9 : w9.cell? ⟨w2.heap.size, 1, none⟩ = some (.int .u64 18446744073709551615) := pw_cell_below hb (by go_simp)
  have sX_9 : w2.heap.size < w9.heap.size := World.block_lt_of_cell? _ _ cX_0_9
  have cZ_0_9 : w9.cell? ⟨w3.heap.size, 0, none⟩ = some (.int .u64 18446744073709551615) := pw_cell_below hb (by go_simp)
  have cZ_1_9 : w9.cell? ⟨w3.heap.size, 1, none⟩ = some (.int .u64 0) := pw_cell_below hb (by go_simp)
  have sZ_9 : w3.heap.size < w9.heap.size := World.block_lt_of_cell? _ _ cZ_0_9
  clear hb cW_0_8 cW_1_8 sW_8 cX_0_8 cX_1_8 sX_8 cZ_0_8 cZ_1_8 sZ_8
  go_wp2_with fail
  refine (within_k 18446744073709551615 0 18446744073709551615 18446744073709551615 18446744073709551615 _ (by decide +kernel)).mono ?_
  rintro e w10 ⟨rfl, hb⟩
  have HB10 : Below w.heap.size w w10 := below_step (by repeat (first | exact HB9 | (refine Below.alloc ?_ (by first | exact Nat.le_refl _ | (have := HB9.size; simp; omega) | (simp; omega)) _) | apply below_alloc | apply below_drew1 | apply pw_below_drewN | refine Below.setCell ?_ (by show w.heap.size ≤ w1.heap.size; omega) _ | refine Below.setCell ?_ (by show w.heap.size ≤ w2.heap.size; omega) _ | refine Below.setCell ?_ (by show w.heap.size ≤ w3.heap.size; omega) _)) hb
  have cW_0_10 : w10.cell? ⟨w1.heap.size, 0, none⟩ = some (.int .u64 18446744073709551613) := pw_cell_below hb (by go_simp)
  have cW_1_10 : w10.cell? ⟨w1.heap.size, 1, none⟩ = some (.int .u64 6) := pw_cell_below hb (by go_simp)
  have sW_10 : w1.heap.size < w10.heap.size := World.block_lt_of_cell? _ _ cW_0_10
  have cX_0_10 : w10.cell? ⟨w2.heap.size, 0, none⟩ = some (.int .u64 18446744073709551615) := pw_cell_below hb (by go_simp)
  have cX_1_10 : w10.cell? ⟨w2.heap.size, 1, none⟩ = some (.int .u64 18446744073709551615) := pw_cell_below hb (by go_simp)
  have sX_10 : w2.heap.size < w10.heap.size := World.block_lt_of_cell? _ _ cX_0_10
  have cZ_0_10 : w10.cell? ⟨w3.heap.size, 0, none⟩ = some (.int .u64 18446744073709551615) := pw_cell_below hb (by go_simp)
  have cZ_1_10 : w10.cell? ⟨w3.heap.size, 1, none⟩ = some (.int .u64 0) := pw_cell_below hb (by go_simp)
  have sZ_10 : w3.heap.size < w10.heap.size := World.block_lt_of_cell? _ _ cZ_0_10
  clear hb cW_0_9 cW_1_9 sW_9 cX_0_9 cX_1_9 sX_9 cZ_0_9 cZ_1_9 sZ_9
  go_wp2_with fail
  refine (and1_k 0 2 0 _ (by decide +kernel)).mono ?_
  rintro e w11 ⟨rfl, hb⟩
  have HB11 : Below w.heap.size w w11 := below_step (by repeat (first | exact HB10 | (refine Below.alloc ?_ (by first | exact Nat.le_refl _ | (have := HB10.size; simp; omega) | (simp; omega)) _) | apply below_alloc | apply below_drew1 | apply pw_below_drewN | refine Below.setCell ?_ (by show w.heap.size ≤ w1.heap.size; omega) _ | refine Below.setCell ?_ (by show w.heap.size ≤ w2.heap.size; omega) _ | refine Below.setCell ?_ (by show w.heap.size ≤ w3.heap.size; omega) _)) hb
  have cW_0_11 : w11.cell? ⟨w1.heap.size, 0, none⟩ = some (.int .u64 18446744073709551613) := pw_cell_below hb (by go_simp)
  have cW_1_11 : w11.cell? ⟨w1.heap.size, 1, none⟩ = some (.int .u64 6) := pw_cell_below hb (by go_simp)
  have sW_11 : w1.heap.size < w11.heap.size := World.block_lt_of_cell? _ _ cW_0_11
  have cX_0_11 : w11.cell? ⟨w2.heap.size, 0, none⟩ = some (.int .u64 18446744073709551615) := pw_cell_below hb (by go_simp)
  have cX_1_11 : w11.cell? ⟨w2.heap.size, 1, none⟩ = some (.int .u64 18446744073709551615) := pw_cell_below hb (by go_simp)
  have sX_11 : w2.heap.size < w11.heap.size := World.block_lt_of_cell? _ _ cX_0_11
  have cZ_0_11 : w11.cell? ⟨w3.heap.size, 0, none⟩ = some (.int .u64 18446744073709551615) := pw_cell_below hb (by go_simp)
  have cZ_1_11 : w11.cell? ⟨w3.heap.size, 1, none⟩ = some (.int .u64 0) := pw_cell_below hb (by go_simp)
  have sZ_11 : w3.heap.size < w11.heap.size := World.block_lt_of_cell? _ _ cZ_0_11
  clear hb cW_0_10 cW_1_10 sW_10 cX_0_10 cX_1_10 sX_10 cZ_0_10 cZ_1_10 sZ_10
  go_wp2_with fail
  refine (and1_k 1 2 2 _ (by decide +kernel)).mono ?_
  rintro e w12 ⟨rfl, hb⟩
  have HB12 : Below w.heap.size w w12 := below_step (by repeat (first | exact HB11 | (refine Below.alloc ?_ (by first | exact Nat.le_refl _ | (have := HB11.size; simp; omega) | (simp; omega)) _) | apply below_alloc | apply below_drew1 | apply pw_below_drewN | refine Below.setCell ?_ (by show w.heap.size ≤ w1.heap.size; omega) _ | refine Below.setCell ?_ (by show w.heap.size ≤ w2.heap.size; omega) _ | refine Below.setCell ?_ (by show w.heap.size ≤ w3.heap.size; omega) _)) hb
  have cW_0_12 : w12.cell? ⟨w1.heap.size, 0, none⟩ = some (.int .u64 18446744073709551613) := pw_cell_below hb (by go_simp)
  have cW_1_12 : w12.cell? ⟨w1.heap.size, 1, none⟩ = some (.int .u64 6) := pw_cell_below hb (by go_simp)
  have sW_12 : w1.heap.size < w12.heap.size := World.block_lt_of_cell? _ _ cW_0_12
  have cX_0_12 : w12.cell? ⟨w2.heap.size, 0, none⟩ = some (.int .u64 18446744073709551615) := pw_cell_below hb (by go_simp)
  have cX_1_12 : w12.cell? ⟨w2.heap.size, 1, none⟩ = some (.int .u64 18446744073709551615) := pw_cell_below hb (by go_simp)
  have sX_12 : w2.heap.size < w12.heap.size := World.block_lt_of_cell? _ _ cX_0_12
  have cZ_0_12 : w12.cell? ⟨w3.heap.size, 0, none⟩ = some (.int .u64 18446744073709551615) := pw_cell_below hb (by go_simp)
  have cZ_1_12 : w12.cell? ⟨w3.heap.size, 1, none⟩ = some (.int .u64 0) := pw_cell_below hb (by go_simp)
  have sZ_12 : w3.heap.size < w12.heap.size := World.block_lt_of_cell? _ _ cZ_0_12
  clear hb cW_0_11 cW_1_11 sW_11 cX_0_11 cX_1_11 sX_11 cZ_0_11 cZ_1_11 sZ_11
  go_wp2_with fail
  go_ret
  exact ⟨rfl, by repeat (first | exact HB12 | apply below_alloc)⟩


def inquestlaw06_lives.f : Option (Bool) := some true
theorem inquestlaw06_lives.calls (r : Bool) (w : World) (h : inquestlaw06_lives.f = some r) :
    Calls Try.prog 12 #[] w fun e w' => e = .returned (.bool r) ∧ Below w.heap.size w w' := by
  obtain rfl := Option.some.inj h
  exact lives06 w
end Go.Proofs.Ythpnooookkpkaaa.F
namespace Go.Proofs.Ythpnooookkpkaaa.T
open Go.RowKit Go.Proofs.Ythpnooookkpkaaa.F Go.Proofs.YthpnooookkpkaaaW.PrintWords Go.Proofs.YthpnooookkpkaaaW.PrintMore

theorem lives_is : inquestlaw06_lives.f = some true := rfl
theorem nat_of_u64 {n : Int} (h : (Lit.int .u64 n).wf = true) : ∃ m : Nat, n = m ∧ m < 2 ^ 64 := by
  have h1 : IntKind.u64.min ≤ n ∧ n ≤ IntKind.u64.max := by simpa [Lit.wf] using h
  simp [IntKind.min, IntKind.max, IntKind.signed, IntKind.bits] at h1
  exact ⟨n.toNat, by omega, by omega⟩
theorem u8_of {n : Int} (h : (Lit.int .u8 n).wf = true) : 0 ≤ n ∧ n < 256 := by
  have h1 : IntKind.u8.min ≤ n ∧ n ≤ IntKind.u8.max := by simpa [Lit.wf] using h
  simp [IntKind.min, IntKind.max, IntKind.signed, IntKind.bits] at h1
  omega
end Go.Proofs.Ythpnooookkpkaaa.T
/- A function of the program as a plain Lean function, and that the machine's call comes to it: written by a program of this session over the kit's print. -/
namespace Go.Proofs.Ythpnooookkpkaaa.F
open Go.RowKit Go.Proofs.YthpnooookkpkaaaW.PrintWords Go.Proofs.YthpnooookkpkaaaW.PrintLast Go.Proofs.YthpnooookkpkaaaW.PrintMore
attribute [local go_sem] max2_int min2_int max_two min_two max_three min_three max_four min_four   -- for this text's walks alone
set_option linter.unusedVariables false
set_option linter.unusedSimpArgs false

theorem eqA24 (d : Nat) (w : World) (x0 y0 : Int) (x1 y1 : Int) :
    (Op.equalIn (d + 2) 24 (.agg #[.int .u64 x0, .int .u64 x1]) (.agg #[.int .u64 y0, .int .u64 y1])).run Try.prog w = .ok (x0 == y0 && (x1 == y1)) w := by
  refine eqA_of Try.underlying24 (by kernel_rfl) ?_
  refine eqf_cons (by rfl) (by go_simp; rfl) (by go_simp; rfl) (by go_simp) ?_
  exact eqf_last (by rfl) (by go_simp; rfl) (by go_simp; rfl) (by go_simp)
end Go.Proofs.Ythpnooookkpkaaa.F
/- A function of the program as a plain Lean function, and that the machine's call comes to it: written by a program of this session over the kit's print. -/
namespace Go.Proofs.Ythpnooookkpkaaa.F
open Go.RowKit Go.Proofs.YthpnooookkpkaaaW.PrintWords Go.Proofs.YthpnooookkpkaaaW.PrintLast Go.Proofs.YthpnooookkpkaaaW.PrintMore
attribute [local go_sem] max2_int min2_int max_two min_two max_three min_three max_four min_four   -- for this text's walks alone
set_option linter.unusedVariables false
set_option linter.unusedSimpArgs false

attribute [local go_sem high] eqA24
/-! ### inquestlaw06_TernWithin: function 3 -/
mutual
def inquestlaw06_TernWithin.j0 : Nat → Bool → Int → Int → Int → Int → Int → Int → Int → Int → Option (Bool)
  | 0, _, _, _, _, _, _, _, _, _ => none
  | k + 1, x34, x102000, x102001, x103000, x103001, x104000, x104001, x105000, x105001 => if x34 = true then ((inquestlaw06_lives.f).bind fun t109 => (some t109)) else ((tern_Within.f x102000 x102001 x103000 x103001).bind fun t110 => ((tern_Within.f x104000 x104001 x105000 x105001).bind fun t111 => ((tern_Not.f x102000 x102001).bind fun bt112 => ((tern_Not.f x103000 x103001).bind fun bt114 => ((tern_Within.f bt112.1 bt112.2 bt114.1 bt114.2).bind fun t116 => (if (Go.bits .andNot .u64 t110 t116) = 0 then ((tern_And.f x102000 x102001 x104000 x104001).bind fun bt117 => ((tern_And.f x103000 x103001 x105000 x105001).bind fun bt119 => ((tern_Within.f bt117.1 bt117.2 bt119.1 bt119.2).bind fun t121 => (inquestlaw06_TernWithin.j1 k t110 ((Go.bits .andNot .u64 (Go.bits .and .u64 t110 t111) t121) != 0) x102000 x102001 x103000 x103001)))) else (inquestlaw06_TernWithin.j1 k t110 true x102000 x102001 x103000 x103001)))))))
def inquestlaw06_TernWithin.j1 : Nat → Int → Bool → Int → Int → Int → Int → Option (Bool)
  | 0, _, _, _, _, _, _ => none
  | k + 1, x9, x63, x102000, x102001, x103000, x103001 => if x63 = true then (some false) else ((tern_Within.f x103000 x103001 x102000 x102001).bind fun t122 => (inquestlaw06_TernWithin.l0 k (Go.bits .and .u64 x9 t122) 0 x102000 x102001 x103000 x103001))
def inquestlaw06_TernWithin.l0 : Nat → Int → Int → Int → Int → Int → Int → Option (Bool)
  | 0, _, _, _, _, _, _ => none
  | k + 1, x11, x12, x102000, x102001, x103000, x103001 => if x12 < 64 then ((tern_At.f x102000 x102001 x12).bind fun bt123 => ((tern_At.f x103000 x103001 x12).bind fun bt125 => (if 0 ≤ (IntKind.u64.wrap (x12)) then (if (Go.bits .and .u64 (shr .u64 x11 (IntKind.u64.wrap (x12))) 1) = 1 then (if bt123.1 = bt125.1 then (inquestlaw06_TernWithin.l0 k x11 (wrap64 (x12 + 1)) x102000 x102001 x103000 x103001) else (some false)) else (inquestlaw06_TernWithin.l0 k x11 (wrap64 (x12 + 1)) x102000 x102001 x103000 x103001)) else (none)))) else ((tern_Within.f x102000 x102001 x102000 x102001).bind fun t127 => (if t127 = 18446744073709551615 then ((tern_Not.f x102000 x102001).bind fun bt128 => ((tern_Not.f bt128.1 bt128.2).bind fun bt130 => (if (bt130.1 == x102000 && (bt130.2 == x102001)) = true then ((inquestlaw06_lives.f).bind fun t132 => (some t132)) else (some false)))) else (some false)))
end
def inquestlaw06_TernWithin.f (k : Nat) (a0_0 : Int) (a0_1 : Int) (a1_0 : Int) (a1_1 : Int) (a2_0 : Int) (a2_1 : Int) (a3_0 : Int) (a3_1 : Int) : Option (Bool) := (tern_May.f a0_0 a0_1).bind fun t105 => (if t105 = true then ((tern_May.f a1_0 a1_1).bind fun t106 => (if t106 = true then ((tern_May.f a2_0 a2_1).bind fun t107 => (if t107 = true then ((tern_May.f a3_0 a3_1).bind fun t108 => (inquestlaw06_TernWithin.j0 k (!t108) a0_0 a0_1 a1_0 a1_1 a2_0 a2_1 a3_0 a3_1)) else (inquestlaw06_TernWithin.j0 k true a0_0 a0_1 a1_0 a1_1 a2_0 a2_1 a3_0 a3_1))) else (inquestlaw06_TernWithin.j0 k true a0_0 a0_1 a1_0 a1_1 a2_0 a2_1 a3_0 a3_1))) else (inquestlaw06_TernWithin.j0 k true a0_0 a0_1 a1_0 a1_1 a2_0 a2_1 a3_0 a3_1))
theorem inquestlaw06_TernWithin.mono_l : ∀ k, (∀ y0 y1 y2 y3 y4 y5 y6 y7 y8, LeO (inquestlaw06_TernWithin.j0 k y0 y1 y2 y3 y4 y5 y6 y7 y8) (inquestlaw06_TernWithin.j0 (k + 1) y0 y1 y2 y3 y4 y5 y6 y7 y8)) ∧ (∀ y0 y1 y2 y3 y4 y5, LeO (inquestlaw06_TernWithin.j1 k y0 y1 y2 y3 y4 y5) (inquestlaw06_TernWithin.j1 (k + 1) y0 y1 y2 y3 y4 y5)) ∧ (∀ y0 y1 y2 y3 y4 y5, LeO (inquestlaw06_TernWithin.l0 k y0 y1 y2 y3 y4 y5) (inquestlaw06_TernWithin.l0 (k + 1) y0 y1 y2 y3 y4 y5))
  | 0 => ⟨fun _ _ _ _ _ _ _ _ _ r h => by simp [inquestlaw06_TernWithin.j0] at h, fun _ _ _ _ _ _ r h => by simp [inquestlaw06_TernWithin.j1] at h, fun _ _ _ _ _ _ r h => by simp [inquestlaw06_TernWithin.l0] at h⟩
  | k + 1 => by
    obtain ⟨ih0, ih1, ih2⟩ := inquestlaw06_TernWithin.mono_l k
    refine ⟨?_, ?_, ?_⟩
    · intro y0 y1 y2 y3 y4 y5 y6 y7 y8
      unfold inquestlaw06_TernWithin.j0
      repeat' first
      | (with_reducible exact ih0 _ _ _ _ _ _ _ _ _)
      | (with_reducible exact ih1 _ _ _ _ _ _)
      | (with_reducible exact ih2 _ _ _ _ _ _)
      | (with_reducible exact LeO.refl _)
      | (with_reducible exact LeO.none _)
      | (with_reducible refine LeO.ite ?_ ?_)
      | (with_reducible refine LeO.bind ?_ (fun _ => ?_))
      | exact ih0 _ _ _ _ _ _ _ _ _
      | exact ih1 _ _ _ _ _ _
      | exact ih2 _ _ _ _ _ _
      | exact LeO.none _
      | refine LeO.ite ?_ ?_
      | refine LeO.bind ?_ (fun _ => ?_)
    · intro y0 y1 y2 y3 y4 y5
      unfold inquestlaw06_TernWithin.j1
      repeat' first
      | (with_reducible exact ih0 _ _ _ _ _ _ _ _ _)
      | (with_reducible exact ih1 _ _ _ _ _ _)
      | (with_reducible exact ih2 _ _ _ _ _ _)
      | (with_reducible exact LeO.refl _)
      | (with_reducible exact LeO.none _)
      | (with_reducible refine LeO.ite ?_ ?_)
      | (with_reducible refine LeO.bind ?_ (fun _ => ?_))
      | exact ih0 _ _ _ _ _ _ _ _ _
      | exact ih1 _ _ _ _ _ _
      | exact ih2 _ _ _ _ _ _
      | exact LeO.none _
      | refine LeO.ite ?_ ?_
      | refine LeO.bind ?_ (fun _ => ?_)
    · intro y0 y1 y2 y3 y4 y5
      unfold inquestlaw06_TernWithin.l0
      repeat' first
      | (with_reducible exact ih0 _ _ _ _ _ _ _ _ _)
      | (with_reducible exact ih1 _ _ _ _ _ _)
      | (with_reducible exact ih2 _ _ _ _ _ _)
      | (with_reducible exact LeO.refl _)
      | (with_reducible exact LeO.none _)
      | (with_reducible refine LeO.ite ?_ ?_)
      | (with_reducible refine LeO.bind ?_ (fun _ => ?_))
      | exact ih0 _ _ _ _ _ _ _ _ _
      | exact ih1 _ _ _ _ _ _
      | exact ih2 _ _ _ _ _ _
      | exact LeO.none _
      | refine LeO.ite ?_ ?_
      | refine LeO.bind ?_ (fun _ => ?_)
theorem inquestlaw06_TernWithin.mono : ∀ a0 a1 a2 a3 a4 a5 a6 a7 k, LeO (inquestlaw06_TernWithin.f k a0 a1 a2 a3 a4 a5 a6 a7) (inquestlaw06_TernWithin.f (k + 1) a0 a1 a2 a3 a4 a5 a6 a7) := by
  intro a0 a1 a2 a3 a4 a5 a6 a7 k
  obtain ⟨ih0, ih1, ih2⟩ := inquestlaw06_TernWithin.mono_l k
  unfold inquestlaw06_TernWithin.f
  repeat' first
      | (with_reducible exact ih0 _ _ _ _ _ _ _ _ _)
      | (with_reducible exact ih1 _ _ _ _ _ _)
      | (with_reducible exact ih2 _ _ _ _ _ _)
      | (with_reducible exact LeO.refl _)
      | (with_reducible exact LeO.none _)
      | (with_reducible refine LeO.ite ?_ ?_)
      | (with_reducible refine LeO.bind ?_ (fun _ => ?_))
      | exact ih0 _ _ _ _ _ _ _ _ _
      | exact ih1 _ _ _ _ _ _
      | exact ih2 _ _ _ _ _ _
      | exact LeO.none _
      | refine LeO.ite ?_ ?_
      | refine LeO.bind ?_ (fun _ => ?_)
def inquestlaw06_TernWithin.T3 : Bool × List (List Nat × List Nat) := (true, [([], []), ([], []), ([0, 1], [0, 1]), ([], []), ([], []), ([3, 4, 2], [3, 4]), ([2, 5, 0, 1, 2], [2]), ([5, 6, 0, 1, 2, 3, 4, 5, 6], [5])])
def inquestlaw06_TernWithin.B3 : List Nat := [0, 0, 3, 0, 0, 31, 63, 127]
theorem inquestlaw06_TernWithin.tab3 : rtab .any (opsOf Try.f3 3) = inquestlaw06_TernWithin.T3 := by kernel_rfl
theorem inquestlaw06_TernWithin.bits3 : waitsOk inquestlaw06_TernWithin.T3.2 inquestlaw06_TernWithin.B3 = true := by kernel_rfl
def inquestlaw06_TernWithin.T4 : Bool × List (List Nat × List Nat) := (true, [([], []), ([], []), ([1], [1]), ([], []), ([3, 2], [3]), ([2, 4, 4], [2, 4]), ([0, 5], [0, 5]), ([6], [6]), ([7, 5], [7]), ([8], [8]), ([8], [8]), ([9, 10, 8], [8, 9, 10]), ([8], [8]), ([8], [8]), ([12, 13, 8, 8], [8, 12, 13]), ([8], [8]), ([8], [8]), ([15, 16, 14, 8], [8, 15, 16]), ([14, 17, 17, 8], [8, 14, 17]), ([11, 18, 8], [8, 11, 18]), ([19, 8], [8, 19]), ([8, 20], [8, 20])])
def inquestlaw06_TernWithin.B4 : List Nat := [0, 0, 2, 0, 14, 30, 63, 127, 255, 511, 511, 2047, 511, 511, 12799, 511, 511, 127487, 258559, 524287, 1048575, 2097151]
theorem inquestlaw06_TernWithin.tab4 : rtab .any (opsOf Try.f3 4) = inquestlaw06_TernWithin.T4 := by kernel_rfl
theorem inquestlaw06_TernWithin.bits4 : waitsOk inquestlaw06_TernWithin.T4.2 inquestlaw06_TernWithin.B4 = true := by kernel_rfl
def inquestlaw06_TernWithin.T14 : Bool × List (List Nat × List Nat) := (true, [([], []), ([], []), ([0, 1], [0, 1]), ([2], [2]), ([3, 2], [3]), ([4], [4]), ([5, 4, 4], [4, 5]), ([6, 6, 4], [4, 6]), ([4], [4]), ([7, 8, 4], [4, 7, 8]), ([4, 9], [4, 9]), ([10, 7], [10]), ([11, 11], [11]), ([11, 12], [11, 12]), ([13, 12, 0, 1, 2, 3, 4, 5, 6, 7, 8, 9, 10, 11, 12, 13], [13])])
def inquestlaw06_TernWithin.B14 : List Nat := [0, 0, 3, 7, 15, 31, 63, 127, 31, 511, 1023, 2047, 4095, 8191, 16383]
theorem inquestlaw06_TernWithin.tab14 : rtab .any (opsOf Try.f3 14) = inquestlaw06_TernWithin.T14 := by kernel_rfl
theorem inquestlaw06_TernWithin.bits14 : waitsOk inquestlaw06_TernWithin.T14.2 inquestlaw06_TernWithin.B14 = true := by kernel_rfl
set_option maxHeartbeats 8000000 in
set_option maxRecDepth 100000 in
theorem inquestlaw06_TernWithin.calls (k : Nat) (a0_0 : Int) (a0_1 : Int) (a1_0 : Int) (a1_1 : Int) (a2_0 : Int) (a2_1 : Int) (a3_0 : Int) (a3_1 : Int) (r : Bool) (w : World) (hrt : Aside0 (r = true)) (h : inquestlaw06_TernWithin.f k a0_0 a0_1 a1_0 a1_1 a2_0 a2_1 a3_0 a3_1 = some r) :
    Calls Try.prog 3 #[.agg #[.int .u64 a0_0, .int .u64 a0_1], .agg #[.int .u64 a1_0, .int .u64 a1_1], .agg #[.int .u64 a2_0, .int .u64 a2_1], .agg #[.int .u64 a3_0, .int .u64 a3_1]] w fun e w' => e = .returned (.bool r) ∧ Below w.heap.size w w' := by
  have hu24 := Try.underlying24
  have HB := Aside0.mk (Below.refl w.heap.size w)
  have H : ((tern_May.f a0_0 a0_1).bind fun t105 => (if t105 = true then ((tern_May.f a1_0 a1_1).bind fun t106 => (if t106 = true then ((tern_May.f a2_0 a2_1).bind fun t107 => (if t107 = true then ((tern_May.f a3_0 a3_1).bind fun t108 => (inquestlaw06_TernWithin.j0 k (!t108) a0_0 a0_1 a1_0 a1_1 a2_0 a2_1 a3_0 a3_1)) else (inquestlaw06_TernWithin.j0 k true a0_0 a0_1 a1_0 a1_1 a2_0 a2_1 a3_0 a3_1))) else (inquestlaw06_TernWithin.j0 k true a0_0 a0_1 a1_0 a1_1 a2_0 a2_1 a3_0 a3_1))) else (inquestlaw06_TernWithin.j0 k true a0_0 a0_1 a1_0 a1_1 a2_0 a2_1 a3_0 a3_1))) = some r := h
  clear h
  have HC5 := Aside0.mk H
  clear H
  go_enter Try.func3, Try.ntmps3
  go_upto_region 1 with (first | ((with_reducible refine gate_dst (N := 4) rfl ?_); refine box_event ?hg (N := 4) ?hd (cs := #[.int .u64 a0_0, .int .u64 a0_1]) (t := 24) ?hr ?_; (case hd => rfl); (case hg => rfl); (case hr => first | (go_simp; done) | (go_simp; rfl)); intro gb101 hg w6 hbox hb; have n0_ := Aside0.mk (below_step (by repeat (first | (with_reducible first | exact HB.out | apply below_alloc | apply pw_below_drewN | apply below_drew1) | exact HB.out)) hb); have n1_ := Aside0.mk (hbox); have n2_ := Aside0.mk ((by rw [hg]; exact (below_size (by repeat (first | (with_reducible first | exact HB.out | apply below_alloc | apply pw_below_drewN | apply below_drew1) | exact HB.out))) : w.heap.size ≤ gb101)); have n3_ := Aside0.mk ((by rw [hg]; exact (below_size (by repeat (first | (with_reducible first | exact HB.out | apply below_alloc | apply pw_below_drewN | apply below_drew1) | exact HB.out))) : w.heap.size ≤ gb101)); clear HB; have HB := n0_; have BK101 := n1_; have GW101 := n2_; have GE101 := n3_; clear n0_ n1_ n2_ n3_; clear hb hbox hg) | ((with_reducible refine gate_dst (N := 5) rfl ?_); refine box_event ?hg (N := 5) ?hd (cs := #[.int .u64 a1_0, .int .u64 a1_1]) (t := 24) ?hr ?_; (case hd => rfl); (case hg => rfl); (case hr => first | (go_simp; done) | (go_simp; rfl)); intro gb102 hg w7 hbox hb; have n0_ := Aside0.mk (blk_below (g := gb101) (o := .cells #[.int .u64 a0_0, .int .u64 a0_1] 24 (0, 0)) (by (with_reducible repeat (first | refine blk_drewN ?_ _ | refine blk_drew ?_ | refine blk_alloc ?_ _)); exact BK101.out) hb); have n1_ := Aside0.mk (below_step (by repeat (first | (with_reducible first | exact HB.out | apply below_alloc | apply pw_below_drewN | apply below_drew1 | refine below_set ?_ GE101.out) | exact HB.out)) hb); have n2_ := Aside0.mk (hbox); have n3_ := Aside0.mk ((by rw [hg]; exact (below_size (by repeat (first | (with_reducible first | exact HB.out | apply below_alloc | apply pw_below_drewN | apply below_drew1 | refine below_set ?_ GE101.out) | exact HB.out))) : w.heap.size ≤ gb102)); have n4_ := Aside0.mk ((by rw [hg]; exact (below_size (by repeat (first | (with_reducible first | exact HB.out | apply below_alloc | apply pw_below_drewN | apply below_drew1 | refine below_set ?_ GE101.out) | exact HB.out))) : w.heap.size ≤ gb102)); have n5_ := Aside0.mk ((by rw [hg]; exact Nat.ne_of_lt (blk_lt (g := gb101) (o := .cells #[.int .u64 a0_0, .int .u64 a0_1] 24 (0, 0)) (by (with_reducible repeat (first | refine blk_drewN ?_ _ | refine blk_drew ?_ | refine blk_alloc ?_ _)); exact BK101.out)) : gb101 ≠ gb102)); have n6_ := Aside0.mk ((by rw [hg]; exact Nat.ne_of_gt (blk_lt (g := gb101) (o := .cells #[.int .u64 a0_0, .int .u64 a0_1] 24 (0, 0)) (by (with_reducible repeat (first | refine blk_drewN ?_ _ | refine blk_drew ?_ | refine blk_alloc ?_ _)); exact BK101.out)) : gb102 ≠ gb101)); clear BK101; clear HB; have BK101 := n0_; have HB := n1_; have BK102 := n2_; have GW102 := n3_; have GE102 := n4_; have NB101_102 := n5_; have NB102_101 := n6_; clear n0_ n1_ n2_ n3_ n4_ n5_ n6_; clear hb hbox hg) | ((with_reducible refine gate_dst (N := 6) rfl ?_); refine box_event ?hg (N := 6) ?hd (cs := #[.int .u64 a2_0, .int .u64 a2_1]) (t := 24) ?hr ?_; (case hd => rfl); (case hg => rfl); (case hr => first | (go_simp; done) | (go_simp; rfl)); intro gb103 hg w8 hbox hb; have n0_ := Aside0.mk (blk_below (g := gb101) (o := .cells #[.int .u64 a0_0, .int .u64 a0_1] 24 (0, 0)) (by (with_reducible repeat (first | refine blk_drewN ?_ _ | refine blk_drew ?_ | refine blk_alloc ?_ _)); exact BK101.out) hb); have n1_ := Aside0.mk (blk_below (g := gb102) (o := .cells #[.int .u64 a1_0, .int .u64 a1_1] 24 (0, 0)) (by (with_reducible repeat (first | refine blk_drewN ?_ _ | refine blk_drew ?_ | refine blk_alloc ?_ _)); exact BK102.out) hb); have n2_ := Aside0.mk (below_step (by repeat (first | (with_reducible first | exact HB.out | apply below_alloc | apply pw_below_drewN | apply below_drew1 | refine below_set ?_ GE101.out | refine below_set ?_ GE102.out) | exact HB.out)) hb); have n3_ := Aside0.mk (hbox); have n4_ := Aside0.mk ((by rw [hg]; exact (below_size (by repeat (first | (with_reducible first | exact HB.out | apply below_alloc | apply pw_below_drewN | apply below_drew1 | refine below_set ?_ GE101.out | refine below_set ?_ GE102.out) | exact HB.out))) : w.heap.size ≤ gb103)); have n5_ := Aside0.mk ((by rw [hg]; exact (below_size (by repeat (first | (with_reducible first | exact HB.out | apply below_alloc | apply pw_below_drewN | apply below_drew1 | refine below_set ?_ GE101.out | refine below_set ?_ GE102.out) | exact HB.out))) : w.heap.size ≤ gb103)); have n6_ := Aside0.mk ((by rw [hg]; exact Nat.ne_of_lt (blk_lt (g := gb101) (o := .cells #[.int .u64 a0_0, .int .u64 a0_1] 24 (0, 0)) (by (with_reducible repeat (first | refine blk_drewN ?_ _ | refine blk_drew ?_ | refine blk_alloc ?_ _)); exact BK101.out)) : gb101 ≠ gb103)); have n7_ := Aside0.mk ((by rw [hg]; exact Nat.ne_of_gt (blk_lt (g := gb101) (o := .cells #[.int .u64 a0_0, .int .u64 a0_1] 24 (0, 0)) (by (with_reducible repeat (first | refine blk_drewN ?_ _ | refine blk_drew ?_ | refine blk_alloc ?_ _)); exact BK101.out)) : gb103 ≠ gb101)); have n8_ := Aside0.mk ((by rw [hg]; exact Nat.ne_of_lt (blk_lt (g := gb102) (o := .cells #[.int .u64 a1_0, .int .u64 a1_1] 24 (0, 0)) (by (with_reducible repeat (first | refine blk_drewN ?_ _ | refine blk_drew ?_ | refine blk_alloc ?_ _)); exact BK102.out)) : gb102 ≠ gb103)); have n9_ := Aside0.mk ((by rw [hg]; exact Nat.ne_of_gt (blk_lt (g := gb102) (o := .cells #[.int .u64 a1_0, .int .u64 a1_1] 24 (0, 0)) (by (with_reducible repeat (first | refine blk_drewN ?_ _ | refine blk_drew ?_ | refine blk_alloc ?_ _)); exact BK102.out)) : gb103 ≠ gb102)); clear BK101; clear BK102; clear HB; have BK101 := n0_; have BK102 := n1_; have HB := n2_; have BK103 := n3_; have GW103 := n4_; have GE103 := n5_; have NB101_103 := n6_; have NB103_101 := n7_; have NB102_103 := n8_; have NB103_102 := n9_; clear n0_ n1_ n2_ n3_ n4_ n5_ n6_ n7_ n8_ n9_; clear hb hbox hg) | ((with_reducible refine gate_dst (N := 7) rfl ?_); refine box_event ?hg (N := 7) ?hd (cs := #[.int .u64 a3_0, .int .u64 a3_1]) (t := 24) ?hr ?_; (case hd => rfl); (case hg => rfl); (case hr => first | (go_simp; done) | (go_simp; rfl)); intro gb104 hg w9 hbox hb; have n0_ := Aside0.mk (blk_below (g := gb101) (o := .cells #[.int .u64 a0_0, .int .u64 a0_1] 24 (0, 0)) (by (with_reducible repeat (first | refine blk_drewN ?_ _ | refine blk_drew ?_ | refine blk_alloc ?_ _)); exact BK101.out) hb); have n1_ := Aside0.mk (blk_below (g := gb102) (o := .cells #[.int .u64 a1_0, .int .u64 a1_1] 24 (0, 0)) (by (with_reducible repeat (first | refine blk_drewN ?_ _ | refine blk_drew ?_ | refine blk_alloc ?_ _)); exact BK102.out) hb); have n2_ := Aside0.mk (blk_below (g := gb103) (o := .cells #[.int .u64 a2_0, .int .u64 a2_1] 24 (0, 0)) (by (with_reducible repeat (first | refine blk_drewN ?_ _ | refine blk_drew ?_ | refine blk_alloc ?_ _)); exact BK103.out) hb); have n3_ := Aside0.mk (below_step (by repeat (first | (with_reducible first | exact HB.out | apply below_alloc | apply pw_below_drewN | apply below_drew1 | refine below_set ?_ GE101.out | refine below_set ?_ GE102.out | refine below_set ?_ GE103.out) | exact HB.out)) hb); have n4_ := Aside0.mk (hbox); have n5_ := Aside0.mk ((by rw [hg]; exact (below_size (by repeat (first | (with_reducible first | exact HB.out | apply below_alloc | apply pw_below_drewN | apply below_drew1 | refine below_set ?_ GE101.out | refine below_set ?_ GE102.out | refine below_set ?_ GE103.out) | exact HB.out))) : w.heap.size ≤ gb104)); have n6_ := Aside0.mk ((by rw [hg]; exact (below_size (by repeat (first | (with_reducible first | exact HB.out | apply below_alloc | apply pw_below_drewN | apply below_drew1 | refine below_set ?_ GE101.out | refine below_set ?_ GE102.out | refine below_set ?_ GE103.out) | exact HB.out))) : w.heap.size ≤ gb104)); have n7_ := Aside0.mk ((by rw [hg]; exact Nat.ne_of_lt (blk_lt (g := gb101) (o := .cells #[.int .u64 a0_0, .int .u64 a0_1] 24 (0, 0)) (by (with_reducible repeat (first | refine blk_drewN ?_ _ | refine blk_drew ?_ | refine blk_alloc ?_ _)); exact BK101.out)) : gb101 ≠ gb104)); have n8_ := Aside0.mk ((by rw [hg]; exact Nat.ne_of_gt (blk_lt (g := gb101) (o := .cells #[.int .u64 a0_0, .int .u64 a0_1] 24 (0, 0)) (by (with_reducible repeat (first | refine blk_drewN ?_ _ | refine blk_drew ?_ | refine blk_alloc ?_ _)); exact BK101.out)) : gb104 ≠ gb101)); have n9_ := Aside0.mk ((by rw [hg]; exact Nat.ne_of_lt (blk_lt (g := gb102) (o := .cells #[.int .u64 a1_0, .int .u64 a1_1] 24 (0, 0)) (by (with_reducible repeat (first | refine blk_drewN ?_ _ | refine blk_drew ?_ | refine blk_alloc ?_ _)); exact BK102.out)) : gb102 ≠ gb104)); have n10_ := Aside0.mk ((by rw [hg]; exact Nat.ne_of_gt (blk_lt (g := gb102) (o := .cells #[.int .u64 a1_0, .int .u64 a1_1] 24 (0, 0)) (by (with_reducible repeat (first | refine blk_drewN ?_ _ | refine blk_drew ?_ | refine blk_alloc ?_ _)); exact BK102.out)) : gb104 ≠ gb102)); have n11_ := Aside0.mk ((by rw [hg]; exact Nat.ne_of_lt (blk_lt (g := gb103) (o := .cells #[.int .u64 a2_0, .int .u64 a2_1] 24 (0, 0)) (by (with_reducible repeat (first | refine blk_drewN ?_ _ | refine blk_drew ?_ | refine blk_alloc ?_ _)); exact BK103.out)) : gb103 ≠ gb104)); have n12_ := Aside0.mk ((by rw [hg]; exact Nat.ne_of_gt (blk_lt (g := gb103) (o := .cells #[.int .u64 a2_0, .int .u64 a2_1] 24 (0, 0)) (by (with_reducible repeat (first | refine blk_drewN ?_ _ | refine blk_drew ?_ | refine blk_alloc ?_ _)); exact BK103.out)) : gb104 ≠ gb103)); clear BK101; clear BK102; clear BK103; clear HB; have BK101 := n0_; have BK102 := n1_; have BK103 := n2_; have HB := n3_; have BK104 := n4_; have GW104 := n5_; have GE104 := n6_; have NB101_104 := n7_; have NB104_101 := n8_; have NB102_104 := n9_; have NB104_102 := n10_; have NB103_104 := n11_; have NB104_103 := n12_; clear n0_ n1_ n2_ n3_ n4_ n5_ n6_ n7_ n8_ n9_ n10_ n11_ n12_; clear hb hbox hg))
  (try simp only [Act.put, List.setIfInBounds_toArray, List.set_cons_zero, List.set_cons_succ])
  go_cut [34] (fun v34 wc => ∃ (kq : Nat) (x34_4 : Bool), v34 = .bool x34_4 ∧ Aside0 (inquestlaw06_TernWithin.j0 kq x34_4 a0_0 a0_1 a1_0 a1_1 a2_0 a2_1 a3_0 a3_1 = some r) ∧ Aside0 (kq ≤ k) ∧ Aside0 (wc.heap[gb101]? = some (.cells #[.int .u64 a0_0, .int .u64 a0_1] 24 (0, 0))) ∧ Aside0 (wc.heap[gb102]? = some (.cells #[.int .u64 a1_0, .int .u64 a1_1] 24 (0, 0))) ∧ Aside0 (wc.heap[gb103]? = some (.cells #[.int .u64 a2_0, .int .u64 a2_1] 24 (0, 0))) ∧ Aside0 (wc.heap[gb104]? = some (.cells #[.int .u64 a3_0, .int .u64 a3_1] 24 (0, 0))) ∧ Aside0 (Below w.heap.size w wc))
  case first =>
    have H := HC5.out
    clear HC5
    replace H := Option.bind_eq_some_iff.mp H
    obtain ⟨t105, A100, H⟩ := H
    replace H : (if t105 = true then ((tern_May.f a1_0 a1_1).bind fun t106 => (if t106 = true then ((tern_May.f a2_0 a2_1).bind fun t107 => (if t107 = true then ((tern_May.f a3_0 a3_1).bind fun t108 => (inquestlaw06_TernWithin.j0 k (!t108) a0_0 a0_1 a1_0 a1_1 a2_0 a2_1 a3_0 a3_1)) else (inquestlaw06_TernWithin.j0 k true a0_0 a0_1 a1_0 a1_1 a2_0 a2_1 a3_0 a3_1))) else (inquestlaw06_TernWithin.j0 k true a0_0 a0_1 a1_0 a1_1 a2_0 a2_1 a3_0 a3_1))) else (inquestlaw06_TernWithin.j0 k true a0_0 a0_1 a1_0 a1_1 a2_0 a2_1 a3_0 a3_1)) = some r := H
    have A10 := Aside0.mk A100
    clear A100
    by_cases c11 : t105 = true
    · subst c11
      have H1 : ((tern_May.f a1_0 a1_1).bind fun t106 => (if t106 = true then ((tern_May.f a2_0 a2_1).bind fun t107 => (if t107 = true then ((tern_May.f a3_0 a3_1).bind fun t108 => (inquestlaw06_TernWithin.j0 k (!t108) a0_0 a0_1 a1_0 a1_1 a2_0 a2_1 a3_0 a3_1)) else (inquestlaw06_TernWithin.j0 k true a0_0 a0_1 a1_0 a1_1 a2_0 a2_1 a3_0 a3_1))) else (inquestlaw06_TernWithin.j0 k true a0_0 a0_1 a1_0 a1_1 a2_0 a2_1 a3_0 a3_1))) = some r := by rw [if_pos rfl] at H; exact H
      clear H
      have H := H1
      clear H1
      replace H := Option.bind_eq_some_iff.mp H
      obtain ⟨t106, A120, H⟩ := H
      replace H : (if t106 = true then ((tern_May.f a2_0 a2_1).bind fun t107 => (if t107 = true then ((tern_May.f a3_0 a3_1).bind fun t108 => (inquestlaw06_TernWithin.j0 k (!t108) a0_0 a0_1 a1_0 a1_1 a2_0 a2_1 a3_0 a3_1)) else (inquestlaw06_TernWithin.j0 k true a0_0 a0_1 a1_0 a1_1 a2_0 a2_1 a3_0 a3_1))) else (inquestlaw06_TernWithin.j0 k true a0_0 a0_1 a1_0 a1_1 a2_0 a2_1 a3_0 a3_1)) = some r := H
      have A12 := Aside0.mk A120
      clear A120
      by_cases c13 : t106 = true
      · subst c13
        have H1 : ((tern_May.f a2_0 a2_1).bind fun t107 => (if t107 = true then ((tern_May.f a3_0 a3_1).bind fun t108 => (inquestlaw06_TernWithin.j0 k (!t108) a0_0 a0_1 a1_0 a1_1 a2_0 a2_1 a3_0 a3_1)) else (inquestlaw06_TernWithin.j0 k true a0_0 a0_1 a1_0 a1_1 a2_0 a2_1 a3_0 a3_1))) = some r := by rw [if_pos rfl] at H; exact H
        clear H
        have H := H1
        clear H1
        replace H := Option.bind_eq_some_iff.mp H
        obtain ⟨t107, A140, H⟩ := H
        replace H : (if t107 = true then ((tern_May.f a3_0 a3_1).bind fun t108 => (inquestlaw06_TernWithin.j0 k (!t108) a0_0 a0_1 a1_0 a1_1 a2_0 a2_1 a3_0 a3_1)) else (inquestlaw06_TernWithin.j0 k true a0_0 a0_1 a1_0 a1_1 a2_0 a2_1 a3_0 a3_1)) = some r := H
        have A14 := Aside0.mk A140
        clear A140
        by_cases c15 : t107 = true
        · subst c15
          have H1 : ((tern_May.f a3_0 a3_1).bind fun t108 => (inquestlaw06_TernWithin.j0 k (!t108) a0_0 a0_1 a1_0 a1_1 a2_0 a2_1 a3_0 a3_1)) = some r := by rw [if_pos rfl] at H; exact H
          clear H
          have H := H1
          clear H1
          replace H := Option.bind_eq_some_iff.mp H
          obtain ⟨t108, A160, H⟩ := H
          replace H : (inquestlaw06_TernWithin.j0 k (!t108) a0_0 a0_1 a1_0 a1_1 a2_0 a2_1 a3_0 a3_1) = some r := H
          have A16 := Aside0.mk A160
          clear A160
          have H' := Aside0.mk H
          clear H
          have hnb17 := NB101_102.out
          have hnc17 := NB102_101.out
          have hnb18 := NB101_103.out
          have hnc18 := NB103_101.out
          have hnb19 := NB101_104.out
          have hnc19 := NB104_101.out
          have hcz20_0 : w9.cell? ⟨gb101, 0, none⟩ = some (.int .u64 a0_0) := (blk_cell BK101.out 0).trans rfl
          have hcz20_1 : w9.cell? ⟨gb101, 1, none⟩ = some (.int .u64 a0_1) := (blk_cell BK101.out 1).trans rfl
          have hfz20_0 := blk_frozen BK101.out 0
          have hfz20_1 := blk_frozen BK101.out 1
          go_wp2_with (first | ((with_reducible refine gate_callee (f := 11) rfl ?_); refine goesL_ (some 18) rfl rfl Try.func11 (by kernel_rfl) rfl #[.agg #[.int .u64 a0_0, .int .u64 a0_1]] rfl (by (try simp only [List.map_toArray, List.map_cons, List.map_nil]); first | done | rfl | (simp only [List.length_drop, List.length_take]; rfl)) ?_; (with_reducible refine (tern_May.calls a0_0 a0_1 true _ A10.out).mono ?_); rintro e w21 ⟨rfl, hb⟩; refine ⟨_, rfl, ?_⟩; have n0_ := Aside0.mk (blk_below (g := gb101) (o := .cells #[.int .u64 a0_0, .int .u64 a0_1] 24 (0, 0)) (by (with_reducible repeat (first | refine blk_drewN ?_ _ | refine blk_drew ?_ | refine blk_alloc ?_ _)); exact BK101.out) hb); have n1_ := Aside0.mk (blk_below (g := gb102) (o := .cells #[.int .u64 a1_0, .int .u64 a1_1] 24 (0, 0)) (by (with_reducible repeat (first | refine blk_drewN ?_ _ | refine blk_drew ?_ | refine blk_alloc ?_ _)); exact BK102.out) hb); have n2_ := Aside0.mk (blk_below (g := gb103) (o := .cells #[.int .u64 a2_0, .int .u64 a2_1] 24 (0, 0)) (by (with_reducible repeat (first | refine blk_drewN ?_ _ | refine blk_drew ?_ | refine blk_alloc ?_ _)); exact BK103.out) hb); have n3_ := Aside0.mk (blk_below (g := gb104) (o := .cells #[.int .u64 a3_0, .int .u64 a3_1] 24 (0, 0)) (by (with_reducible repeat (first | refine blk_drewN ?_ _ | refine blk_drew ?_ | refine blk_alloc ?_ _)); exact BK104.out) hb); have n4_ := Aside0.mk (below_step (by repeat (first | (with_reducible first | exact HB.out | apply below_alloc | apply pw_below_drewN | apply below_drew1 | refine below_set ?_ GE101.out | refine below_set ?_ GE102.out | refine below_set ?_ GE103.out | refine below_set ?_ GE104.out) | exact HB.out)) hb); clear BK101; clear BK102; clear BK103; clear BK104; clear HB; have BK101 := n0_; have BK102 := n1_; have BK103 := n2_; have BK104 := n3_; have HB := n4_; clear n0_ n1_ n2_ n3_ n4_; (try clear hb); (try clear hb2); (try clear hk); (try clear hi); have hnb22 := NB102_103.out; have hnc22 := NB103_102.out; have hnb23 := NB102_104.out; have hnc23 := NB104_102.out; have hcz24_0 : w21.cell? ⟨gb102, 0, none⟩ = some (.int .u64 a1_0) := (blk_cell BK102.out 0).trans rfl; have hcz24_1 : w21.cell? ⟨gb102, 1, none⟩ = some (.int .u64 a1_1) := (blk_cell BK102.out 1).trans rfl; have hfz24_0 := blk_frozen BK102.out 0; have hfz24_1 := blk_frozen BK102.out 1) | (go_at_call 11; (with_reducible refine (tern_May.calls a1_0 a1_1 true _ A12.out).mono ?_); rintro e w25 ⟨rfl, hb⟩; have n0_ := Aside0.mk (blk_below (g := gb101) (o := .cells #[.int .u64 a0_0, .int .u64 a0_1] 24 (0, 0)) (by (with_reducible repeat (first | refine blk_drewN ?_ _ | refine blk_drew ?_ | refine blk_alloc ?_ _)); exact BK101.out) hb); have n1_ := Aside0.mk (blk_below (g := gb102) (o := .cells #[.int .u64 a1_0, .int .u64 a1_1] 24 (0, 0)) (by (with_reducible repeat (first | refine blk_drewN ?_ _ | refine blk_drew ?_ | refine blk_alloc ?_ _)); exact BK102.out) hb); have n2_ := Aside0.mk (blk_below (g := gb103) (o := .cells #[.int .u64 a2_0, .int .u64 a2_1] 24 (0, 0)) (by (with_reducible repeat (first | refine blk_drewN ?_ _ | refine blk_drew ?_ | refine blk_alloc ?_ _)); exact BK103.out) hb); have n3_ := Aside0.mk (blk_below (g := gb104) (o := .cells #[.int .u64 a3_0, .int .u64 a3_1] 24 (0, 0)) (by (with_reducible repeat (first | refine blk_drewN ?_ _ | refine blk_drew ?_ | refine blk_alloc ?_ _)); exact BK104.out) hb); have n4_ := Aside0.mk (below_step (by repeat (first | (with_reducible first | exact HB.out | apply below_alloc | apply pw_below_drewN | apply below_drew1 | refine below_set ?_ GE101.out | refine below_set ?_ GE102.out | refine below_set ?_ GE103.out | refine below_set ?_ GE104.out) | exact HB.out)) hb); clear BK101; clear BK102; clear BK103; clear BK104; clear HB; have BK101 := n0_; have BK102 := n1_; have BK103 := n2_; have BK104 := n3_; have HB := n4_; clear n0_ n1_ n2_ n3_ n4_; (try clear hb); (try clear hb2); (try clear hk); (try clear hi); have hnb26 := NB103_104.out; have hnc26 := NB104_103.out; have hcz27_0 : w25.cell? ⟨gb103, 0, none⟩ = some (.int .u64 a2_0) := (blk_cell BK103.out 0).trans rfl; have hcz27_1 : w25.cell? ⟨gb103, 1, none⟩ = some (.int .u64 a2_1) := (blk_cell BK103.out 1).trans rfl; have hfz27_0 := blk_frozen BK103.out 0; have hfz27_1 := blk_frozen BK103.out 1) | (go_at_call 11; (with_reducible refine (tern_May.calls a2_0 a2_1 true _ A14.out).mono ?_); rintro e w28 ⟨rfl, hb⟩; have n0_ := Aside0.mk (blk_below (g := gb101) (o := .cells #[.int .u64 a0_0, .int .u64 a0_1] 24 (0, 0)) (by (with_reducible repeat (first | refine blk_drewN ?_ _ | refine blk_drew ?_ | refine blk_alloc ?_ _)); exact BK101.out) hb); have n1_ := Aside0.mk (blk_below (g := gb102) (o := .cells #[.int .u64 a1_0, .int .u64 a1_1] 24 (0, 0)) (by (with_reducible repeat (first | refine blk_drewN ?_ _ | refine blk_drew ?_ | refine blk_alloc ?_ _)); exact BK102.out) hb); have n2_ := Aside0.mk (blk_below (g := gb103) (o := .cells #[.int .u64 a2_0, .int .u64 a2_1] 24 (0, 0)) (by (with_reducible repeat (first | refine blk_drewN ?_ _ | refine blk_drew ?_ | refine blk_alloc ?_ _)); exact BK103.out) hb); have n3_ := Aside0.mk (blk_below (g := gb104) (o := .cells #[.int .u64 a3_0, .int .u64 a3_1] 24 (0, 0)) (by (with_reducible repeat (first | refine blk_drewN ?_ _ | refine blk_drew ?_ | refine blk_alloc ?_ _)); exact BK104.out) hb); have n4_ := Aside0.mk (below_step (by repeat (first | (with_reducible first | exact HB.out | apply below_alloc | apply pw_below_drewN | apply below_drew1 | refine below_set ?_ GE101.out | refine below_set ?_ GE102.out | refine below_set ?_ GE103.out | refine below_set ?_ GE104.out) | exact HB.out)) hb); clear BK101; clear BK102; clear BK103; clear BK104; clear HB; have BK101 := n0_; have BK102 := n1_; have BK103 := n2_; have BK104 := n3_; have HB := n4_; clear n0_ n1_ n2_ n3_ n4_; (try clear hb); (try clear hb2); (try clear hk); (try clear hi); have hcz29_0 : w28.cell? ⟨gb104, 0, none⟩ = some (.int .u64 a3_0) := (blk_cell BK104.out 0).trans rfl; have hcz29_1 : w28.cell? ⟨gb104, 1, none⟩ = some (.int .u64 a3_1) := (blk_cell BK104.out 1).trans rfl; have hfz29_0 := blk_frozen BK104.out 0; have hfz29_1 := blk_frozen BK104.out 1) | (go_at_call 11; (with_reducible refine (tern_May.calls a3_0 a3_1 t108 _ A16.out).mono ?_); rintro e w30 ⟨rfl, hb⟩; have n0_ := Aside0.mk (blk_below (g := gb101) (o := .cells #[.int .u64 a0_0, .int .u64 a0_1] 24 (0, 0)) (by (with_reducible repeat (first | refine blk_drewN ?_ _ | refine blk_drew ?_ | refine blk_alloc ?_ _)); exact BK101.out) hb); have n1_ := Aside0.mk (blk_below (g := gb102) (o := .cells #[.int .u64 a1_0, .int .u64 a1_1] 24 (0, 0)) (by (with_reducible repeat (first | refine blk_drewN ?_ _ | refine blk_drew ?_ | refine blk_alloc ?_ _)); exact BK102.out) hb); have n2_ := Aside0.mk (blk_below (g := gb103) (o := .cells #[.int .u64 a2_0, .int .u64 a2_1] 24 (0, 0)) (by (with_reducible repeat (first | refine blk_drewN ?_ _ | refine blk_drew ?_ | refine blk_alloc ?_ _)); exact BK103.out) hb); have n3_ := Aside0.mk (blk_below (g := gb104) (o := .cells #[.int .u64 a3_0, .int .u64 a3_1] 24 (0, 0)) (by (with_reducible repeat (first | refine blk_drewN ?_ _ | refine blk_drew ?_ | refine blk_alloc ?_ _)); exact BK104.out) hb); have n4_ := Aside0.mk (below_step (by repeat (first | (with_reducible first | exact HB.out | apply below_alloc | apply pw_below_drewN | apply below_drew1 | refine below_set ?_ GE101.out | refine below_set ?_ GE102.out | refine below_set ?_ GE103.out | refine below_set ?_ GE104.out) | exact HB.out)) hb); clear BK101; clear BK102; clear BK103; clear BK104; clear HB; have BK101 := n0_; have BK102 := n1_; have BK103 := n2_; have BK104 := n3_; have HB := n4_; clear n0_ n1_ n2_ n3_ n4_; (try clear hb); (try clear hb2); (try clear hk); (try clear hi)))
          go_meet
          case rel => exact ⟨_, (!t108), (by first | rfl | (simp; done) | (simp [*]; done)), H', ⟨by first | omega | exact Nat.le_refl _⟩, ⟨by (with_reducible repeat (first | refine blk_drewN ?_ _ | refine blk_drew ?_ | refine blk_alloc ?_ _)); exact BK101.out⟩, ⟨by (with_reducible repeat (first | refine blk_drewN ?_ _ | refine blk_drew ?_ | refine blk_alloc ?_ _)); exact BK102.out⟩, ⟨by (with_reducible repeat (first | refine blk_drewN ?_ _ | refine blk_drew ?_ | refine blk_alloc ?_ _)); exact BK103.out⟩, ⟨by (with_reducible repeat (first | refine blk_drewN ?_ _ | refine blk_drew ?_ | refine blk_alloc ?_ _)); exact BK104.out⟩, ⟨by repeat (first | (with_reducible first | exact HB.out | apply below_alloc | apply pw_below_drewN | apply below_drew1 | refine below_set ?_ GE101.out | refine below_set ?_ GE102.out | refine below_set ?_ GE103.out | refine below_set ?_ GE104.out) | exact HB.out)⟩⟩
        · replace c15 := Bool.eq_false_iff.mpr c15
          subst c15
          have H1 : (inquestlaw06_TernWithin.j0 k true a0_0 a0_1 a1_0 a1_1 a2_0 a2_1 a3_0 a3_1) = some r := by rw [if_neg (show ¬ (false = true) by decide)] at H; exact H
          clear H
          have H := H1
          clear H1
          have H' := Aside0.mk H
          clear H
          have hnb31 := NB101_102.out
          have hnc31 := NB102_101.out
          have hnb32 := NB101_103.out
          have hnc32 := NB103_101.out
          have hnb33 := NB101_104.out
          have hnc33 := NB104_101.out
          have hcz34_0 : w9.cell? ⟨gb101, 0, none⟩ = some (.int .u64 a0_0) := (blk_cell BK101.out 0).trans rfl
          have hcz34_1 : w9.cell? ⟨gb101, 1, none⟩ = some (.int .u64 a0_1) := (blk_cell BK101.out 1).trans rfl
          have hfz34_0 := blk_frozen BK101.out 0
          have hfz34_1 := blk_frozen BK101.out 1
          go_wp2_with (first | ((with_reducible refine gate_callee (f := 11) rfl ?_); refine goesL_ (some 18) rfl rfl Try.func11 (by kernel_rfl) rfl #[.agg #[.int .u64 a0_0, .int .u64 a0_1]] rfl (by (try simp only [List.map_toArray, List.map_cons, List.map_nil]); first | done | rfl | (simp only [List.length_drop, List.length_take]; rfl)) ?_; (with_reducible refine (tern_May.calls a0_0 a0_1 true _ A10.out).mono ?_); rintro e w35 ⟨rfl, hb⟩; refine ⟨_, rfl, ?_⟩; have n0_ := Aside0.mk (blk_below (g := gb101) (o := .cells #[.int .u64 a0_0, .int .u64 a0_1] 24 (0, 0)) (by (with_reducible repeat (first | refine blk_drewN ?_ _ | refine blk_drew ?_ | refine blk_alloc ?_ _)); exact BK101.out) hb); have n1_ := Aside0.mk (blk_below (g := gb102) (o := .cells #[.int .u64 a1_0, .int .u64 a1_1] 24 (0, 0)) (by (with_reducible repeat (first | refine blk_drewN ?_ _ | refine blk_drew ?_ | refine blk_alloc ?_ _)); exact BK102.out) hb); have n2_ := Aside0.mk (blk_below (g := gb103) (o := .cells #[.int .u64 a2_0, .int .u64 a2_1] 24 (0, 0)) (by (with_reducible repeat (first | refine blk_drewN ?_ _ | refine blk_drew ?_ | refine blk_alloc ?_ _)); exact BK103.out) hb); have n3_ := Aside0.mk (blk_below (g := gb104) (o := .cells #[.int .u64 a3_0, .int .u64 a3_1] 24 (0, 0)) (by (with_reducible repeat (first | refine blk_drewN ?_ _ | refine blk_drew ?_ | refine blk_alloc ?_ _)); exact BK104.out) hb); have n4_ := Aside0.mk (below_step (by repeat (first | (with_reducible first | exact HB.out | apply below_alloc | apply pw_below_drewN | apply below_drew1 | refine below_set ?_ GE101.out | refine below_set ?_ GE102.out | refine below_set ?_ GE103.out | refine below_set ?_ GE104.out) | exact HB.out)) hb); clear BK101; clear BK102; clear BK103; clear BK104; clear HB; have BK101 := n0_; have BK102 := n1_; have BK103 := n2_; have BK104 := n3_; have HB := n4_; clear n0_ n1_ n2_ n3_ n4_; (try clear hb); (try clear hb2); (try clear hk); (try clear hi); have hnb36 := NB102_103.out; have hnc36 := NB103_102.out; have hnb37 := NB102_104.out; have hnc37 := NB104_102.out; have hcz38_0 : w35.cell? ⟨gb102, 0, none⟩ = some (.int .u64 a1_0) := (blk_cell BK102.out 0).trans rfl; have hcz38_1 : w35.cell? ⟨gb102, 1, none⟩ = some (.int .u64 a1_1) := (blk_cell BK102.out 1).trans rfl; have hfz38_0 := blk_frozen BK102.out 0; have hfz38_1 := blk_frozen BK102.out 1) | (go_at_call 11; (with_reducible refine (tern_May.calls a1_0 a1_1 true _ A12.out).mono ?_); rintro e w39 ⟨rfl, hb⟩; have n0_ := Aside0.mk (blk_below (g := gb101) (o := .cells #[.int .u64 a0_0, .int .u64 a0_1] 24 (0, 0)) (by (with_reducible repeat (first | refine blk_drewN ?_ _ | refine blk_drew ?_ | refine blk_alloc ?_ _)); exact BK101.out) hb); have n1_ := Aside0.mk (blk_below (g := gb102) (o := .cells #[.int .u64 a1_0, .int .u64 a1_1] 24 (0, 0)) (by (with_reducible repeat (first | refine blk_drewN ?_ _ | refine blk_drew ?_ | refine blk_alloc ?_ _)); exact BK102.out) hb); have n2_ := Aside0.mk (blk_below (g := gb103) (o := .cells #[.int .u64 a2_0, .int .u64 a2_1] 24 (0, 0)) (by (with_reducible repeat (first | refine blk_drewN ?_ _ | refine blk_drew ?_ | refine blk_alloc ?_ _)); exact BK103.out) hb); have n3_ := Aside0.mk (blk_below (g := gb104) (o := .cells #[.int .u64 a3_0, .int .u64 a3_1] 24 (0, 0)) (by (with_reducible repeat (first | refine blk_drewN ?_ _ | refine blk_drew ?_ | refine blk_alloc ?_ _)); exact BK104.out) hb); have n4_ := Aside0.mk (below_step (by repeat (first | (with_reducible first | exact HB.out | apply below_alloc | apply pw_below_drewN | apply below_drew1 | refine below_set ?_ GE101.out | refine below_set ?_ GE102.out | refine below_set ?_ GE103.out | refine below_set ?_ GE104.out) | exact HB.out)) hb); clear BK101; clear BK102; clear BK103; clear BK104; clear HB; have BK101 := n0_; have BK102 := n1_; have BK103 := n2_; have BK104 := n3_; have HB := n4_; clear n0_ n1_ n2_ n3_ n4_; (try clear hb); (try clear hb2); (try clear hk); (try clear hi); have hnb40 := NB103_104.out; have hnc40 := NB104_103.out; have hcz41_0 : w39.cell? ⟨gb103, 0, none⟩ = some (.int .u64 a2_0) := (blk_cell BK103.out 0).trans rfl; have hcz41_1 : w39.cell? ⟨gb103, 1, none⟩ = some (.int .u64 a2_1) := (blk_cell BK103.out 1).trans rfl; have hfz41_0 := blk_frozen BK103.out 0; have hfz41_1 := blk_frozen BK103.out 1) | (go_at_call 11; (with_reducible refine (tern_May.calls a2_0 a2_1 false _ A14.out).mono ?_); rintro e w42 ⟨rfl, hb⟩; have n0_ := Aside0.mk (blk_below (g := gb101) (o := .cells #[.int .u64 a0_0, .int .u64 a0_1] 24 (0, 0)) (by (with_reducible repeat (first | refine blk_drewN ?_ _ | refine blk_drew ?_ | refine blk_alloc ?_ _)); exact BK101.out) hb); have n1_ := Aside0.mk (blk_below (g := gb102) (o := .cells #[.int .u64 a1_0, .int .u64 a1_1] 24 (0, 0)) (by (with_reducible repeat (first | refine blk_drewN ?_ _ | refine blk_drew ?_ | refine blk_alloc ?_ _)); exact BK102.out) hb); have n2_ := Aside0.mk (blk_below (g := gb103) (o := .cells #[.int .u64 a2_0, .int .u64 a2_1] 24 (0, 0)) (by (with_reducible repeat (first | refine blk_drewN ?_ _ | refine blk_drew ?_ | refine blk_alloc ?_ _)); exact BK103.out) hb); have n3_ := Aside0.mk (blk_below (g := gb104) (o := .cells #[.int .u64 a3_0, .int .u64 a3_1] 24 (0, 0)) (by (with_reducible repeat (first | refine blk_drewN ?_ _ | refine blk_drew ?_ | refine blk_alloc ?_ _)); exact BK104.out) hb); have n4_ := Aside0.mk (below_step (by repeat (first | (with_reducible first | exact HB.out | apply below_alloc | apply pw_below_drewN | apply below_drew1 | refine below_set ?_ GE101.out | refine below_set ?_ GE102.out | refine below_set ?_ GE103.out | refine below_set ?_ GE104.out) | exact HB.out)) hb); clear BK101; clear BK102; clear BK103; clear BK104; clear HB; have BK101 := n0_; have BK102 := n1_; have BK103 := n2_; have BK104 := n3_; have HB := n4_; clear n0_ n1_ n2_ n3_ n4_; (try clear hb); (try clear hb2); (try clear hk); (try clear hi)))
          go_meet
          case rel => exact ⟨_, (true), (by first | rfl | (simp; done) | (simp [*]; done)), H', ⟨by first | omega | exact Nat.le_refl _⟩, ⟨by (with_reducible repeat (first | refine blk_drewN ?_ _ | refine blk_drew ?_ | refine blk_alloc ?_ _)); exact BK101.out⟩, ⟨by (with_reducible repeat (first | refine blk_drewN ?_ _ | refine blk_drew ?_ | refine blk_alloc ?_ _)); exact BK102.out⟩, ⟨by (with_reducible repeat (first | refine blk_drewN ?_ _ | refine blk_drew ?_ | refine blk_alloc ?_ _)); exact BK103.out⟩, ⟨by (with_reducible repeat (first | refine blk_drewN ?_ _ | refine blk_drew ?_ | refine blk_alloc ?_ _)); exact BK104.out⟩, ⟨by repeat (first | (with_reducible first | exact HB.out | apply below_alloc | apply pw_below_drewN | apply below_drew1 | refine below_set ?_ GE101.out | refine below_set ?_ GE102.out | refine below_set ?_ GE103.out | refine below_set ?_ GE104.out) | exact HB.out)⟩⟩
      · replace c13 := Bool.eq_false_iff.mpr c13
        subst c13
        have H1 : (inquestlaw06_TernWithin.j0 k true a0_0 a0_1 a1_0 a1_1 a2_0 a2_1 a3_0 a3_1) = some r := by rw [if_neg (show ¬ (false = true) by decide)] at H; exact H
        clear H
        have H := H1
        clear H1
        have H' := Aside0.mk H
        clear H
        have hnb43 := NB101_102.out
        have hnc43 := NB102_101.out
        have hnb44 := NB101_103.out
        have hnc44 := NB103_101.out
        have hnb45 := NB101_104.out
        have hnc45 := NB104_101.out
        have hcz46_0 : w9.cell? ⟨gb101, 0, none⟩ = some (.int .u64 a0_0) := (blk_cell BK101.out 0).trans rfl
        have hcz46_1 : w9.cell? ⟨gb101, 1, none⟩ = some (.int .u64 a0_1) := (blk_cell BK101.out 1).trans rfl
        have hfz46_0 := blk_frozen BK101.out 0
        have hfz46_1 := blk_frozen BK101.out 1
        go_wp2_with (first | ((with_reducible refine gate_callee (f := 11) rfl ?_); refine goesL_ (some 18) rfl rfl Try.func11 (by kernel_rfl) rfl #[.agg #[.int .u64 a0_0, .int .u64 a0_1]] rfl (by (try simp only [List.map_toArray, List.map_cons, List.map_nil]); first | done | rfl | (simp only [List.length_drop, List.length_take]; rfl)) ?_; (with_reducible refine (tern_May.calls a0_0 a0_1 true _ A10.out).mono ?_); rintro e w47 ⟨rfl, hb⟩; refine ⟨_, rfl, ?_⟩; have n0_ := Aside0.mk (blk_below (g := gb101) (o := .cells #[.int .u64 a0_0, .int .u64 a0_1] 24 (0, 0)) (by (with_reducible repeat (first | refine blk_drewN ?_ _ | refine blk_drew ?_ | refine blk_alloc ?_ _)); exact BK101.out) hb); have n1_ := Aside0.mk (blk_below (g := gb102) (o := .cells #[.int .u64 a1_0, .int .u64 a1_1] 24 (0, 0)) (by (with_reducible repeat (first | refine blk_drewN ?_ _ | refine blk_drew ?_ | refine blk_alloc ?_ _)); exact BK102.out) hb); have n2_ := Aside0.mk (blk_below (g := gb103) (o := .cells #[.int .u64 a2_0, .int .u64 a2_1] 24 (0, 0)) (by (with_reducible repeat (first | refine blk_drewN ?_ _ | refine blk_drew ?_ | refine blk_alloc ?_ _)); exact BK103.out) hb); have n3_ := Aside0.mk (blk_below (g := gb104) (o := .cells #[.int .u64 a3_0, .int .u64 a3_1] 24 (0, 0)) (by (with_reducible repeat (first | refine blk_drewN ?_ _ | refine blk_drew ?_ | refine blk_alloc ?_ _)); exact BK104.out) hb); have n4_ := Aside0.mk (below_step (by repeat (first | (with_reducible first | exact HB.out | apply below_alloc | apply pw_below_drewN | apply below_drew1 | refine below_set ?_ GE101.out | refine below_set ?_ GE102.out | refine below_set ?_ GE103.out | refine below_set ?_ GE104.out) | exact HB.out)) hb); clear BK101; clear BK102; clear BK103; clear BK104; clear HB; have BK101 := n0_; have BK102 := n1_; have BK103 := n2_; have BK104 := n3_; have HB := n4_; clear n0_ n1_ n2_ n3_ n4_; (try clear hb); (try clear hb2); (try clear hk); (try clear hi); have hnb48 := NB102_103.out; have hnc48 := NB103_102.out; have hnb49 := NB102_104.out; have hnc49 := NB104_102.out; have hcz50_0 : w47.cell? ⟨gb102, 0, none⟩ = some (.int .u64 a1_0) := (blk_cell BK102.out 0).trans rfl; have hcz50_1 : w47.cell? ⟨gb102, 1, none⟩ = some (.int .u64 a1_1) := (blk_cell BK102.out 1).trans rfl; have hfz50_0 := blk_frozen BK102.out 0; have hfz50_1 := blk_frozen BK102.out 1) | (go_at_call 11; (with_reducible refine (tern_May.calls a1_0 a1_1 false _ A12.out).mono ?_); rintro e w51 ⟨rfl, hb⟩; have n0_ := Aside0.mk (blk_below (g := gb101) (o := .cells #[.int .u64 a0_0, .int .u64 a0_1] 24 (0, 0)) (by (with_reducible repeat (first | refine blk_drewN ?_ _ | refine blk_drew ?_ | refine blk_alloc ?_ _)); exact BK101.out) hb); have n1_ := Aside0.mk (blk_below (g := gb102) (o := .cells #[.int .u64 a1_0, .int .u64 a1_1] 24 (0, 0)) (by (with_reducible repeat (first | refine blk_drewN ?_ _ | refine blk_drew ?_ | refine blk_alloc ?_ _)); exact BK102.out) hb); have n2_ := Aside0.mk (blk_below (g := gb103) (o := .cells #[.int .u64 a2_0, .int .u64 a2_1] 24 (0, 0)) (by (with_reducible repeat (first | refine blk_drewN ?_ _ | refine blk_drew ?_ | refine blk_alloc ?_ _)); exact BK103.out) hb); have n3_ := Aside0.mk (blk_below (g := gb104) (o := .cells #[.int .u64 a3_0, .int .u64 a3_1] 24 (0, 0)) (by (with_reducible repeat (first | refine blk_drewN ?_ _ | refine blk_drew ?_ | refine blk_alloc ?_ _)); exact BK104.out) hb); have n4_ := Aside0.mk (below_step (by repeat (first | (with_reducible first | exact HB.out | apply below_alloc | apply pw_below_drewN | apply below_drew1 | refine below_set ?_ GE101.out | refine below_set ?_ GE102.out | refine below_set ?_ GE103.out | refine below_set ?_ GE104.out) | exact HB.out)) hb); clear BK101; clear BK102; clear BK103; clear BK104; clear HB; have BK101 := n0_; have BK102 := n1_; have BK103 := n2_; have BK104 := n3_; have HB := n4_; clear n0_ n1_ n2_ n3_ n4_; (try clear hb); (try clear hb2); (try clear hk); (try clear hi)))
        go_meet
        case rel => exact ⟨_, (true), (by first | rfl | (simp; done) | (simp [*]; done)), H', ⟨by first | omega | exact Nat.le_refl _⟩, ⟨by (with_reducible repeat (first | refine blk_drewN ?_ _ | refine blk_drew ?_ | refine blk_alloc ?_ _)); exact BK101.out⟩, ⟨by (with_reducible repeat (first | refine blk_drewN ?_ _ | refine blk_drew ?_ | refine blk_alloc ?_ _)); exact BK102.out⟩, ⟨by (with_reducible repeat (first | refine blk_drewN ?_ _ | refine blk_drew ?_ | refine blk_alloc ?_ _)); exact BK103.out⟩, ⟨by (with_reducible repeat (first | refine blk_drewN ?_ _ | refine blk_drew ?_ | refine blk_alloc ?_ _)); exact BK104.out⟩, ⟨by repeat (first | (with_reducible first | exact HB.out | apply below_alloc | apply pw_below_drewN | apply below_drew1 | refine below_set ?_ GE101.out | refine below_set ?_ GE102.out | refine below_set ?_ GE103.out | refine below_set ?_ GE104.out) | exact HB.out)⟩⟩
    · replace c11 := Bool.eq_false_iff.mpr c11
      subst c11
      have H1 : (inquestlaw06_TernWithin.j0 k true a0_0 a0_1 a1_0 a1_1 a2_0 a2_1 a3_0 a3_1) = some r := by rw [if_neg (show ¬ (false = true) by decide)] at H; exact H
      clear H
      have H := H1
      clear H1
      have H' := Aside0.mk H
      clear H
      have hnb52 := NB101_102.out
      have hnc52 := NB102_101.out
      have hnb53 := NB101_103.out
      have hnc53 := NB103_101.out
      have hnb54 := NB101_104.out
      have hnc54 := NB104_101.out
      have hcz55_0 : w9.cell? ⟨gb101, 0, none⟩ = some (.int .u64 a0_0) := (blk_cell BK101.out 0).trans rfl
      have hcz55_1 : w9.cell? ⟨gb101, 1, none⟩ = some (.int .u64 a0_1) := (blk_cell BK101.out 1).trans rfl
      have hfz55_0 := blk_frozen BK101.out 0
      have hfz55_1 := blk_frozen BK101.out 1
      go_wp2_with (first | ((with_reducible refine gate_callee (f := 11) rfl ?_); refine goesL_ (some 18) rfl rfl Try.func11 (by kernel_rfl) rfl #[.agg #[.int .u64 a0_0, .int .u64 a0_1]] rfl (by (try simp only [List.map_toArray, List.map_cons, List.map_nil]); first | done | rfl | (simp only [List.length_drop, List.length_take]; rfl)) ?_; (with_reducible refine (tern_May.calls a0_0 a0_1 false _ A10.out).mono ?_); rintro e w56 ⟨rfl, hb⟩; refine ⟨_, rfl, ?_⟩; have n0_ := Aside0.mk (blk_below (g := gb101) (o := .cells #[.int .u64 a0_0, .int .u64 a0_1] 24 (0, 0)) (by (with_reducible repeat (first | refine blk_drewN ?_ _ | refine blk_drew ?_ | refine blk_alloc ?_ _)); exact BK101.out) hb); have n1_ := Aside0.mk (blk_below (g := gb102) (o := .cells #[.int .u64 a1_0, .int .u64 a1_1] 24 (0, 0)) (by (with_reducible repeat (first | refine blk_drewN ?_ _ | refine blk_drew ?_ | refine blk_alloc ?_ _)); exact BK102.out) hb); have n2_ := Aside0.mk (blk_below (g := gb103) (o := .cells #[.int .u64 a2_0, .int .u64 a2_1] 24 (0, 0)) (by (with_reducible repeat (first | refine blk_drewN ?_ _ | refine blk_drew ?_ | refine blk_alloc ?_ _)); exact BK103.out) hb); have n3_ := Aside0.mk (blk_below (g := gb104) (o := .cells #[.int .u64 a3_0, .int .u64 a3_1] 24 (0, 0)) (by (with_reducible repeat (first | refine blk_drewN ?_ _ | refine blk_drew ?_ | refine blk_alloc ?_ _)); exact BK104.out) hb); have n4_ := Aside0.mk (below_step (by repeat (first | (with_reducible first | exact HB.out | apply below_alloc | apply pw_below_drewN | apply below_drew1 | refine below_set ?_ GE101.out | refine below_set ?_ GE102.out | refine below_set ?_ GE103.out | refine below_set ?_ GE104.out) | exact HB.out)) hb); clear BK101; clear BK102; clear BK103; clear BK104; clear HB; have BK101 := n0_; have BK102 := n1_; have BK103 := n2_; have BK104 := n3_; have HB := n4_; clear n0_ n1_ n2_ n3_ n4_; (try clear hb); (try clear hb2); (try clear hk); (try clear hi)))
      go_meet
      case rel => exact ⟨_, (true), (by first | rfl | (simp; done) | (simp [*]; done)), H', ⟨by first | omega | exact Nat.le_refl _⟩, ⟨by (with_reducible repeat (first | refine blk_drewN ?_ _ | refine blk_drew ?_ | refine blk_alloc ?_ _)); exact BK101.out⟩, ⟨by (with_reducible repeat (first | refine blk_drewN ?_ _ | refine blk_drew ?_ | refine blk_alloc ?_ _)); exact BK102.out⟩, ⟨by (with_reducible repeat (first | refine blk_drewN ?_ _ | refine blk_drew ?_ | refine blk_alloc ?_ _)); exact BK103.out⟩, ⟨by (with_reducible repeat (first | refine blk_drewN ?_ _ | refine blk_drew ?_ | refine blk_alloc ?_ _)); exact BK104.out⟩, ⟨by repeat (first | (with_reducible first | exact HB.out | apply below_alloc | apply pw_below_drewN | apply below_drew1 | refine below_set ?_ GE101.out | refine below_set ?_ GE102.out | refine below_set ?_ GE103.out | refine below_set ?_ GE104.out) | exact HB.out)⟩⟩
  case rest =>
    clear HC5
    try clear c1
    try clear c2
    try clear p2
    try clear c3
    try clear c4
    try clear c5
    try clear c11
    try clear c13
    try clear c15
    try clear c17
    try clear c18
    try clear c19
    try clear c22
    try clear c23
    try clear c26
    try clear c31
    try clear c32
    try clear c33
    try clear c36
    try clear c37
    try clear c40
    try clear c43
    try clear c44
    try clear c45
    try clear c48
    try clear c49
    try clear c52
    try clear c53
    try clear c54
    try clear hcz20_0
    try clear hcz20_1
    try clear hcz24_0
    try clear hcz24_1
    try clear hcz27_0
    try clear hcz27_1
    try clear hcz29_0
    try clear hcz29_1
    try clear hcz34_0
    try clear hcz34_1
    try clear hcz38_0
    try clear hcz38_1
    try clear hcz41_0
    try clear hcz41_1
    try clear hcz46_0
    try clear hcz46_1
    try clear hcz50_0
    try clear hcz50_1
    try clear hcz55_0
    try clear hcz55_1
    try clear hfz20_0
    try clear hfz20_1
    try clear hfz24_0
    try clear hfz24_1
    try clear hfz27_0
    try clear hfz27_1
    try clear hfz29_0
    try clear hfz29_1
    try clear hfz34_0
    try clear hfz34_1
    try clear hfz38_0
    try clear hfz38_1
    try clear hfz41_0
    try clear hfz41_1
    try clear hfz46_0
    try clear hfz46_1
    try clear hfz50_0
    try clear hfz50_1
    try clear hfz55_0
    try clear hfz55_1
    obtain ⟨kq, x34_4, rfl, HA, HJ4, BK101, BK102, BK103, BK104, HB⟩ := hcut
    cases kq with
    | zero => exact absurd HA.out (by simp [inquestlaw06_TernWithin.j0])
    | succ kj4 =>
      have H := HA.out
      clear HA
      simp only [inquestlaw06_TernWithin.j0] at H
      by_cases c57 : x34_4 = true
      · subst c57
        have H1 : ((inquestlaw06_lives.f).bind fun t109 => (some t109)) = some r := by rw [if_pos rfl] at H; exact H
        clear H
        have H := H1
        clear H1
        replace H := Option.bind_eq_some_iff.mp H
        obtain ⟨t109, A580, H⟩ := H
        replace H : (some t109) = some r := H
        have A58 := Aside0.mk A580
        clear A580
        obtain rfl := Option.some.inj H
        go_wp2_with (first | ((with_reducible refine gate_callee (f := 12) rfl ?_); refine goesL_ (some 35) rfl rfl Try.func12 (by kernel_rfl) rfl #[] rfl (by (try simp only [List.map_toArray, List.map_cons, List.map_nil]); first | done | rfl | (simp only [List.length_drop, List.length_take]; rfl)) ?_; (with_reducible refine (inquestlaw06_lives.calls  t109 _ A58.out).mono ?_); rintro e w59 ⟨rfl, hb⟩; refine ⟨_, rfl, ?_⟩; have n0_ := Aside0.mk (blk_below (g := gb101) (o := .cells #[.int .u64 a0_0, .int .u64 a0_1] 24 (0, 0)) (by (with_reducible repeat (first | refine blk_drewN ?_ _ | refine blk_drew ?_ | refine blk_alloc ?_ _)); exact BK101.out) hb); have n1_ := Aside0.mk (blk_below (g := gb102) (o := .cells #[.int .u64 a1_0, .int .u64 a1_1] 24 (0, 0)) (by (with_reducible repeat (first | refine blk_drewN ?_ _ | refine blk_drew ?_ | refine blk_alloc ?_ _)); exact BK102.out) hb); have n2_ := Aside0.mk (blk_below (g := gb103) (o := .cells #[.int .u64 a2_0, .int .u64 a2_1] 24 (0, 0)) (by (with_reducible repeat (first | refine blk_drewN ?_ _ | refine blk_drew ?_ | refine blk_alloc ?_ _)); exact BK103.out) hb); have n3_ := Aside0.mk (blk_below (g := gb104) (o := .cells #[.int .u64 a3_0, .int .u64 a3_1] 24 (0, 0)) (by (with_reducible repeat (first | refine blk_drewN ?_ _ | refine blk_drew ?_ | refine blk_alloc ?_ _)); exact BK104.out) hb); have n4_ := Aside0.mk (below_step (by repeat (first | (with_reducible first | exact HB.out | apply below_alloc | apply pw_below_drewN | apply below_drew1 | refine below_set ?_ GE101.out | refine below_set ?_ GE102.out | refine below_set ?_ GE103.out | refine below_set ?_ GE104.out) | exact HB.out)) hb); clear BK101; clear BK102; clear BK103; clear BK104; clear HB; have BK101 := n0_; have BK102 := n1_; have BK103 := n2_; have BK104 := n3_; have HB := n4_; clear n0_ n1_ n2_ n3_ n4_; (try clear hb); (try clear hb2); (try clear hk); (try clear hi)))
        go_ret
        exact ⟨by first | rfl | (simp [errW_none, errW_some] <;> rfl) | (simp [*, errW_none, errW_some] <;> rfl), by repeat (first | (with_reducible first | exact HB.out | apply below_alloc | apply pw_below_drewN | apply below_drew1 | refine below_set ?_ GE101.out | refine below_set ?_ GE102.out | refine below_set ?_ GE103.out | refine below_set ?_ GE104.out) | exact HB.out)⟩
      · replace c57 := Bool.eq_false_iff.mpr c57
        subst c57
        have H1 : ((tern_Within.f a0_0 a0_1 a1_0 a1_1).bind fun t110 => ((tern_Within.f a2_0 a2_1 a3_0 a3_1).bind fun t111 => ((tern_Not.f a0_0 a0_1).bind fun bt112 => ((tern_Not.f a1_0 a1_1).bind fun bt114 => ((tern_Within.f bt112.1 bt112.2 bt114.1 bt114.2).bind fun t116 => (if (Go.bits .andNot .u64 t110 t116) = 0 then ((tern_And.f a0_0 a0_1 a2_0 a2_1).bind fun bt117 => ((tern_And.f a1_0 a1_1 a3_0 a3_1).bind fun bt119 => ((tern_Within.f bt117.1 bt117.2 bt119.1 bt119.2).bind fun t121 => (inquestlaw06_TernWithin.j1 kj4 t110 ((Go.bits .andNot .u64 (Go.bits .and .u64 t110 t111) t121) != 0) a0_0 a0_1 a1_0 a1_1)))) else (inquestlaw06_TernWithin.j1 kj4 t110 true a0_0 a0_1 a1_0 a1_1))))))) = some r := by rw [if_neg (show ¬ (false = true) by decide)] at H; exact H
        clear H
        have H := H1
        clear H1
        replace H := Option.bind_eq_some_iff.mp H
        obtain ⟨t110, A600, H⟩ := H
        replace H : ((tern_Within.f a2_0 a2_1 a3_0 a3_1).bind fun t111 => ((tern_Not.f a0_0 a0_1).bind fun bt112 => ((tern_Not.f a1_0 a1_1).bind fun bt114 => ((tern_Within.f bt112.1 bt112.2 bt114.1 bt114.2).bind fun t116 => (if (Go.bits .andNot .u64 t110 t116) = 0 then ((tern_And.f a0_0 a0_1 a2_0 a2_1).bind fun bt117 => ((tern_And.f a1_0 a1_1 a3_0 a3_1).bind fun bt119 => ((tern_Within.f bt117.1 bt117.2 bt119.1 bt119.2).bind fun t121 => (inquestlaw06_TernWithin.j1 kj4 t110 ((Go.bits .andNot .u64 (Go.bits .and .u64 t110 t111) t121) != 0) a0_0 a0_1 a1_0 a1_1)))) else (inquestlaw06_TernWithin.j1 kj4 t110 true a0_0 a0_1 a1_0 a1_1)))))) = some r := H
        have A60 := Aside0.mk A600
        clear A600
        replace H := Option.bind_eq_some_iff.mp H
        obtain ⟨t111, A610, H⟩ := H
        replace H : ((tern_Not.f a0_0 a0_1).bind fun bt112 => ((tern_Not.f a1_0 a1_1).bind fun bt114 => ((tern_Within.f bt112.1 bt112.2 bt114.1 bt114.2).bind fun t116 => (if (Go.bits .andNot .u64 t110 t116) = 0 then ((tern_And.f a0_0 a0_1 a2_0 a2_1).bind fun bt117 => ((tern_And.f a1_0 a1_1 a3_0 a3_1).bind fun bt119 => ((tern_Within.f bt117.1 bt117.2 bt119.1 bt119.2).bind fun t121 => (inquestlaw06_TernWithin.j1 kj4 t110 ((Go.bits .andNot .u64 (Go.bits .and .u64 t110 t111) t121) != 0) a0_0 a0_1 a1_0 a1_1)))) else (inquestlaw06_TernWithin.j1 kj4 t110 true a0_0 a0_1 a1_0 a1_1))))) = some r := H
        have A61 := Aside0.mk A610
        clear A610
        have HC62 := Aside0.mk H
        clear H
        try go_wp2
        have n0_ := Aside0.mk (blk_drew BK101.out)
        have n1_ := Aside0.mk (blk_drew BK102.out)
        have n2_ := Aside0.mk (blk_drew BK103.out)
        have n3_ := Aside0.mk (blk_drew BK104.out)
        have n4_ := Aside0.mk (below_drew1 HB.out)
        clear BK101
        clear BK102
        clear BK103
        clear BK104
        clear HB
        have BK101 := n0_
        have BK102 := n1_
        have BK103 := n2_
        have BK104 := n3_
        have HB := n4_
        clear n0_ n1_ n2_ n3_ n4_
        refine start_ (n := 8) (S := fun w' => w'.cell? ⟨gb101, 0, none⟩ = some (.int .u64 a0_0) ∧ w'.cell? ⟨gb101, 1, none⟩ = some (.int .u64 a0_1) ∧ w'.cell? ⟨gb102, 0, none⟩ = some (.int .u64 a1_0) ∧ w'.cell? ⟨gb102, 1, none⟩ = some (.int .u64 a1_1) ∧ w'.cell? ⟨gb103, 0, none⟩ = some (.int .u64 a2_0) ∧ w'.cell? ⟨gb103, 1, none⟩ = some (.int .u64 a2_1) ∧ w'.cell? ⟨gb104, 0, none⟩ = some (.int .u64 a3_0) ∧ w'.cell? ⟨gb104, 1, none⟩ = some (.int .u64 a3_1)) (ds := []) #[false, false, false, false, false, false, false, false] (by kernel_rfl) rfl rfl ⟨(blk_cell BK101.out 0).trans rfl, (blk_cell BK101.out 1).trans rfl, (blk_cell BK102.out 0).trans rfl, (blk_cell BK102.out 1).trans rfl, (blk_cell BK103.out 0).trans rfl, (blk_cell BK103.out 1).trans rfl, (blk_cell BK104.out 0).trans rfl, (blk_cell BK104.out 1).trans rfl⟩ (fun hHeld => ?_); refine with_tabW inquestlaw06_TernWithin.tab3 inquestlaw06_TernWithin.bits3 (fun HT_ HW_ => ?_)
        generalize wc.drew = w63 at BK101 BK102 BK103 BK104 HB hHeld ⊢
        refine take_ (i := 0) (N := some 36) (v := ?_) (a' := ?_) #[true, false, false, false, false, false, false, false] rfl rfl (take_ofW HT_.out HW_.out (by kernel_rfl)) (fun _ _ _ h => h) (Or.inl ⟨by rfl, ?_⟩) hHeld ?_ ?_
        rotate_left
        · rintro w' ⟨s0, s1, s2, s3, s4, s5, s6, s7⟩
          go_simp
          with_reducible rfl
        rotate_left
        · simp only [Act.put, List.setIfInBounds_toArray, List.set_cons_zero, List.set_cons_succ, i64_w, i32_w]
          rfl
        refine take_ (i := 1) (N := some 37) (v := ?_) (a' := ?_) #[true, true, false, false, false, false, false, false] rfl rfl (take_ofW HT_.out HW_.out (by kernel_rfl)) (fun _ _ _ h => h) (Or.inl ⟨by rfl, ?_⟩) hHeld ?_ ?_
        rotate_left
        · rintro w' ⟨s0, s1, s2, s3, s4, s5, s6, s7⟩
          go_simp
          with_reducible rfl
        rotate_left
        · simp only [Act.put, List.setIfInBounds_toArray, List.set_cons_zero, List.set_cons_succ, i64_w, i32_w]
          rfl
        refine take_ (i := 3) (N := some 39) (v := ?_) (a' := ?_) #[true, true, false, true, false, false, false, false] rfl rfl (take_ofW HT_.out HW_.out (by kernel_rfl)) (fun _ _ _ h => h) (Or.inl ⟨by rfl, ?_⟩) hHeld ?_ ?_
        rotate_left
        · rintro w' ⟨s0, s1, s2, s3, s4, s5, s6, s7⟩
          go_simp
          with_reducible rfl
        rotate_left
        · simp only [Act.put, List.setIfInBounds_toArray, List.set_cons_zero, List.set_cons_succ, i64_w, i32_w]
          rfl
        refine take_ (i := 4) (N := some 40) (v := ?_) (a' := ?_) #[true, true, false, true, true, false, false, false] rfl rfl (take_ofW HT_.out HW_.out (by kernel_rfl)) (fun _ _ _ h => h) (Or.inl ⟨by rfl, ?_⟩) hHeld ?_ ?_
        rotate_left
        · rintro w' ⟨s0, s1, s2, s3, s4, s5, s6, s7⟩
          go_simp
          with_reducible rfl
        rotate_left
        · simp only [Act.put, List.setIfInBounds_toArray, List.set_cons_zero, List.set_cons_succ, i64_w, i32_w]
          rfl
        refine one_ (i := 2) (N := some 38) #[true, true, true, true, true, false, false, false] rfl rfl (one_of HT_.out (by kernel_rfl)) (by decide) (fun K hK => ?_)
        refine goes_ Try.func13 (by kernel_rfl) rfl #[.agg #[.int .u64 a0_0, .int .u64 a0_1], .agg #[.int .u64 a1_0, .int .u64 a1_1]] (by rfl) rfl rfl (by (try simp only [List.map_toArray, List.map_cons, List.map_nil]); first | done | rfl | (simp only [List.length_drop, List.length_take]; rfl)) ?_
        with_reducible refine (tern_Within.calls a0_0 a0_1 a1_0 a1_1 t110 _ A60.out).mono ?_
        rintro e w64 ⟨rfl, hb⟩
        refine ⟨_, rfl, ?_⟩
        have n0_ := Aside0.mk (blk_below (g := gb101) (o := .cells #[.int .u64 a0_0, .int .u64 a0_1] 24 (0, 0)) (by (with_reducible repeat (first | refine blk_drewN ?_ _ | refine blk_drew ?_ | refine blk_alloc ?_ _)); exact BK101.out) hb)
        have n1_ := Aside0.mk (blk_below (g := gb102) (o := .cells #[.int .u64 a1_0, .int .u64 a1_1] 24 (0, 0)) (by (with_reducible repeat (first | refine blk_drewN ?_ _ | refine blk_drew ?_ | refine blk_alloc ?_ _)); exact BK102.out) hb)
        have n2_ := Aside0.mk (blk_below (g := gb103) (o := .cells #[.int .u64 a2_0, .int .u64 a2_1] 24 (0, 0)) (by (with_reducible repeat (first | refine blk_drewN ?_ _ | refine blk_drew ?_ | refine blk_alloc ?_ _)); exact BK103.out) hb)
        have n3_ := Aside0.mk (blk_below (g := gb104) (o := .cells #[.int .u64 a3_0, .int .u64 a3_1] 24 (0, 0)) (by (with_reducible repeat (first | refine blk_drewN ?_ _ | refine blk_drew ?_ | refine blk_alloc ?_ _)); exact BK104.out) hb)
        have n4_ := Aside0.mk (below_step (by repeat (first | (with_reducible first | exact HB.out | apply below_alloc | apply pw_below_drewN | apply below_drew1 | refine below_set ?_ GE101.out | refine below_set ?_ GE102.out | refine below_set ?_ GE103.out | refine below_set ?_ GE104.out) | exact HB.out)) hb)
        clear BK101
        clear BK102
        clear BK103
        clear BK104
        clear HB
        have BK101 := n0_
        have BK102 := n1_
        have BK103 := n2_
        have BK104 := n3_
        have HB := n4_
        clear n0_ n1_ n2_ n3_ n4_
        (try clear hb)
        (try clear hb2)
        (try clear hk)
        (try clear hi)
        refine hK.out _ _ ⟨(blk_cell BK101.out 0).trans rfl, (blk_cell BK101.out 1).trans rfl, (blk_cell BK102.out 0).trans rfl, (blk_cell BK102.out 1).trans rfl, (blk_cell BK103.out 0).trans rfl, (blk_cell BK103.out 1).trans rfl, (blk_cell BK104.out 0).trans rfl, (blk_cell BK104.out 1).trans rfl⟩ (fun hHeld => ?_)
        clear hK K
        refine norm_ (a' := ?_) ?_ ?_
        rotate_left
        · show Act.put _ (some 38) _ = _
          simp only [Act.put, List.setIfInBounds_toArray, List.set_cons_zero, List.set_cons_succ, i64_w, i32_w]
          rfl
        refine one_ (i := 5) (N := some 41) #[true, true, true, true, true, true, false, false] rfl rfl (one_of HT_.out (by kernel_rfl)) (by decide) (fun K hK => ?_)
        refine goes_ Try.func13 (by kernel_rfl) rfl #[.agg #[.int .u64 a2_0, .int .u64 a2_1], .agg #[.int .u64 a3_0, .int .u64 a3_1]] (by rfl) rfl rfl (by (try simp only [List.map_toArray, List.map_cons, List.map_nil]); first | done | rfl | (simp only [List.length_drop, List.length_take]; rfl)) ?_
        with_reducible refine (tern_Within.calls a2_0 a2_1 a3_0 a3_1 t111 _ A61.out).mono ?_
        rintro e w65 ⟨rfl, hb⟩
        refine ⟨_, rfl, ?_⟩
        have n0_ := Aside0.mk (blk_below (g := gb101) (o := .cells #[.int .u64 a0_0, .int .u64 a0_1] 24 (0, 0)) (by (with_reducible repeat (first | refine blk_drewN ?_ _ | refine blk_drew ?_ | refine blk_alloc ?_ _)); exact BK101.out) hb)
        have n1_ := Aside0.mk (blk_below (g := gb102) (o := .cells #[.int .u64 a1_0, .int .u64 a1_1] 24 (0, 0)) (by (with_reducible repeat (first | refine blk_drewN ?_ _ | refine blk_drew ?_ | refine blk_alloc ?_ _)); exact BK102.out) hb)
        have n2_ := Aside0.mk (blk_below (g := gb103) (o := .cells #[.int .u64 a2_0, .int .u64 a2_1] 24 (0, 0)) (by (with_reducible repeat (first | refine blk_drewN ?_ _ | refine blk_drew ?_ | refine blk_alloc ?_ _)); exact BK103.out) hb)
        have n3_ := Aside0.mk (blk_below (g := gb104) (o := .cells #[.int .u64 a3_0, .int .u64 a3_1] 24 (0, 0)) (by (with_reducible repeat (first | refine blk_drewN ?_ _ | refine blk_drew ?_ | refine blk_alloc ?_ _)); exact BK104.out) hb)
        have n4_ := Aside0.mk (below_step (by repeat (first | (with_reducible first | exact HB.out | apply below_alloc | apply pw_below_drewN | apply below_drew1 | refine below_set ?_ GE101.out | refine below_set ?_ GE102.out | refine below_set ?_ GE103.out | refine below_set ?_ GE104.out) | exact HB.out)) hb)
        clear BK101
        clear BK102
        clear BK103
        clear BK104
        clear HB
        have BK101 := n0_
        have BK102 := n1_
        have BK103 := n2_
        have BK104 := n3_
        have HB := n4_
        clear n0_ n1_ n2_ n3_ n4_
        (try clear hb)
        (try clear hb2)
        (try clear hk)
        (try clear hi)
        refine hK.out _ _ ⟨(blk_cell BK101.out 0).trans rfl, (blk_cell BK101.out 1).trans rfl, (blk_cell BK102.out 0).trans rfl, (blk_cell BK102.out 1).trans rfl, (blk_cell BK103.out 0).trans rfl, (blk_cell BK103.out 1).trans rfl, (blk_cell BK104.out 0).trans rfl, (blk_cell BK104.out 1).trans rfl⟩ (fun hHeld => ?_)
        clear hK K
        refine norm_ (a' := ?_) ?_ ?_
        rotate_left
        · show Act.put _ (some 41) _ = _
          simp only [Act.put, List.setIfInBounds_toArray, List.set_cons_zero, List.set_cons_succ, i64_w, i32_w]
          rfl
        refine pure_ (i := 6) (N := some 9) (v := ?_) (a' := ?_) #[true, true, true, true, true, true, true, false] rfl rfl (any_of HT_.out (by kernel_rfl)) (fun _ _ _ h => h) (Or.inl ⟨by rfl, ?_⟩) ?_ ?_
        rotate_left
        · intro w'
          go_simp
          with_reducible rfl
        rotate_left
        · simp only [Act.put, List.setIfInBounds_toArray, List.set_cons_zero, List.set_cons_succ, i64_w, i32_w]
          rfl
        refine pure_ (i := 7) (N := some 10) (v := ?_) (a' := ?_) #[true, true, true, true, true, true, true, true] rfl rfl (any_of HT_.out (by kernel_rfl)) (fun _ _ _ h => h) (Or.inl ⟨by rfl, ?_⟩) ?_ ?_
        rotate_left
        · intro w'
          go_simp
          with_reducible rfl
        rotate_left
        · simp only [Act.put, List.setIfInBounds_toArray, List.set_cons_zero, List.set_cons_succ, i64_w, i32_w]
          rfl
        refine done_ (done_of HT_.out (by kernel_rfl)) ?_
        go_upto_region 4 with (fail)
        go_cut [63] (fun v63 wc => ∃ (kq : Nat) (x63_61 : Bool), v63 = .bool x63_61 ∧ Aside0 (inquestlaw06_TernWithin.j1 kq t110 x63_61 a0_0 a0_1 a1_0 a1_1 = some r) ∧ Aside0 (kq ≤ kj4) ∧ Aside0 (wc.heap[gb101]? = some (.cells #[.int .u64 a0_0, .int .u64 a0_1] 24 (0, 0))) ∧ Aside0 (wc.heap[gb102]? = some (.cells #[.int .u64 a1_0, .int .u64 a1_1] 24 (0, 0))) ∧ Aside0 (wc.heap[gb103]? = some (.cells #[.int .u64 a2_0, .int .u64 a2_1] 24 (0, 0))) ∧ Aside0 (wc.heap[gb104]? = some (.cells #[.int .u64 a3_0, .int .u64 a3_1] 24 (0, 0))) ∧ Aside0 (Below w.heap.size w wc))
        case first =>
          have H := HC62.out
          clear HC62
          replace H := Option.bind_eq_some_iff.mp H
          obtain ⟨⟨t112, t113⟩, A660, H⟩ := H
          replace H : ((tern_Not.f a1_0 a1_1).bind fun bt114 => ((tern_Within.f t112 t113 bt114.1 bt114.2).bind fun t116 => (if (Go.bits .andNot .u64 t110 t116) = 0 then ((tern_And.f a0_0 a0_1 a2_0 a2_1).bind fun bt117 => ((tern_And.f a1_0 a1_1 a3_0 a3_1).bind fun bt119 => ((tern_Within.f bt117.1 bt117.2 bt119.1 bt119.2).bind fun t121 => (inquestlaw06_TernWithin.j1 kj4 t110 ((Go.bits .andNot .u64 (Go.bits .and .u64 t110 t111) t121) != 0) a0_0 a0_1 a1_0 a1_1)))) else (inquestlaw06_TernWithin.j1 kj4 t110 true a0_0 a0_1 a1_0 a1_1)))) = some r := H
          have A66 := Aside0.mk A660
          clear A660
          replace H := Option.bind_eq_some_iff.mp H
          obtain ⟨⟨t114, t115⟩, A670, H⟩ := H
          replace H : ((tern_Within.f t112 t113 t114 t115).bind fun t116 => (if (Go.bits .andNot .u64 t110 t116) = 0 then ((tern_And.f a0_0 a0_1 a2_0 a2_1).bind fun bt117 => ((tern_And.f a1_0 a1_1 a3_0 a3_1).bind fun bt119 => ((tern_Within.f bt117.1 bt117.2 bt119.1 bt119.2).bind fun t121 => (inquestlaw06_TernWithin.j1 kj4 t110 ((Go.bits .andNot .u64 (Go.bits .and .u64 t110 t111) t121) != 0) a0_0 a0_1 a1_0 a1_1)))) else (inquestlaw06_TernWithin.j1 kj4 t110 true a0_0 a0_1 a1_0 a1_1))) = some r := H
          have A67 := Aside0.mk A670
          clear A670
          replace H := Option.bind_eq_some_iff.mp H
          obtain ⟨t116, A680, H⟩ := H
          replace H : (if (Go.bits .andNot .u64 t110 t116) = 0 then ((tern_And.f a0_0 a0_1 a2_0 a2_1).bind fun bt117 => ((tern_And.f a1_0 a1_1 a3_0 a3_1).bind fun bt119 => ((tern_Within.f bt117.1 bt117.2 bt119.1 bt119.2).bind fun t121 => (inquestlaw06_TernWithin.j1 kj4 t110 ((Go.bits .andNot .u64 (Go.bits .and .u64 t110 t111) t121) != 0) a0_0 a0_1 a1_0 a1_1)))) else (inquestlaw06_TernWithin.j1 kj4 t110 true a0_0 a0_1 a1_0 a1_1)) = some r := H
          have A68 := Aside0.mk A680
          clear A680
          by_cases c69 : (Go.bits .andNot .u64 t110 t116) = 0
          · rw [if_pos c69] at H
            have c69b0 : ((Go.bits .andNot .u64 t110 t116) == 0) = true := beq_iff_eq.mpr c69
            have c69b1 : ((Go.bits .andNot .u64 t110 t116) != 0) = false := bne_eq_false_iff_eq.mpr c69
            clear c69
            (first | rw [c69b0] | (simp only [i64_w, i32_w]; rw [c69b0]) | skip)
            replace H := Option.bind_eq_some_iff.mp H
            obtain ⟨⟨t117, t118⟩, A700, H⟩ := H
            replace H : ((tern_And.f a1_0 a1_1 a3_0 a3_1).bind fun bt119 => ((tern_Within.f t117 t118 bt119.1 bt119.2).bind fun t121 => (inquestlaw06_TernWithin.j1 kj4 t110 ((Go.bits .andNot .u64 (Go.bits .and .u64 t110 t111) t121) != 0) a0_0 a0_1 a1_0 a1_1))) = some r := H
            have A70 := Aside0.mk A700
            clear A700
            replace H := Option.bind_eq_some_iff.mp H
            obtain ⟨⟨t119, t120⟩, A710, H⟩ := H
            replace H : ((tern_Within.f t117 t118 t119 t120).bind fun t121 => (inquestlaw06_TernWithin.j1 kj4 t110 ((Go.bits .andNot .u64 (Go.bits .and .u64 t110 t111) t121) != 0) a0_0 a0_1 a1_0 a1_1)) = some r := H
            have A71 := Aside0.mk A710
            clear A710
            replace H := Option.bind_eq_some_iff.mp H
            obtain ⟨t121, A720, H⟩ := H
            replace H : (inquestlaw06_TernWithin.j1 kj4 t110 ((Go.bits .andNot .u64 (Go.bits .and .u64 t110 t111) t121) != 0) a0_0 a0_1 a1_0 a1_1) = some r := H
            have A72 := Aside0.mk A720
            clear A720
            have H' := Aside0.mk H
            clear H
            try go_wp2
            have n0_ := Aside0.mk (blk_drew BK101.out)
            have n1_ := Aside0.mk (blk_drew BK102.out)
            have n2_ := Aside0.mk (blk_drew BK103.out)
            have n3_ := Aside0.mk (blk_drew BK104.out)
            have n4_ := Aside0.mk (below_drew1 HB.out)
            clear BK101
            clear BK102
            clear BK103
            clear BK104
            clear HB
            have BK101 := n0_
            have BK102 := n1_
            have BK103 := n2_
            have BK104 := n3_
            have HB := n4_
            clear n0_ n1_ n2_ n3_ n4_
            refine start_ (n := 22) (S := fun w' => w'.cell? ⟨gb101, 0, none⟩ = some (.int .u64 a0_0) ∧ w'.cell? ⟨gb101, 1, none⟩ = some (.int .u64 a0_1) ∧ w'.cell? ⟨gb102, 0, none⟩ = some (.int .u64 a1_0) ∧ w'.cell? ⟨gb102, 1, none⟩ = some (.int .u64 a1_1) ∧ w'.cell? ⟨gb103, 0, none⟩ = some (.int .u64 a2_0) ∧ w'.cell? ⟨gb103, 1, none⟩ = some (.int .u64 a2_1) ∧ w'.cell? ⟨gb104, 0, none⟩ = some (.int .u64 a3_0) ∧ w'.cell? ⟨gb104, 1, none⟩ = some (.int .u64 a3_1)) (ds := []) #[false, false, false, false, false, false, false, false, false, false, false, false, false, false, false, false, false, false, false, false, false, false] (by kernel_rfl) rfl rfl ⟨(blk_cell BK101.out 0).trans rfl, (blk_cell BK101.out 1).trans rfl, (blk_cell BK102.out 0).trans rfl, (blk_cell BK102.out 1).trans rfl, (blk_cell BK103.out 0).trans rfl, (blk_cell BK103.out 1).trans rfl, (blk_cell BK104.out 0).trans rfl, (blk_cell BK104.out 1).trans rfl⟩ (fun hHeld => ?_); refine with_tabW inquestlaw06_TernWithin.tab4 inquestlaw06_TernWithin.bits4 (fun HT_ HW_ => ?_)
            generalize w65.drew = w73 at BK101 BK102 BK103 BK104 HB hHeld ⊢
            refine pure_ (i := 0) (N := some 42) (v := ?_) (a' := ?_) #[true, false, false, false, false, false, false, false, false, false, false, false, false, false, false, false, false, false, false, false, false, false] rfl rfl (any_of HT_.out (by kernel_rfl)) (fun _ _ _ h => h) (Or.inl ⟨by rfl, ?_⟩) ?_ ?_
            rotate_left
            · intro w'
              go_simp
              with_reducible rfl
            rotate_left
            · simp only [Act.put, List.setIfInBounds_toArray, List.set_cons_zero, List.set_cons_succ, i64_w, i32_w]
              rfl
            refine take_ (i := 1) (N := some 43) (v := ?_) (a' := ?_) #[true, true, false, false, false, false, false, false, false, false, false, false, false, false, false, false, false, false, false, false, false, false] rfl rfl (take_ofW HT_.out HW_.out (by kernel_rfl)) (fun _ _ _ h => h) (Or.inl ⟨by rfl, ?_⟩) hHeld ?_ ?_
            rotate_left
            · rintro w' ⟨s0, s1, s2, s3, s4, s5, s6, s7⟩
              go_simp
              with_reducible rfl
            rotate_left
            · simp only [Act.put, List.setIfInBounds_toArray, List.set_cons_zero, List.set_cons_succ, i64_w, i32_w]
              rfl
            refine take_ (i := 3) (N := some 45) (v := ?_) (a' := ?_) #[true, true, false, true, false, false, false, false, false, false, false, false, false, false, false, false, false, false, false, false, false, false] rfl rfl (take_ofW HT_.out HW_.out (by kernel_rfl)) (fun _ _ _ h => h) (Or.inl ⟨by rfl, ?_⟩) hHeld ?_ ?_
            rotate_left
            · rintro w' ⟨s0, s1, s2, s3, s4, s5, s6, s7⟩
              go_simp
              with_reducible rfl
            rotate_left
            · simp only [Act.put, List.setIfInBounds_toArray, List.set_cons_zero, List.set_cons_succ, i64_w, i32_w]
              rfl
            refine one_ (i := 2) (N := some 44) #[true, true, true, true, false, false, false, false, false, false, false, false, false, false, false, false, false, false, false, false, false, false] rfl rfl (one_of HT_.out (by kernel_rfl)) (by decide) (fun K hK => ?_)
            refine goes_ Try.func14 (by kernel_rfl) rfl #[.agg #[.int .u64 a0_0, .int .u64 a0_1]] (by rfl) rfl rfl (by (try simp only [List.map_toArray, List.map_cons, List.map_nil]); first | done | rfl | (simp only [List.length_drop, List.length_take]; rfl)) ?_
            with_reducible refine (tern_Not.calls a0_0 a0_1 t112 t113 _ A66.out).mono ?_
            rintro e w74 ⟨rfl, hb⟩
            refine ⟨_, rfl, ?_⟩
            have n0_ := Aside0.mk (blk_below (g := gb101) (o := .cells #[.int .u64 a0_0, .int .u64 a0_1] 24 (0, 0)) (by (with_reducible repeat (first | refine blk_drewN ?_ _ | refine blk_drew ?_ | refine blk_alloc ?_ _)); exact BK101.out) hb)
            have n1_ := Aside0.mk (blk_below (g := gb102) (o := .cells #[.int .u64 a1_0, .int .u64 a1_1] 24 (0, 0)) (by (with_reducible repeat (first | refine blk_drewN ?_ _ | refine blk_drew ?_ | refine blk_alloc ?_ _)); exact BK102.out) hb)
            have n2_ := Aside0.mk (blk_below (g := gb103) (o := .cells #[.int .u64 a2_0, .int .u64 a2_1] 24 (0, 0)) (by (with_reducible repeat (first | refine blk_drewN ?_ _ | refine blk_drew ?_ | refine blk_alloc ?_ _)); exact BK103.out) hb)
            have n3_ := Aside0.mk (blk_below (g := gb104) (o := .cells #[.int .u64 a3_0, .int .u64 a3_1] 24 (0, 0)) (by (with_reducible repeat (first | refine blk_drewN ?_ _ | refine blk_drew ?_ | refine blk_alloc ?_ _)); exact BK104.out) hb)
            have n4_ := Aside0.mk (below_step (by repeat (first | (with_reducible first | exact HB.out | apply below_alloc | apply pw_below_drewN | apply below_drew1 | refine below_set ?_ GE101.out | refine below_set ?_ GE102.out | refine below_set ?_ GE103.out | refine below_set ?_ GE104.out) | exact HB.out)) hb)
            clear BK101
            clear BK102
            clear BK103
            clear BK104
            clear HB
            have BK101 := n0_
            have BK102 := n1_
            have BK103 := n2_
            have BK104 := n3_
            have HB := n4_
            clear n0_ n1_ n2_ n3_ n4_
            (try clear hb)
            (try clear hb2)
            (try clear hk)
            (try clear hi)
            refine hK.out _ _ ⟨(blk_cell BK101.out 0).trans rfl, (blk_cell BK101.out 1).trans rfl, (blk_cell BK102.out 0).trans rfl, (blk_cell BK102.out 1).trans rfl, (blk_cell BK103.out 0).trans rfl, (blk_cell BK103.out 1).trans rfl, (blk_cell BK104.out 0).trans rfl, (blk_cell BK104.out 1).trans rfl⟩ (fun hHeld => ?_)
            clear hK K
            refine norm_ (a' := ?_) ?_ ?_
            rotate_left
            · show Act.put _ (some 44) _ = _
              simp only [Act.put, List.setIfInBounds_toArray, List.set_cons_zero, List.set_cons_succ, i64_w, i32_w]
              rfl
            refine one_ (i := 4) (N := some 46) #[true, true, true, true, true, false, false, false, false, false, false, false, false, false, false, false, false, false, false, false, false, false] rfl rfl (one_of HT_.out (by kernel_rfl)) (by decide) (fun K hK => ?_)
            refine goes_ Try.func14 (by kernel_rfl) rfl #[.agg #[.int .u64 a1_0, .int .u64 a1_1]] (by rfl) rfl rfl (by (try simp only [List.map_toArray, List.map_cons, List.map_nil]); first | done | rfl | (simp only [List.length_drop, List.length_take]; rfl)) ?_
            with_reducible refine (tern_Not.calls a1_0 a1_1 t114 t115 _ A67.out).mono ?_
            rintro e w75 ⟨rfl, hb⟩
            refine ⟨_, rfl, ?_⟩
            have n0_ := Aside0.mk (blk_below (g := gb101) (o := .cells #[.int .u64 a0_0, .int .u64 a0_1] 24 (0, 0)) (by (with_reducible repeat (first | refine blk_drewN ?_ _ | refine blk_drew ?_ | refine blk_alloc ?_ _)); exact BK101.out) hb)
            have n1_ := Aside0.mk (blk_below (g := gb102) (o := .cells #[.int .u64 a1_0, .int .u64 a1_1] 24 (0, 0)) (by (with_reducible repeat (first | refine blk_drewN ?_ _ | refine blk_drew ?_ | refine blk_alloc ?_ _)); exact BK102.out) hb)
            have n2_ := Aside0.mk (blk_below (g := gb103) (o := .cells #[.int .u64 a2_0, .int .u64 a2_1] 24 (0, 0)) (by (with_reducible repeat (first | refine blk_drewN ?_ _ | refine blk_drew ?_ | refine blk_alloc ?_ _)); exact BK103.out) hb)
            have n3_ := Aside0.mk (blk_below (g := gb104) (o := .cells #[.int .u64 a3_0, .int .u64 a3_1] 24 (0, 0)) (by (with_reducible repeat (first | refine blk_drewN ?_ _ | refine blk_drew ?_ | refine blk_alloc ?_ _)); exact BK104.out) hb)
            have n4_ := Aside0.mk (below_step (by repeat (first | (with_reducible first | exact HB.out | apply below_alloc | apply pw_below_drewN | apply below_drew1 | refine below_set ?_ GE101.out | refine below_set ?_ GE102.out | refine below_set ?_ GE103.out | refine below_set ?_ GE104.out) | exact HB.out)) hb)
            clear BK101
            clear BK102
            clear BK103
            clear BK104
            clear HB
            have BK101 := n0_
            have BK102 := n1_
            have BK103 := n2_
            have BK104 := n3_
            have HB := n4_
            clear n0_ n1_ n2_ n3_ n4_
            (try clear hb)
            (try clear hb2)
            (try clear hk)
            (try clear hi)
            refine hK.out _ _ ⟨(blk_cell BK101.out 0).trans rfl, (blk_cell BK101.out 1).trans rfl, (blk_cell BK102.out 0).trans rfl, (blk_cell BK102.out 1).trans rfl, (blk_cell BK103.out 0).trans rfl, (blk_cell BK103.out 1).trans rfl, (blk_cell BK104.out 0).trans rfl, (blk_cell BK104.out 1).trans rfl⟩ (fun hHeld => ?_)
            clear hK K
            refine norm_ (a' := ?_) ?_ ?_
            rotate_left
            · show Act.put _ (some 46) _ = _
              simp only [Act.put, List.setIfInBounds_toArray, List.set_cons_zero, List.set_cons_succ, i64_w, i32_w]
              rfl
            refine one_ (i := 5) (N := some 47) #[true, true, true, true, true, true, false, false, false, false, false, false, false, false, false, false, false, false, false, false, false, false] rfl rfl (one_of HT_.out (by kernel_rfl)) (by decide) (fun K hK => ?_)
            refine goes_ Try.func13 (by kernel_rfl) rfl #[.agg #[.int .u64 t112, .int .u64 t113], .agg #[.int .u64 t114, .int .u64 t115]] (by rfl) rfl rfl (by (try simp only [List.map_toArray, List.map_cons, List.map_nil]); first | done | rfl | (simp only [List.length_drop, List.length_take]; rfl)) ?_
            with_reducible refine (tern_Within.calls t112 t113 t114 t115 t116 _ A68.out).mono ?_
            rintro e w76 ⟨rfl, hb⟩
            refine ⟨_, rfl, ?_⟩
            have n0_ := Aside0.mk (blk_below (g := gb101) (o := .cells #[.int .u64 a0_0, .int .u64 a0_1] 24 (0, 0)) (by (with_reducible repeat (first | refine blk_drewN ?_ _ | refine blk_drew ?_ | refine blk_alloc ?_ _)); exact BK101.out) hb)
            have n1_ := Aside0.mk (blk_below (g := gb102) (o := .cells #[.int .u64 a1_0, .int .u64 a1_1] 24 (0, 0)) (by (with_reducible repeat (first | refine blk_drewN ?_ _ | refine blk_drew ?_ | refine blk_alloc ?_ _)); exact BK102.out) hb)
            have n2_ := Aside0.mk (blk_below (g := gb103) (o := .cells #[.int .u64 a2_0, .int .u64 a2_1] 24 (0, 0)) (by (with_reducible repeat (first | refine blk_drewN ?_ _ | refine blk_drew ?_ | refine blk_alloc ?_ _)); exact BK103.out) hb)
            have n3_ := Aside0.mk (blk_below (g := gb104) (o := .cells #[.int .u64 a3_0, .int .u64 a3_1] 24 (0, 0)) (by (with_reducible repeat (first | refine blk_drewN ?_ _ | refine blk_drew ?_ | refine blk_alloc ?_ _)); exact BK104.out) hb)
            have n4_ := Aside0.mk (below_step (by repeat (first | (with_reducible first | exact HB.out | apply below_alloc | apply pw_below_drewN | apply below_drew1 | refine below_set ?_ GE101.out | refine below_set ?_ GE102.out | refine below_set ?_ GE103.out | refine below_set ?_ GE104.out) | exact HB.out)) hb)
            clear BK101
            clear BK102
            clear BK103
            clear BK104
            clear HB
            have BK101 := n0_
            have BK102 := n1_
            have BK103 := n2_
            have BK104 := n3_
            have HB := n4_
            clear n0_ n1_ n2_ n3_ n4_
            (try clear hb)
            (try clear hb2)
            (try clear hk)
            (try clear hi)
            refine hK.out _ _ ⟨(blk_cell BK101.out 0).trans rfl, (blk_cell BK101.out 1).trans rfl, (blk_cell BK102.out 0).trans rfl, (blk_cell BK102.out 1).trans rfl, (blk_cell BK103.out 0).trans rfl, (blk_cell BK103.out 1).trans rfl, (blk_cell BK104.out 0).trans rfl, (blk_cell BK104.out 1).trans rfl⟩ (fun hHeld => ?_)
            clear hK K
            refine norm_ (a' := ?_) ?_ ?_
            rotate_left
            · show Act.put _ (some 47) _ = _
              simp only [Act.put, List.setIfInBounds_toArray, List.set_cons_zero, List.set_cons_succ, i64_w, i32_w]
              rfl
            refine pure_ (i := 6) (N := some 48) (v := ?_) (a' := ?_) #[true, true, true, true, true, true, true, false, false, false, false, false, false, false, false, false, false, false, false, false, false, false] rfl rfl (any_of HT_.out (by kernel_rfl)) (fun _ _ _ h => h) (Or.inl ⟨by rfl, ?_⟩) ?_ ?_
            rotate_left
            · intro w'
              go_simp
              with_reducible rfl
            rotate_left
            · simp only [Act.put, List.setIfInBounds_toArray, List.set_cons_zero, List.set_cons_succ, i64_w, i32_w]
              rfl
            refine pure_ (i := 7) (N := some 49) (v := ?_) (a' := ?_) #[true, true, true, true, true, true, true, true, false, false, false, false, false, false, false, false, false, false, false, false, false, false] rfl rfl (any_of HT_.out (by kernel_rfl)) (fun _ _ _ h => h) (Or.inl ⟨by rfl, ?_⟩) ?_ ?_
            rotate_left
            · intro w'
              go_simp
              with_reducible rfl
            rotate_left
            · simp only [Act.put, List.setIfInBounds_toArray, List.set_cons_zero, List.set_cons_succ, i64_w, i32_w]
              rfl
            refine pure_ (i := 8) (N := some 50) (v := ?_) (a' := ?_) #[true, true, true, true, true, true, true, true, true, false, false, false, false, false, false, false, false, false, false, false, false, false] rfl rfl (any_of HT_.out (by kernel_rfl)) (fun _ _ _ h => h) (Or.inl ⟨by rfl, ?_⟩) ?_ ?_
            rotate_left
            · intro w'
              go_simp
              with_reducible rfl
            rotate_left
            · simp only [Act.put, List.setIfInBounds_toArray, List.set_cons_zero, List.set_cons_succ, i64_w, i32_w]
              rfl
            refine pure_ (i := 9) (N := some 51) (v := ?_) (a' := ?_) #[true, true, true, true, true, true, true, true, true, true, false, false, false, false, false, false, false, false, false, false, false, false] rfl rfl (any_of HT_.out (by kernel_rfl)) (fun _ _ _ h => h) (Or.inl ⟨by rfl, ?_⟩) ?_ ?_
            rotate_left
            · intro w'
              go_simp
              with_reducible rfl
            rotate_left
            · simp only [Act.put, List.setIfInBounds_toArray, List.set_cons_zero, List.set_cons_succ, i64_w, i32_w]
              rfl
            refine pure_ (i := 10) (N := some 52) (v := ?_) (a' := ?_) #[true, true, true, true, true, true, true, true, true, true, true, false, false, false, false, false, false, false, false, false, false, false] rfl rfl (any_of HT_.out (by kernel_rfl)) (fun _ _ _ h => h) (Or.inl ⟨by rfl, ?_⟩) ?_ ?_
            rotate_left
            · intro w'
              go_simp
              with_reducible rfl
            rotate_left
            · simp only [Act.put, List.setIfInBounds_toArray, List.set_cons_zero, List.set_cons_succ, i64_w, i32_w]
              rfl
            refine pure_ (i := 11) (N := some 53) (v := ?_) (a' := ?_) #[true, true, true, true, true, true, true, true, true, true, true, true, false, false, false, false, false, false, false, false, false, false] rfl rfl (any_of HT_.out (by kernel_rfl)) (fun _ _ _ h => h) (Or.inl ⟨by rfl, ?_⟩) ?_ ?_
            rotate_left
            · intro w'
              go_simp
              with_reducible rfl
            rotate_left
            · simp only [Act.put, List.setIfInBounds_toArray, List.set_cons_zero, List.set_cons_succ, i64_w, i32_w]
              rfl
            refine take_ (i := 12) (N := some 54) (v := ?_) (a' := ?_) #[true, true, true, true, true, true, true, true, true, true, true, true, true, false, false, false, false, false, false, false, false, false] rfl rfl (take_ofW HT_.out HW_.out (by kernel_rfl)) (fun _ _ _ h => h) (Or.inl ⟨by rfl, ?_⟩) hHeld ?_ ?_
            rotate_left
            · rintro w' ⟨s0, s1, s2, s3, s4, s5, s6, s7⟩
              go_simp
              with_reducible rfl
            rotate_left
            · simp only [Act.put, List.setIfInBounds_toArray, List.set_cons_zero, List.set_cons_succ, i64_w, i32_w]
              rfl
            refine take_ (i := 13) (N := some 55) (v := ?_) (a' := ?_) #[true, true, true, true, true, true, true, true, true, true, true, true, true, true, false, false, false, false, false, false, false, false] rfl rfl (take_ofW HT_.out HW_.out (by kernel_rfl)) (fun _ _ _ h => h) (Or.inl ⟨by rfl, ?_⟩) hHeld ?_ ?_
            rotate_left
            · rintro w' ⟨s0, s1, s2, s3, s4, s5, s6, s7⟩
              go_simp
              with_reducible rfl
            rotate_left
            · simp only [Act.put, List.setIfInBounds_toArray, List.set_cons_zero, List.set_cons_succ, i64_w, i32_w]
              rfl
            refine take_ (i := 15) (N := some 57) (v := ?_) (a' := ?_) #[true, true, true, true, true, true, true, true, true, true, true, true, true, true, false, true, false, false, false, false, false, false] rfl rfl (take_ofW HT_.out HW_.out (by kernel_rfl)) (fun _ _ _ h => h) (Or.inl ⟨by rfl, ?_⟩) hHeld ?_ ?_
            rotate_left
            · rintro w' ⟨s0, s1, s2, s3, s4, s5, s6, s7⟩
              go_simp
              with_reducible rfl
            rotate_left
            · simp only [Act.put, List.setIfInBounds_toArray, List.set_cons_zero, List.set_cons_succ, i64_w, i32_w]
              rfl
            refine take_ (i := 16) (N := some 58) (v := ?_) (a' := ?_) #[true, true, true, true, true, true, true, true, true, true, true, true, true, true, false, true, true, false, false, false, false, false] rfl rfl (take_ofW HT_.out HW_.out (by kernel_rfl)) (fun _ _ _ h => h) (Or.inl ⟨by rfl, ?_⟩) hHeld ?_ ?_
            rotate_left
            · rintro w' ⟨s0, s1, s2, s3, s4, s5, s6, s7⟩
              go_simp
              with_reducible rfl
            rotate_left
            · simp only [Act.put, List.setIfInBounds_toArray, List.set_cons_zero, List.set_cons_succ, i64_w, i32_w]
              rfl
            refine one_ (i := 14) (N := some 56) #[true, true, true, true, true, true, true, true, true, true, true, true, true, true, true, true, true, false, false, false, false, false] rfl rfl (one_of HT_.out (by kernel_rfl)) (by decide) (fun K hK => ?_)
            refine goes_ Try.func15 (by kernel_rfl) rfl #[.agg #[.int .u64 a0_0, .int .u64 a0_1], .agg #[.int .u64 a2_0, .int .u64 a2_1]] (by rfl) rfl rfl (by (try simp only [List.map_toArray, List.map_cons, List.map_nil]); first | done | rfl | (simp only [List.length_drop, List.length_take]; rfl)) ?_
            with_reducible refine (tern_And.calls a0_0 a0_1 a2_0 a2_1 t117 t118 _ A70.out).mono ?_
            rintro e w77 ⟨rfl, hb⟩
            refine ⟨_, rfl, ?_⟩
            have n0_ := Aside0.mk (blk_below (g := gb101) (o := .cells #[.int .u64 a0_0, .int .u64 a0_1] 24 (0, 0)) (by (with_reducible repeat (first | refine blk_drewN ?_ _ | refine blk_drew ?_ | refine blk_alloc ?_ _)); exact BK101.out) hb)
            have n1_ := Aside0.mk (blk_below (g := gb102) (o := .cells #[.int .u64 a1_0, .int .u64 a1_1] 24 (0, 0)) (by (with_reducible repeat (first | refine blk_drewN ?_ _ | refine blk_drew ?_ | refine blk_alloc ?_ _)); exact BK102.out) hb)
            have n2_ := Aside0.mk (blk_below (g := gb103) (o := .cells #[.int .u64 a2_0, .int .u64 a2_1] 24 (0, 0)) (by (with_reducible repeat (first | refine blk_drewN ?_ _ | refine blk_drew ?_ | refine blk_alloc ?_ _)); exact BK103.out) hb)
            have n3_ := Aside0.mk (blk_below (g := gb104) (o := .cells #[.int .u64 a3_0, .int .u64 a3_1] 24 (0, 0)) (by (with_reducible repeat (first | refine blk_drewN ?_ _ | refine blk_drew ?_ | refine blk_alloc ?_ _)); exact BK104.out) hb)
            have n4_ := Aside0.mk (below_step (by repeat (first | (with_reducible first | exact HB.out | apply below_alloc | apply pw_below_drewN | apply below_drew1 | refine below_set ?_ GE101.out | refine below_set ?_ GE102.out | refine below_set ?_ GE103.out | refine below_set ?_ GE104.out) | exact HB.out)) hb)
            clear BK101
            clear BK102
            clear BK103
            clear BK104
            clear HB
            have BK101 := n0_
            have BK102 := n1_
            have BK103 := n2_
            have BK104 := n3_
            have HB := n4_
            clear n0_ n1_ n2_ n3_ n4_
            (try clear hb)
            (try clear hb2)
            (try clear hk)
            (try clear hi)
            refine hK.out _ _ ⟨(blk_cell BK101.out 0).trans rfl, (blk_cell BK101.out 1).trans rfl, (blk_cell BK102.out 0).trans rfl, (blk_cell BK102.out 1).trans rfl, (blk_cell BK103.out 0).trans rfl, (blk_cell BK103.out 1).trans rfl, (blk_cell BK104.out 0).trans rfl, (blk_cell BK104.out 1).trans rfl⟩ (fun hHeld => ?_)
            clear hK K
            refine norm_ (a' := ?_) ?_ ?_
            rotate_left
            · show Act.put _ (some 56) _ = _
              simp only [Act.put, List.setIfInBounds_toArray, List.set_cons_zero, List.set_cons_succ, i64_w, i32_w]
              rfl
            refine one_ (i := 17) (N := some 59) #[true, true, true, true, true, true, true, true, true, true, true, true, true, true, true, true, true, true, false, false, false, false] rfl rfl (one_of HT_.out (by kernel_rfl)) (by decide) (fun K hK => ?_)
            refine goes_ Try.func15 (by kernel_rfl) rfl #[.agg #[.int .u64 a1_0, .int .u64 a1_1], .agg #[.int .u64 a3_0, .int .u64 a3_1]] (by rfl) rfl rfl (by (try simp only [List.map_toArray, List.map_cons, List.map_nil]); first | done | rfl | (simp only [List.length_drop, List.length_take]; rfl)) ?_
            with_reducible refine (tern_And.calls a1_0 a1_1 a3_0 a3_1 t119 t120 _ A71.out).mono ?_
            rintro e w78 ⟨rfl, hb⟩
            refine ⟨_, rfl, ?_⟩
            have n0_ := Aside0.mk (blk_below (g := gb101) (o := .cells #[.int .u64 a0_0, .int .u64 a0_1] 24 (0, 0)) (by (with_reducible repeat (first | refine blk_drewN ?_ _ | refine blk_drew ?_ | refine blk_alloc ?_ _)); exact BK101.out) hb)
            have n1_ := Aside0.mk (blk_below (g := gb102) (o := .cells #[.int .u64 a1_0, .int .u64 a1_1] 24 (0, 0)) (by (with_reducible repeat (first | refine blk_drewN ?_ _ | refine blk_drew ?_ | refine blk_alloc ?_ _)); exact BK102.out) hb)
            have n2_ := Aside0.mk (blk_below (g := gb103) (o := .cells #[.int .u64 a2_0, .int .u64 a2_1] 24 (0, 0)) (by (with_reducible repeat (first | refine blk_drewN ?_ _ | refine blk_drew ?_ | refine blk_alloc ?_ _)); exact BK103.out) hb)
            have n3_ := Aside0.mk (blk_below (g := gb104) (o := .cells #[.int .u64 a3_0, .int .u64 a3_1] 24 (0, 0)) (by (with_reducible repeat (first | refine blk_drewN ?_ _ | refine blk_drew ?_ | refine blk_alloc ?_ _)); exact BK104.out) hb)
            have n4_ := Aside0.mk (below_step (by repeat (first | (with_reducible first | exact HB.out | apply below_alloc | apply pw_below_drewN | apply below_drew1 | refine below_set ?_ GE101.out | refine below_set ?_ GE102.out | refine below_set ?_ GE103.out | refine below_set ?_ GE104.out) | exact HB.out)) hb)
            clear BK101
            clear BK102
            clear BK103
            clear BK104
            clear HB
            have BK101 := n0_
            have BK102 := n1_
            have BK103 := n2_
            have BK104 := n3_
            have HB := n4_
            clear n0_ n1_ n2_ n3_ n4_
            (try clear hb)
            (try clear hb2)
            (try clear hk)
            (try clear hi)
            refine hK.out _ _ ⟨(blk_cell BK101.out 0).trans rfl, (blk_cell BK101.out 1).trans rfl, (blk_cell BK102.out 0).trans rfl, (blk_cell BK102.out 1).trans rfl, (blk_cell BK103.out 0).trans rfl, (blk_cell BK103.out 1).trans rfl, (blk_cell BK104.out 0).trans rfl, (blk_cell BK104.out 1).trans rfl⟩ (fun hHeld => ?_)
            clear hK K
            refine norm_ (a' := ?_) ?_ ?_
            rotate_left
            · show Act.put _ (some 59) _ = _
              simp only [Act.put, List.setIfInBounds_toArray, List.set_cons_zero, List.set_cons_succ, i64_w, i32_w]
              rfl
            refine one_ (i := 18) (N := some 60) #[true, true, true, true, true, true, true, true, true, true, true, true, true, true, true, true, true, true, true, false, false, false] rfl rfl (one_of HT_.out (by kernel_rfl)) (by decide) (fun K hK => ?_)
            refine goes_ Try.func13 (by kernel_rfl) rfl #[.agg #[.int .u64 t117, .int .u64 t118], .agg #[.int .u64 t119, .int .u64 t120]] (by rfl) rfl rfl (by (try simp only [List.map_toArray, List.map_cons, List.map_nil]); first | done | rfl | (simp only [List.length_drop, List.length_take]; rfl)) ?_
            with_reducible refine (tern_Within.calls t117 t118 t119 t120 t121 _ A72.out).mono ?_
            rintro e w79 ⟨rfl, hb⟩
            refine ⟨_, rfl, ?_⟩
            have n0_ := Aside0.mk (blk_below (g := gb101) (o := .cells #[.int .u64 a0_0, .int .u64 a0_1] 24 (0, 0)) (by (with_reducible repeat (first | refine blk_drewN ?_ _ | refine blk_drew ?_ | refine blk_alloc ?_ _)); exact BK101.out) hb)
            have n1_ := Aside0.mk (blk_below (g := gb102) (o := .cells #[.int .u64 a1_0, .int .u64 a1_1] 24 (0, 0)) (by (with_reducible repeat (first | refine blk_drewN ?_ _ | refine blk_drew ?_ | refine blk_alloc ?_ _)); exact BK102.out) hb)
            have n2_ := Aside0.mk (blk_below (g := gb103) (o := .cells #[.int .u64 a2_0, .int .u64 a2_1] 24 (0, 0)) (by (with_reducible repeat (first | refine blk_drewN ?_ _ | refine blk_drew ?_ | refine blk_alloc ?_ _)); exact BK103.out) hb)
            have n3_ := Aside0.mk (blk_below (g := gb104) (o := .cells #[.int .u64 a3_0, .int .u64 a3_1] 24 (0, 0)) (by (with_reducible repeat (first | refine blk_drewN ?_ _ | refine blk_drew ?_ | refine blk_alloc ?_ _)); exact BK104.out) hb)
            have n4_ := Aside0.mk (below_step (by repeat (first | (with_reducible first | exact HB.out | apply below_alloc | apply pw_below_drewN | apply below_drew1 | refine below_set ?_ GE101.out | refine below_set ?_ GE102.out | refine below_set ?_ GE103.out | refine below_set ?_ GE104.out) | exact HB.out)) hb)
            clear BK101
            clear BK102
            clear BK103
            clear BK104
            clear HB
            have BK101 := n0_
            have BK102 := n1_
            have BK103 := n2_
            have BK104 := n3_
            have HB := n4_
            clear n0_ n1_ n2_ n3_ n4_
            (try clear hb)
            (try clear hb2)
            (try clear hk)
            (try clear hi)
            refine hK.out _ _ ⟨(blk_cell BK101.out 0).trans rfl, (blk_cell BK101.out 1).trans rfl, (blk_cell BK102.out 0).trans rfl, (blk_cell BK102.out 1).trans rfl, (blk_cell BK103.out 0).trans rfl, (blk_cell BK103.out 1).trans rfl, (blk_cell BK104.out 0).trans rfl, (blk_cell BK104.out 1).trans rfl⟩ (fun hHeld => ?_)
            clear hK K
            refine norm_ (a' := ?_) ?_ ?_
            rotate_left
            · show Act.put _ (some 60) _ = _
              simp only [Act.put, List.setIfInBounds_toArray, List.set_cons_zero, List.set_cons_succ, i64_w, i32_w]
              rfl
            refine pure_ (i := 19) (N := some 61) (v := ?_) (a' := ?_) #[true, true, true, true, true, true, true, true, true, true, true, true, true, true, true, true, true, true, true, true, false, false] rfl rfl (any_of HT_.out (by kernel_rfl)) (fun _ _ _ h => h) (Or.inl ⟨by rfl, ?_⟩) ?_ ?_
            rotate_left
            · intro w'
              go_simp
              with_reducible rfl
            rotate_left
            · simp only [Act.put, List.setIfInBounds_toArray, List.set_cons_zero, List.set_cons_succ, i64_w, i32_w]
              rfl
            refine pure_ (i := 20) (N := some 62) (v := ?_) (a' := ?_) #[true, true, true, true, true, true, true, true, true, true, true, true, true, true, true, true, true, true, true, true, true, false] rfl rfl (any_of HT_.out (by kernel_rfl)) (fun _ _ _ h => h) (Or.inl ⟨by rfl, ?_⟩) ?_ ?_
            rotate_left
            · intro w'
              go_simp
              with_reducible rfl
            rotate_left
            · simp only [Act.put, List.setIfInBounds_toArray, List.set_cons_zero, List.set_cons_succ, i64_w, i32_w]
              rfl
            refine pure_ (i := 21) (N := some 63) (v := ?_) (a' := ?_) #[true, true, true, true, true, true, true, true, true, true, true, true, true, true, true, true, true, true, true, true, true, true] rfl rfl (any_of HT_.out (by kernel_rfl)) (fun _ _ _ h => h) (Or.inl ⟨by rfl, ?_⟩) ?_ ?_
            rotate_left
            · intro w'
              go_simp
              with_reducible rfl
            rotate_left
            · simp only [Act.put, List.setIfInBounds_toArray, List.set_cons_zero, List.set_cons_succ, i64_w, i32_w]
              rfl
            refine done_ (done_of HT_.out (by kernel_rfl)) ?_
            try go_wp2
            go_meet
            case rel => exact ⟨_, (((Go.bits .andNot .u64 (Go.bits .and .u64 t110 t111) t121) != 0)), (by first | rfl | (simp; done) | (simp [*]; done)), H', ⟨by have := HJ4.out; first | omega | exact Nat.le_refl _⟩, ⟨by (with_reducible repeat (first | refine blk_drewN ?_ _ | refine blk_drew ?_ | refine blk_alloc ?_ _)); exact BK101.out⟩, ⟨by (with_reducible repeat (first | refine blk_drewN ?_ _ | refine blk_drew ?_ | refine blk_alloc ?_ _)); exact BK102.out⟩, ⟨by (with_reducible repeat (first | refine blk_drewN ?_ _ | refine blk_drew ?_ | refine blk_alloc ?_ _)); exact BK103.out⟩, ⟨by (with_reducible repeat (first | refine blk_drewN ?_ _ | refine blk_drew ?_ | refine blk_alloc ?_ _)); exact BK104.out⟩, ⟨by repeat (first | (with_reducible first | exact HB.out | apply below_alloc | apply pw_below_drewN | apply below_drew1 | refine below_set ?_ GE101.out | refine below_set ?_ GE102.out | refine below_set ?_ GE103.out | refine below_set ?_ GE104.out) | exact HB.out)⟩⟩
          · rw [if_neg c69] at H
            have c69b0 : ((Go.bits .andNot .u64 t110 t116) == 0) = false := beq_eq_false_iff_ne.mpr c69
            have c69b1 : ((Go.bits .andNot .u64 t110 t116) != 0) = true := bne_iff_ne.mpr c69
            (first | rw [c69b0] | (simp only [i64_w, i32_w]; rw [c69b0]) | skip)
            cases kj4 with
            | zero => exact absurd H (by simp [inquestlaw06_TernWithin.j1])
            | succ kz_ => exact absurd ((Option.some.inj (show some false = some r from H)).trans hrt.out) (by simp)
        case rest =>
          clear HC62
          try clear c1
          try clear p2
          try clear c5
          try clear c6
          try clear c12
          try clear c13
          try clear c14
          try clear c15
          try clear c57
          try clear c69
          try clear c69b0
          try clear c69b1
          try clear hcz29_1
          try clear hcz34_0
          try clear hcz34_1
          try clear hcz38_0
          try clear hcz38_1
          try clear hcz41_0
          try clear hcz41_1
          try clear hcz46_0
          try clear hcz46_1
          try clear hcz50_0
          try clear hcz50_1
          try clear hcz55_0
          try clear hcz55_1
          try clear hfz20_0
          try clear hfz20_1
          try clear hfz24_0
          try clear hfz24_1
          try clear hfz27_0
          try clear hfz27_1
          try clear hfz29_0
          try clear hfz29_1
          try clear hfz34_0
          try clear hfz34_1
          try clear hfz38_0
          try clear hfz38_1
          try clear hfz41_0
          try clear hfz41_1
          try clear hfz46_0
          try clear hfz46_1
          try clear hfz50_0
          try clear hfz50_1
          try clear hfz55_0
          try clear hfz55_1
          obtain ⟨kq, x63_61, rfl, HA, HJ61, BK101, BK102, BK103, BK104, HB⟩ := hcut
          cases kq with
          | zero => exact absurd HA.out (by simp [inquestlaw06_TernWithin.j1])
          | succ kj61 =>
            have H := HA.out
            clear HA
            simp only [inquestlaw06_TernWithin.j1] at H
            by_cases c80 : x63_61 = true
            · subst c80
              have H1 : (some false) = some r := by rw [if_pos rfl] at H; exact H
              clear H
              have H := H1
              clear H1
              exact absurd ((Option.some.inj H).trans hrt.out) (by simp)
            · replace c80 := Bool.eq_false_iff.mpr c80
              subst c80
              have H1 : ((tern_Within.f a1_0 a1_1 a0_0 a0_1).bind fun t122 => (inquestlaw06_TernWithin.l0 kj61 (Go.bits .and .u64 t110 t122) 0 a0_0 a0_1 a1_0 a1_1)) = some r := by rw [if_neg (show ¬ (false = true) by decide)] at H; exact H
              clear H
              have H := H1
              clear H1
              replace H := Option.bind_eq_some_iff.mp H
              obtain ⟨t122, A810, H⟩ := H
              replace H : (inquestlaw06_TernWithin.l0 kj61 (Go.bits .and .u64 t110 t122) 0 a0_0 a0_1 a1_0 a1_1) = some r := H
              have A81 := Aside0.mk A810
              clear A810
              have H' := Aside0.mk H
              clear H
              have hnb82 := NB102_101.out
              have hnc82 := NB101_102.out
              have hnb83 := NB102_103.out
              have hnc83 := NB103_102.out
              have hnb84 := NB102_104.out
              have hnc84 := NB104_102.out
              have hcz85_0 : wc.cell? ⟨gb102, 0, none⟩ = some (.int .u64 a1_0) := (blk_cell BK102.out 0).trans rfl
              have hcz85_1 : wc.cell? ⟨gb102, 1, none⟩ = some (.int .u64 a1_1) := (blk_cell BK102.out 1).trans rfl
              have hfz85_0 := blk_frozen BK102.out 0
              have hfz85_1 := blk_frozen BK102.out 1
              have hnb86 := NB101_103.out
              have hnc86 := NB103_101.out
              have hnb87 := NB101_104.out
              have hnc87 := NB104_101.out
              have hcz88_0 : wc.cell? ⟨gb101, 0, none⟩ = some (.int .u64 a0_0) := (blk_cell BK101.out 0).trans rfl
              have hcz88_1 : wc.cell? ⟨gb101, 1, none⟩ = some (.int .u64 a0_1) := (blk_cell BK101.out 1).trans rfl
              have hfz88_0 := blk_frozen BK101.out 0
              have hfz88_1 := blk_frozen BK101.out 1
              go_wp2_with (first | ((with_reducible refine gate_callee (f := 13) rfl ?_); refine goesL_ (some 67) rfl rfl Try.func13 (by kernel_rfl) rfl #[.agg #[.int .u64 a1_0, .int .u64 a1_1], .agg #[.int .u64 a0_0, .int .u64 a0_1]] rfl (by (try simp only [List.map_toArray, List.map_cons, List.map_nil]); first | done | rfl | (simp only [List.length_drop, List.length_take]; rfl)) ?_; (with_reducible refine (tern_Within.calls a1_0 a1_1 a0_0 a0_1 t122 _ A81.out).mono ?_); rintro e w89 ⟨rfl, hb⟩; refine ⟨_, rfl, ?_⟩; have n0_ := Aside0.mk (blk_below (g := gb101) (o := .cells #[.int .u64 a0_0, .int .u64 a0_1] 24 (0, 0)) (by (with_reducible repeat (first | refine blk_drewN ?_ _ | refine blk_drew ?_ | refine blk_alloc ?_ _)); exact BK101.out) hb); have n1_ := Aside0.mk (blk_below (g := gb102) (o := .cells #[.int .u64 a1_0, .int .u64 a1_1] 24 (0, 0)) (by (with_reducible repeat (first | refine blk_drewN ?_ _ | refine blk_drew ?_ | refine blk_alloc ?_ _)); exact BK102.out) hb); have n2_ := Aside0.mk (blk_below (g := gb103) (o := .cells #[.int .u64 a2_0, .int .u64 a2_1] 24 (0, 0)) (by (with_reducible repeat (first | refine blk_drewN ?_ _ | refine blk_drew ?_ | refine blk_alloc ?_ _)); exact BK103.out) hb); have n3_ := Aside0.mk (blk_below (g := gb104) (o := .cells #[.int .u64 a3_0, .int .u64 a3_1] 24 (0, 0)) (by (with_reducible repeat (first | refine blk_drewN ?_ _ | refine blk_drew ?_ | refine blk_alloc ?_ _)); exact BK104.out) hb); have n4_ := Aside0.mk (below_step (by repeat (first | (with_reducible first | exact HB.out | apply below_alloc | apply pw_below_drewN | apply below_drew1 | refine below_set ?_ GE101.out | refine below_set ?_ GE102.out | refine below_set ?_ GE103.out | refine below_set ?_ GE104.out) | exact HB.out)) hb); clear BK101; clear BK102; clear BK103; clear BK104; clear HB; have BK101 := n0_; have BK102 := n1_; have BK103 := n2_; have BK104 := n3_; have HB := n4_; clear n0_ n1_ n2_ n3_ n4_; (try clear hb); (try clear hb2); (try clear hk); (try clear hi)))
              go_loopg [12] kj61 (fun kq v12 w' => ∃ (x12_3 : Int), v12 = .int .i64 x12_3 ∧ Aside0 (inquestlaw06_TernWithin.l0 kq (Go.bits .and .u64 t110 t122) x12_3 a0_0 a0_1 a1_0 a1_1 = some r) ∧ Aside0 (kq ≤ kj61) ∧ Aside0 (w'.heap[gb101]? = some (.cells #[.int .u64 a0_0, .int .u64 a0_1] 24 (0, 0))) ∧ Aside0 (w'.heap[gb102]? = some (.cells #[.int .u64 a1_0, .int .u64 a1_1] 24 (0, 0))) ∧ Aside0 (w'.heap[gb103]? = some (.cells #[.int .u64 a2_0, .int .u64 a2_1] 24 (0, 0))) ∧ Aside0 (w'.heap[gb104]? = some (.cells #[.int .u64 a3_0, .int .u64 a3_1] 24 (0, 0))) ∧ Aside0 (Below w.heap.size w w'))
              case atStart => exact ⟨(0), (by first | rfl | (simp; done) | (simp [*]; done)), H', ⟨Nat.le_refl _⟩, ⟨by (with_reducible repeat (first | refine blk_drewN ?_ _ | refine blk_drew ?_ | refine blk_alloc ?_ _)); exact BK101.out⟩, ⟨by (with_reducible repeat (first | refine blk_drewN ?_ _ | refine blk_drew ?_ | refine blk_alloc ?_ _)); exact BK102.out⟩, ⟨by (with_reducible repeat (first | refine blk_drewN ?_ _ | refine blk_drew ?_ | refine blk_alloc ?_ _)); exact BK103.out⟩, ⟨by (with_reducible repeat (first | refine blk_drewN ?_ _ | refine blk_drew ?_ | refine blk_alloc ?_ _)); exact BK104.out⟩, ⟨by repeat (first | (with_reducible first | exact HB.out | apply below_alloc | apply pw_below_drewN | apply below_drew1 | refine below_set ?_ GE101.out | refine below_set ?_ GE102.out | refine below_set ?_ GE103.out | refine below_set ?_ GE104.out) | exact HB.out)⟩⟩
              case round =>
                clear H'
                try clear c1
                try clear p2
                try clear c5
                try clear c6
                try clear c8
                try clear c12
                try clear c13
                try clear c14
                try clear c15
                try clear c57
                try clear c69
                try clear c69b0
                try clear c69b1
                try clear c80
                try clear c82
                try clear c83
                try clear c84
                try clear c86
                try clear c87
                try clear hcz29_1
                try clear hcz34_0
                try clear hcz34_1
                try clear hcz38_0
                try clear hcz38_1
                try clear hcz41_0
                try clear hcz41_1
                try clear hcz46_0
                try clear hcz46_1
                try clear hcz50_0
                try clear hcz50_1
                try clear hcz55_0
                try clear hcz55_1
                try clear hcz85_0
                try clear hcz85_1
                try clear hcz88_0
                try clear hcz88_1
                try clear hfz20_0
                try clear hfz20_1
                try clear hfz24_0
                try clear hfz24_1
                try clear hfz27_0
                try clear hfz27_1
                try clear hfz29_0
                try clear hfz29_1
                try clear hfz34_0
                try clear hfz34_1
                try clear hfz38_0
                try clear hfz38_1
                try clear hfz41_0
                try clear hfz41_1
                try clear hfz46_0
                try clear hfz46_1
                try clear hfz50_0
                try clear hfz50_1
                try clear hfz55_0
                try clear hfz55_1
                try clear hfz85_0
                try clear hfz85_1
                try clear hfz88_0
                try clear hfz88_1
                try clear p2
                obtain ⟨x12_3, rfl, HA, HK3, BK101, BK102, BK103, BK104, HB⟩ := hrel
                cases gk with
                | zero => exact absurd HA.out (by simp [inquestlaw06_TernWithin.l0])
                | succ k3 =>
                  have H := HA.out
                  clear HA
                  simp only [inquestlaw06_TernWithin.l0] at H
                  by_cases c90 : x12_3 < 64
                  · rw [if_pos c90] at H
                    have c90b0 : decide (x12_3 < 64) = true := decide_eq_true c90
                    clear c90
                    replace H := Option.bind_eq_some_iff.mp H
                    obtain ⟨⟨t123, t124⟩, A910, H⟩ := H
                    replace H : ((tern_At.f a1_0 a1_1 x12_3).bind fun bt125 => (if 0 ≤ (IntKind.u64.wrap (x12_3)) then (if (Go.bits .and .u64 (shr .u64 (Go.bits .and .u64 t110 t122) (IntKind.u64.wrap (x12_3))) 1) = 1 then (if t123 = bt125.1 then (inquestlaw06_TernWithin.l0 k3 (Go.bits .and .u64 t110 t122) (wrap64 (x12_3 + 1)) a0_0 a0_1 a1_0 a1_1) else (some false)) else (inquestlaw06_TernWithin.l0 k3 (Go.bits .and .u64 t110 t122) (wrap64 (x12_3 + 1)) a0_0 a0_1 a1_0 a1_1)) else (none))) = some r := H
                    have A91 := Aside0.mk A910
                    clear A910
                    replace H := Option.bind_eq_some_iff.mp H
                    obtain ⟨⟨t125, t126⟩, A920, H⟩ := H
                    replace H : (if 0 ≤ (IntKind.u64.wrap (x12_3)) then (if (Go.bits .and .u64 (shr .u64 (Go.bits .and .u64 t110 t122) (IntKind.u64.wrap (x12_3))) 1) = 1 then (if t123 = t125 then (inquestlaw06_TernWithin.l0 k3 (Go.bits .and .u64 t110 t122) (wrap64 (x12_3 + 1)) a0_0 a0_1 a1_0 a1_1) else (some false)) else (inquestlaw06_TernWithin.l0 k3 (Go.bits .and .u64 t110 t122) (wrap64 (x12_3 + 1)) a0_0 a0_1 a1_0 a1_1)) else (none)) = some r := H
                    have A92 := Aside0.mk A920
                    clear A920
                    obtain ⟨ji93, hji93⟩ : ∃ j_ : Int, (IntKind.u64.wrap (x12_3)) = j_ := ⟨_, rfl⟩
                    replace H : (if 0 ≤ (ji93) then (if (Go.bits .and .u64 (shr .u64 (Go.bits .and .u64 t110 t122) (ji93)) 1) = 1 then (if t123 = t125 then (inquestlaw06_TernWithin.l0 k3 (Go.bits .and .u64 t110 t122) (wrap64 (x12_3 + 1)) a0_0 a0_1 a1_0 a1_1) else (some false)) else (inquestlaw06_TernWithin.l0 k3 (Go.bits .and .u64 t110 t122) (wrap64 (x12_3 + 1)) a0_0 a0_1 a1_0 a1_1)) else (none)) = some r := by first | (rw [hji93] at H; exact H) | (simp only [hji93] at H ⊢; exact H)
                    (try rw [hji93] at A91)
                    (try rw [hji93] at A92)
                    by_cases c94 : 0 ≤ (ji93)
                    · rw [if_pos c94] at H
                      have c94b0 := eq_true c94
                      have c94b1 : decide (0 ≤ (ji93)) = true := decide_eq_true c94
                      clear c94
                      obtain ⟨ji95, hji95⟩ : ∃ j_ : Int, (shr .u64 (Go.bits .and .u64 t110 t122) (ji93)) = j_ := ⟨_, rfl⟩
                      replace H : (if (Go.bits .and .u64 (ji95) 1) = 1 then (if t123 = t125 then (inquestlaw06_TernWithin.l0 k3 (Go.bits .and .u64 t110 t122) (wrap64 (x12_3 + 1)) a0_0 a0_1 a1_0 a1_1) else (some false)) else (inquestlaw06_TernWithin.l0 k3 (Go.bits .and .u64 t110 t122) (wrap64 (x12_3 + 1)) a0_0 a0_1 a1_0 a1_1)) = some r := by first | (rw [hji95] at H; exact H) | (simp only [hji95] at H ⊢; exact H)
                      (try rw [hji95] at A91)
                      (try rw [hji95] at A92)
                      have hji95_ : ((Go.bits .and .u64 t110 t122) / 2 ^ min (ji93).toNat 64) = ji95 := hji95
                      have hji95z : (ji93) ≤ 64 → ((Go.bits .and .u64 t110 t122) / 2 ^ (ji93).toNat) = ji95 := shr_small hji95
                      by_cases c96 : (Go.bits .and .u64 (ji95) 1) = 1
                      · rw [if_pos c96] at H
                        have c96b0 : ((Go.bits .and .u64 (ji95) 1) == 1) = true := beq_iff_eq.mpr c96
                        have c96b1 : ((Go.bits .and .u64 (ji95) 1) != 1) = false := bne_eq_false_iff_eq.mpr c96
                        clear c96
                        by_cases c97 : t123 = t125
                        · rw [if_pos c97] at H
                          have c97b0 : (t123 == t125) = true := beq_iff_eq.mpr c97
                          have c97b1 : (t123 != t125) = false := bne_eq_false_iff_eq.mpr c97
                          clear c97
                          have H' := Aside0.mk H
                          clear H
                          have hnb98 := NB101_102.out
                          have hnc98 := NB102_101.out
                          have hnb99 := NB101_103.out
                          have hnc99 := NB103_101.out
                          have hnb100 := NB101_104.out
                          have hnc100 := NB104_101.out
                          have hcz101_0 : wr.cell? ⟨gb101, 0, none⟩ = some (.int .u64 a0_0) := (blk_cell BK101.out 0).trans rfl
                          have hcz101_1 : wr.cell? ⟨gb101, 1, none⟩ = some (.int .u64 a0_1) := (blk_cell BK101.out 1).trans rfl
                          have hfz101_0 := blk_frozen BK101.out 0
                          have hfz101_1 := blk_frozen BK101.out 1
                          go_wp2_with (first | ((with_reducible refine gate_callee (f := 16) rfl ?_); refine goesL_ (some 76) rfl rfl Try.func16 (by kernel_rfl) rfl #[.agg #[.int .u64 a0_0, .int .u64 a0_1], .int .i64 x12_3] rfl (by (try simp only [List.map_toArray, List.map_cons, List.map_nil]); first | done | rfl | (simp only [List.length_drop, List.length_take]; rfl)) ?_; (with_reducible refine (tern_At.calls a0_0 a0_1 x12_3 t123 t124 _ A91.out).mono ?_); rintro e w102 ⟨rfl, hb⟩; refine ⟨_, rfl, ?_⟩; have n0_ := Aside0.mk (blk_below (g := gb101) (o := .cells #[.int .u64 a0_0, .int .u64 a0_1] 24 (0, 0)) (by (with_reducible repeat (first | refine blk_drewN ?_ _ | refine blk_drew ?_ | refine blk_alloc ?_ _)); exact BK101.out) hb); have n1_ := Aside0.mk (blk_below (g := gb102) (o := .cells #[.int .u64 a1_0, .int .u64 a1_1] 24 (0, 0)) (by (with_reducible repeat (first | refine blk_drewN ?_ _ | refine blk_drew ?_ | refine blk_alloc ?_ _)); exact BK102.out) hb); have n2_ := Aside0.mk (blk_below (g := gb103) (o := .cells #[.int .u64 a2_0, .int .u64 a2_1] 24 (0, 0)) (by (with_reducible repeat (first | refine blk_drewN ?_ _ | refine blk_drew ?_ | refine blk_alloc ?_ _)); exact BK103.out) hb); have n3_ := Aside0.mk (blk_below (g := gb104) (o := .cells #[.int .u64 a3_0, .int .u64 a3_1] 24 (0, 0)) (by (with_reducible repeat (first | refine blk_drewN ?_ _ | refine blk_drew ?_ | refine blk_alloc ?_ _)); exact BK104.out) hb); have n4_ := Aside0.mk (below_step (by repeat (first | (with_reducible first | exact HB.out | apply below_alloc | apply pw_below_drewN | apply below_drew1 | refine below_set ?_ GE101.out | refine below_set ?_ GE102.out | refine below_set ?_ GE103.out | refine below_set ?_ GE104.out) | exact HB.out)) hb); clear BK101; clear BK102; clear BK103; clear BK104; clear HB; have BK101 := n0_; have BK102 := n1_; have BK103 := n2_; have BK104 := n3_; have HB := n4_; clear n0_ n1_ n2_ n3_ n4_; (try clear hb); (try clear hb2); (try clear hk); (try clear hi); have hnb103 := NB102_103.out; have hnc103 := NB103_102.out; have hnb104 := NB102_104.out; have hnc104 := NB104_102.out; have hcz105_0 : w102.cell? ⟨gb102, 0, none⟩ = some (.int .u64 a1_0) := (blk_cell BK102.out 0).trans rfl; have hcz105_1 : w102.cell? ⟨gb102, 1, none⟩ = some (.int .u64 a1_1) := (blk_cell BK102.out 1).trans rfl; have hfz105_0 := blk_frozen BK102.out 0; have hfz105_1 := blk_frozen BK102.out 1) | ((with_reducible refine gate_callee (f := 16) rfl ?_); refine goesL_ (some 82) rfl rfl Try.func16 (by kernel_rfl) rfl #[.agg #[.int .u64 a1_0, .int .u64 a1_1], .int .i64 x12_3] rfl (by (try simp only [List.map_toArray, List.map_cons, List.map_nil]); first | done | rfl | (simp only [List.length_drop, List.length_take]; rfl)) ?_; (with_reducible refine (tern_At.calls a1_0 a1_1 x12_3 t125 t126 _ A92.out).mono ?_); rintro e w106 ⟨rfl, hb⟩; refine ⟨_, rfl, ?_⟩; have n0_ := Aside0.mk (blk_below (g := gb101) (o := .cells #[.int .u64 a0_0, .int .u64 a0_1] 24 (0, 0)) (by (with_reducible repeat (first | refine blk_drewN ?_ _ | refine blk_drew ?_ | refine blk_alloc ?_ _)); exact BK101.out) hb); have n1_ := Aside0.mk (blk_below (g := gb102) (o := .cells #[.int .u64 a1_0, .int .u64 a1_1] 24 (0, 0)) (by (with_reducible repeat (first | refine blk_drewN ?_ _ | refine blk_drew ?_ | refine blk_alloc ?_ _)); exact BK102.out) hb); have n2_ := Aside0.mk (blk_below (g := gb103) (o := .cells #[.int .u64 a2_0, .int .u64 a2_1] 24 (0, 0)) (by (with_reducible repeat (first | refine blk_drewN ?_ _ | refine blk_drew ?_ | refine blk_alloc ?_ _)); exact BK103.out) hb); have n3_ := Aside0.mk (blk_below (g := gb104) (o := .cells #[.int .u64 a3_0, .int .u64 a3_1] 24 (0, 0)) (by (with_reducible repeat (first | refine blk_drewN ?_ _ | refine blk_drew ?_ | refine blk_alloc ?_ _)); exact BK104.out) hb); have n4_ := Aside0.mk (below_step (by repeat (first | (with_reducible first | exact HB.out | apply below_alloc | apply pw_below_drewN | apply below_drew1 | refine below_set ?_ GE101.out | refine below_set ?_ GE102.out | refine below_set ?_ GE103.out | refine below_set ?_ GE104.out) | exact HB.out)) hb); clear BK101; clear BK102; clear BK103; clear BK104; clear HB; have BK101 := n0_; have BK102 := n1_; have BK103 := n2_; have BK104 := n3_; have HB := n4_; clear n0_ n1_ n2_ n3_ n4_; (try clear hb); (try clear hb2); (try clear hk); (try clear hi)))
                          go_roundg k3
                          case measure => have := HJ4.out; have := HJ61.out; have := HK3.out; omega
                          case rel => exact ⟨(wrap64 (x12_3 + 1)), (by first | rfl | (simp; done) | (simp [*]; done)), H', ⟨by have := HJ4.out; have := HJ61.out; have := HK3.out; omega⟩, ⟨by (with_reducible repeat (first | refine blk_drewN ?_ _ | refine blk_drew ?_ | refine blk_alloc ?_ _)); exact BK101.out⟩, ⟨by (with_reducible repeat (first | refine blk_drewN ?_ _ | refine blk_drew ?_ | refine blk_alloc ?_ _)); exact BK102.out⟩, ⟨by (with_reducible repeat (first | refine blk_drewN ?_ _ | refine blk_drew ?_ | refine blk_alloc ?_ _)); exact BK103.out⟩, ⟨by (with_reducible repeat (first | refine blk_drewN ?_ _ | refine blk_drew ?_ | refine blk_alloc ?_ _)); exact BK104.out⟩, ⟨by repeat (first | (with_reducible first | exact HB.out | apply below_alloc | apply pw_below_drewN | apply below_drew1 | refine below_set ?_ GE101.out | refine below_set ?_ GE102.out | refine below_set ?_ GE103.out | refine below_set ?_ GE104.out) | exact HB.out)⟩⟩
                        · rw [if_neg c97] at H
                          have c97b0 : (t123 == t125) = false := beq_eq_false_iff_ne.mpr c97
                          have c97b1 : (t123 != t125) = true := bne_iff_ne.mpr c97
                          exact absurd ((Option.some.inj H).trans hrt.out) (by simp)
                      · rw [if_neg c96] at H
                        have c96b0 : ((Go.bits .and .u64 (ji95) 1) == 1) = false := beq_eq_false_iff_ne.mpr c96
                        have c96b1 : ((Go.bits .and .u64 (ji95) 1) != 1) = true := bne_iff_ne.mpr c96
                        have H' := Aside0.mk H
                        clear H
                        have hnb107 := NB101_102.out
                        have hnc107 := NB102_101.out
                        have hnb108 := NB101_103.out
                        have hnc108 := NB103_101.out
                        have hnb109 := NB101_104.out
                        have hnc109 := NB104_101.out
                        have hcz110_0 : wr.cell? ⟨gb101, 0, none⟩ = some (.int .u64 a0_0) := (blk_cell BK101.out 0).trans rfl
                        have hcz110_1 : wr.cell? ⟨gb101, 1, none⟩ = some (.int .u64 a0_1) := (blk_cell BK101.out 1).trans rfl
                        have hfz110_0 := blk_frozen BK101.out 0
                        have hfz110_1 := blk_frozen BK101.out 1
                        go_wp2_with (first | ((with_reducible refine gate_callee (f := 16) rfl ?_); refine goesL_ (some 76) rfl rfl Try.func16 (by kernel_rfl) rfl #[.agg #[.int .u64 a0_0, .int .u64 a0_1], .int .i64 x12_3] rfl (by (try simp only [List.map_toArray, List.map_cons, List.map_nil]); first | done | rfl | (simp only [List.length_drop, List.length_take]; rfl)) ?_; (with_reducible refine (tern_At.calls a0_0 a0_1 x12_3 t123 t124 _ A91.out).mono ?_); rintro e w111 ⟨rfl, hb⟩; refine ⟨_, rfl, ?_⟩; have n0_ := Aside0.mk (blk_below (g := gb101) (o := .cells #[.int .u64 a0_0, .int .u64 a0_1] 24 (0, 0)) (by (with_reducible repeat (first | refine blk_drewN ?_ _ | refine blk_drew ?_ | refine blk_alloc ?_ _)); exact BK101.out) hb); have n1_ := Aside0.mk (blk_below (g := gb102) (o := .cells #[.int .u64 a1_0, .int .u64 a1_1] 24 (0, 0)) (by (with_reducible repeat (first | refine blk_drewN ?_ _ | refine blk_drew ?_ | refine blk_alloc ?_ _)); exact BK102.out) hb); have n2_ := Aside0.mk (blk_below (g := gb103) (o := .cells #[.int .u64 a2_0, .int .u64 a2_1] 24 (0, 0)) (by (with_reducible repeat (first | refine blk_drewN ?_ _ | refine blk_drew ?_ | refine blk_alloc ?_ _)); exact BK103.out) hb); have n3_ := Aside0.mk (blk_below (g := gb104) (o := .cells #[.int .u64 a3_0, .int .u64 a3_1] 24 (0, 0)) (by (with_reducible repeat (first | refine blk_drewN ?_ _ | refine blk_drew ?_ | refine blk_alloc ?_ _)); exact BK104.out) hb); have n4_ := Aside0.mk (below_step (by repeat (first | (with_reducible first | exact HB.out | apply below_alloc | apply pw_below_drewN | apply below_drew1 | refine below_set ?_ GE101.out | refine below_set ?_ GE102.out | refine below_set ?_ GE103.out | refine below_set ?_ GE104.out) | exact HB.out)) hb); clear BK101; clear BK102; clear BK103; clear BK104; clear HB; have BK101 := n0_; have BK102 := n1_; have BK103 := n2_; have BK104 := n3_; have HB := n4_; clear n0_ n1_ n2_ n3_ n4_; (try clear hb); (try clear hb2); (try clear hk); (try clear hi); have hnb112 := NB102_103.out; have hnc112 := NB103_102.out; have hnb113 := NB102_104.out; have hnc113 := NB104_102.out; have hcz114_0 : w111.cell? ⟨gb102, 0, none⟩ = some (.int .u64 a1_0) := (blk_cell BK102.out 0).trans rfl; have hcz114_1 : w111.cell? ⟨gb102, 1, none⟩ = some (.int .u64 a1_1) := (blk_cell BK102.out 1).trans rfl; have hfz114_0 := blk_frozen BK102.out 0; have hfz114_1 := blk_frozen BK102.out 1) | ((with_reducible refine gate_callee (f := 16) rfl ?_); refine goesL_ (some 82) rfl rfl Try.func16 (by kernel_rfl) rfl #[.agg #[.int .u64 a1_0, .int .u64 a1_1], .int .i64 x12_3] rfl (by (try simp only [List.map_toArray, List.map_cons, List.map_nil]); first | done | rfl | (simp only [List.length_drop, List.length_take]; rfl)) ?_; (with_reducible refine (tern_At.calls a1_0 a1_1 x12_3 t125 t126 _ A92.out).mono ?_); rintro e w115 ⟨rfl, hb⟩; refine ⟨_, rfl, ?_⟩; have n0_ := Aside0.mk (blk_below (g := gb101) (o := .cells #[.int .u64 a0_0, .int .u64 a0_1] 24 (0, 0)) (by (with_reducible repeat (first | refine blk_drewN ?_ _ | refine blk_drew ?_ | refine blk_alloc ?_ _)); exact BK101.out) hb); have n1_ := Aside0.mk (blk_below (g := gb102) (o := .cells #[.int .u64 a1_0, .int .u64 a1_1] 24 (0, 0)) (by (with_reducible repeat (first | refine blk_drewN ?_ _ | refine blk_drew ?_ | refine blk_alloc ?_ _)); exact BK102.out) hb); have n2_ := Aside0.mk (blk_below (g := gb103) (o := .cells #[.int .u64 a2_0, .int .u64 a2_1] 24 (0, 0)) (by (with_reducible repeat (first | refine blk_drewN ?_ _ | refine blk_drew ?_ | refine blk_alloc ?_ _)); exact BK103.out) hb); have n3_ := Aside0.mk (blk_below (g := gb104) (o := .cells #[.int .u64 a3_0, .int .u64 a3_1] 24 (0, 0)) (by (with_reducible repeat (first | refine blk_drewN ?_ _ | refine blk_drew ?_ | refine blk_alloc ?_ _)); exact BK104.out) hb); have n4_ := Aside0.mk (below_step (by repeat (first | (with_reducible first | exact HB.out | apply below_alloc | apply pw_below_drewN | apply below_drew1 | refine below_set ?_ GE101.out | refine below_set ?_ GE102.out | refine below_set ?_ GE103.out | refine below_set ?_ GE104.out) | exact HB.out)) hb); clear BK101; clear BK102; clear BK103; clear BK104; clear HB; have BK101 := n0_; have BK102 := n1_; have BK103 := n2_; have BK104 := n3_; have HB := n4_; clear n0_ n1_ n2_ n3_ n4_; (try clear hb); (try clear hb2); (try clear hk); (try clear hi)))
                        go_roundg k3
                        case measure => have := HJ4.out; have := HJ61.out; have := HK3.out; omega
                        case rel => exact ⟨(wrap64 (x12_3 + 1)), (by first | rfl | (simp; done) | (simp [*]; done)), H', ⟨by have := HJ4.out; have := HJ61.out; have := HK3.out; omega⟩, ⟨by (with_reducible repeat (first | refine blk_drewN ?_ _ | refine blk_drew ?_ | refine blk_alloc ?_ _)); exact BK101.out⟩, ⟨by (with_reducible repeat (first | refine blk_drewN ?_ _ | refine blk_drew ?_ | refine blk_alloc ?_ _)); exact BK102.out⟩, ⟨by (with_reducible repeat (first | refine blk_drewN ?_ _ | refine blk_drew ?_ | refine blk_alloc ?_ _)); exact BK103.out⟩, ⟨by (with_reducible repeat (first | refine blk_drewN ?_ _ | refine blk_drew ?_ | refine blk_alloc ?_ _)); exact BK104.out⟩, ⟨by repeat (first | (with_reducible first | exact HB.out | apply below_alloc | apply pw_below_drewN | apply below_drew1 | refine below_set ?_ GE101.out | refine below_set ?_ GE102.out | refine below_set ?_ GE103.out | refine below_set ?_ GE104.out) | exact HB.out)⟩⟩
                    · rw [if_neg c94] at H
                      exact absurd H (by simp)
                  · rw [if_neg c90] at H
                    have c90b0 : decide (x12_3 < 64) = false := decide_eq_false c90
                    clear c90
                    replace H := Option.bind_eq_some_iff.mp H
                    obtain ⟨t127, A1160, H⟩ := H
                    replace H : (if t127 = 18446744073709551615 then ((tern_Not.f a0_0 a0_1).bind fun bt128 => ((tern_Not.f bt128.1 bt128.2).bind fun bt130 => (if (bt130.1 == a0_0 && (bt130.2 == a0_1)) = true then ((inquestlaw06_lives.f).bind fun t132 => (some t132)) else (some false)))) else (some false)) = some r := H
                    have A116 := Aside0.mk A1160
                    clear A1160
                    by_cases c117 : t127 = 18446744073709551615
                    · rw [if_pos c117] at H
                      have c117b0 : (t127 == 18446744073709551615) = true := beq_iff_eq.mpr c117
                      have c117b1 : (t127 != 18446744073709551615) = false := bne_eq_false_iff_eq.mpr c117
                      clear c117
                      replace H := Option.bind_eq_some_iff.mp H
                      obtain ⟨⟨t128, t129⟩, A1180, H⟩ := H
                      replace H : ((tern_Not.f t128 t129).bind fun bt130 => (if (bt130.1 == a0_0 && (bt130.2 == a0_1)) = true then ((inquestlaw06_lives.f).bind fun t132 => (some t132)) else (some false))) = some r := H
                      have A118 := Aside0.mk A1180
                      clear A1180
                      replace H := Option.bind_eq_some_iff.mp H
                      obtain ⟨⟨t130, t131⟩, A1190, H⟩ := H
                      replace H : (if (t130 == a0_0 && (t131 == a0_1)) = true then ((inquestlaw06_lives.f).bind fun t132 => (some t132)) else (some false)) = some r := H
                      have A119 := Aside0.mk A1190
                      clear A1190
                      by_cases c120 : (t130 == a0_0 && (t131 == a0_1)) = true
                      · rw [if_pos c120] at H
                        have c120b0 : (t130 == a0_0 && (t131 == a0_1)) = true := c120
                        (try (have c120b1 : decide (t130 = a0_0 && (t131 == a0_1)) = true := by simpa using c120))
                        (try (have c120b2 : (t130 == a0_0 && (t131 == a0_1)) = true := by simpa using c120))
                        clear c120
                        replace H := Option.bind_eq_some_iff.mp H
                        obtain ⟨t132, A1210, H⟩ := H
                        replace H : (some t132) = some r := H
                        have A121 := Aside0.mk A1210
                        clear A1210
                        obtain rfl := Option.some.inj H
                        try go_wp2
                        have n0_ := Aside0.mk (blk_drew BK101.out)
                        have n1_ := Aside0.mk (blk_drew BK102.out)
                        have n2_ := Aside0.mk (blk_drew BK103.out)
                        have n3_ := Aside0.mk (blk_drew BK104.out)
                        have n4_ := Aside0.mk (below_drew1 HB.out)
                        clear BK101
                        clear BK102
                        clear BK103
                        clear BK104
                        clear HB
                        have BK101 := n0_
                        have BK102 := n1_
                        have BK103 := n2_
                        have BK104 := n3_
                        have HB := n4_
                        clear n0_ n1_ n2_ n3_ n4_
                        refine start_ (n := 15) (S := fun w' => w'.cell? ⟨gb101, 0, none⟩ = some (.int .u64 a0_0) ∧ w'.cell? ⟨gb101, 1, none⟩ = some (.int .u64 a0_1)) (ds := []) #[false, false, false, false, false, false, false, false, false, false, false, false, false, false, false] (by kernel_rfl) rfl rfl ⟨(blk_cell BK101.out 0).trans rfl, (blk_cell BK101.out 1).trans rfl⟩ (fun hHeld => ?_); refine with_tabW inquestlaw06_TernWithin.tab14 inquestlaw06_TernWithin.bits14 (fun HT_ HW_ => ?_)
                        generalize wr.drew = w122 at BK101 BK102 BK103 BK104 HB hHeld ⊢
                        refine take_ (i := 0) (N := some 96) (v := ?_) (a' := ?_) #[true, false, false, false, false, false, false, false, false, false, false, false, false, false, false] rfl rfl (take_ofW HT_.out HW_.out (by kernel_rfl)) (fun _ _ _ h => h) (Or.inl ⟨by rfl, ?_⟩) hHeld ?_ ?_
                        rotate_left
                        · rintro w' ⟨s0, s1⟩
                          go_simp
                          with_reducible rfl
                        rotate_left
                        · simp only [Act.put, List.setIfInBounds_toArray, List.set_cons_zero, List.set_cons_succ, i64_w, i32_w]
                          rfl
                        refine take_ (i := 1) (N := some 97) (v := ?_) (a' := ?_) #[true, true, false, false, false, false, false, false, false, false, false, false, false, false, false] rfl rfl (take_ofW HT_.out HW_.out (by kernel_rfl)) (fun _ _ _ h => h) (Or.inl ⟨by rfl, ?_⟩) hHeld ?_ ?_
                        rotate_left
                        · rintro w' ⟨s0, s1⟩
                          go_simp
                          with_reducible rfl
                        rotate_left
                        · simp only [Act.put, List.setIfInBounds_toArray, List.set_cons_zero, List.set_cons_succ, i64_w, i32_w]
                          rfl
                        refine one_ (i := 2) (N := some 98) #[true, true, true, false, false, false, false, false, false, false, false, false, false, false, false] rfl rfl (one_of HT_.out (by kernel_rfl)) (by decide) (fun K hK => ?_)
                        refine goes_ Try.func13 (by kernel_rfl) rfl #[.agg #[.int .u64 a0_0, .int .u64 a0_1], .agg #[.int .u64 a0_0, .int .u64 a0_1]] (by rfl) rfl rfl (by (try simp only [List.map_toArray, List.map_cons, List.map_nil]); first | done | rfl | (simp only [List.length_drop, List.length_take]; rfl)) ?_
                        with_reducible refine (tern_Within.calls a0_0 a0_1 a0_0 a0_1 t127 _ A116.out).mono ?_
                        rintro e w123 ⟨rfl, hb⟩
                        refine ⟨_, rfl, ?_⟩
                        have n0_ := Aside0.mk (blk_below (g := gb101) (o := .cells #[.int .u64 a0_0, .int .u64 a0_1] 24 (0, 0)) (by (with_reducible repeat (first | refine blk_drewN ?_ _ | refine blk_drew ?_ | refine blk_alloc ?_ _)); exact BK101.out) hb)
                        have n1_ := Aside0.mk (blk_below (g := gb102) (o := .cells #[.int .u64 a1_0, .int .u64 a1_1] 24 (0, 0)) (by (with_reducible repeat (first | refine blk_drewN ?_ _ | refine blk_drew ?_ | refine blk_alloc ?_ _)); exact BK102.out) hb)
                        have n2_ := Aside0.mk (blk_below (g := gb103) (o := .cells #[.int .u64 a2_0, .int .u64 a2_1] 24 (0, 0)) (by (with_reducible repeat (first | refine blk_drewN ?_ _ | refine blk_drew ?_ | refine blk_alloc ?_ _)); exact BK103.out) hb)
                        have n3_ := Aside0.mk (blk_below (g := gb104) (o := .cells #[.int .u64 a3_0, .int .u64 a3_1] 24 (0, 0)) (by (with_reducible repeat (first | refine blk_drewN ?_ _ | refine blk_drew ?_ | refine blk_alloc ?_ _)); exact BK104.out) hb)
                        have n4_ := Aside0.mk (below_step (by repeat (first | (with_reducible first | exact HB.out | apply below_alloc | apply pw_below_drewN | apply below_drew1 | refine below_set ?_ GE101.out | refine below_set ?_ GE102.out | refine below_set ?_ GE103.out | refine below_set ?_ GE104.out) | exact HB.out)) hb)
                        clear BK101
                        clear BK102
                        clear BK103
                        clear BK104
                        clear HB
                        have BK101 := n0_
                        have BK102 := n1_
                        have BK103 := n2_
                        have BK104 := n3_
                        have HB := n4_
                        clear n0_ n1_ n2_ n3_ n4_
                        (try clear hb)
                        (try clear hb2)
                        (try clear hk)
                        (try clear hi)
                        refine hK.out _ _ ⟨(blk_cell BK101.out 0).trans rfl, (blk_cell BK101.out 1).trans rfl⟩ (fun hHeld => ?_)
                        clear hK K
                        refine norm_ (a' := ?_) ?_ ?_
                        rotate_left
                        · show Act.put _ (some 98) _ = _
                          simp only [Act.put, List.setIfInBounds_toArray, List.set_cons_zero, List.set_cons_succ, i64_w, i32_w]
                          rfl
                        refine pure_ (i := 3) (N := some 99) (v := ?_) (a' := ?_) #[true, true, true, true, false, false, false, false, false, false, false, false, false, false, false] rfl rfl (any_of HT_.out (by kernel_rfl)) (fun _ _ _ h => h) (Or.inl ⟨by rfl, ?_⟩) ?_ ?_
                        rotate_left
                        · intro w'
                          go_simp
                          with_reducible rfl
                        rotate_left
                        · simp only [Act.put, List.setIfInBounds_toArray, List.set_cons_zero, List.set_cons_succ, i64_w, i32_w]
                          rfl
                        refine pure_ (i := 4) (N := some 100) (v := ?_) (a' := ?_) #[true, true, true, true, true, false, false, false, false, false, false, false, false, false, false] rfl rfl (any_of HT_.out (by kernel_rfl)) (fun _ _ _ h => h) (Or.inl ⟨by rfl, ?_⟩) ?_ ?_
                        rotate_left
                        · intro w'
                          go_simp
                          with_reducible rfl
                        rotate_left
                        · simp only [Act.put, List.setIfInBounds_toArray, List.set_cons_zero, List.set_cons_succ, i64_w, i32_w]
                          rfl
                        refine take_ (i := 5) (N := some 101) (v := ?_) (a' := ?_) #[true, true, true, true, true, true, false, false, false, false, false, false, false, false, false] rfl rfl (take_ofW HT_.out HW_.out (by kernel_rfl)) (fun _ _ _ h => h) (Or.inl ⟨by rfl, ?_⟩) hHeld ?_ ?_
                        rotate_left
                        · rintro w' ⟨s0, s1⟩
                          go_simp
                          with_reducible rfl
                        rotate_left
                        · simp only [Act.put, List.setIfInBounds_toArray, List.set_cons_zero, List.set_cons_succ, i64_w, i32_w]
                          rfl
                        refine take_ (i := 8) (N := some 104) (v := ?_) (a' := ?_) #[true, true, true, true, true, true, false, false, true, false, false, false, false, false, false] rfl rfl (take_ofW HT_.out HW_.out (by kernel_rfl)) (fun _ _ _ h => h) (Or.inl ⟨by rfl, ?_⟩) hHeld ?_ ?_
                        rotate_left
                        · rintro w' ⟨s0, s1⟩
                          go_simp
                          with_reducible rfl
                        rotate_left
                        · simp only [Act.put, List.setIfInBounds_toArray, List.set_cons_zero, List.set_cons_succ, i64_w, i32_w]
                          rfl
                        refine one_ (i := 6) (N := some 102) #[true, true, true, true, true, true, true, false, true, false, false, false, false, false, false] rfl rfl (one_of HT_.out (by kernel_rfl)) (by decide) (fun K hK => ?_)
                        refine goes_ Try.func14 (by kernel_rfl) rfl #[.agg #[.int .u64 a0_0, .int .u64 a0_1]] (by rfl) rfl rfl (by (try simp only [List.map_toArray, List.map_cons, List.map_nil]); first | done | rfl | (simp only [List.length_drop, List.length_take]; rfl)) ?_
                        with_reducible refine (tern_Not.calls a0_0 a0_1 t128 t129 _ A118.out).mono ?_
                        rintro e w124 ⟨rfl, hb⟩
                        refine ⟨_, rfl, ?_⟩
                        have n0_ := Aside0.mk (blk_below (g := gb101) (o := .cells #[.int .u64 a0_0, .int .u64 a0_1] 24 (0, 0)) (by (with_reducible repeat (first | refine blk_drewN ?_ _ | refine blk_drew ?_ | refine blk_alloc ?_ _)); exact BK101.out) hb)
                        have n1_ := Aside0.mk (blk_below (g := gb102) (o := .cells #[.int .u64 a1_0, .int .u64 a1_1] 24 (0, 0)) (by (with_reducible repeat (first | refine blk_drewN ?_ _ | refine blk_drew ?_ | refine blk_alloc ?_ _)); exact BK102.out) hb)
                        have n2_ := Aside0.mk (blk_below (g := gb103) (o := .cells #[.int .u64 a2_0, .int .u64 a2_1] 24 (0, 0)) (by (with_reducible repeat (first | refine blk_drewN ?_ _ | refine blk_drew ?_ | refine blk_alloc ?_ _)); exact BK103.out) hb)
                        have n3_ := Aside0.mk (blk_below (g := gb104) (o := .cells #[.int .u64 a3_0, .int .u64 a3_1] 24 (0, 0)) (by (with_reducible repeat (first | refine blk_drewN ?_ _ | refine blk_drew ?_ | refine blk_alloc ?_ _)); exact BK104.out) hb)
                        have n4_ := Aside0.mk (below_step (by repeat (first | (with_reducible first | exact HB.out | apply below_alloc | apply pw_below_drewN | apply below_drew1 | refine below_set ?_ GE101.out | refine below_set ?_ GE102.out | refine below_set ?_ GE103.out | refine below_set ?_ GE104.out) | exact HB.out)) hb)
                        clear BK101
                        clear BK102
                        clear BK103
                        clear BK104
                        clear HB
                        have BK101 := n0_
                        have BK102 := n1_
                        have BK103 := n2_
                        have BK104 := n3_
                        have HB := n4_
                        clear n0_ n1_ n2_ n3_ n4_
                        (try clear hb)
                        (try clear hb2)
                        (try clear hk)
                        (try clear hi)
                        refine hK.out _ _ ⟨(blk_cell BK101.out 0).trans rfl, (blk_cell BK101.out 1).trans rfl⟩ (fun hHeld => ?_)
                        clear hK K
                        refine norm_ (a' := ?_) ?_ ?_
                        rotate_left
                        · show Act.put _ (some 102) _ = _
                          simp only [Act.put, List.setIfInBounds_toArray, List.set_cons_zero, List.set_cons_succ, i64_w, i32_w]
                          rfl
                        refine one_ (i := 7) (N := some 103) #[true, true, true, true, true, true, true, true, true, false, false, false, false, false, false] rfl rfl (one_of HT_.out (by kernel_rfl)) (by decide) (fun K hK => ?_)
                        refine goes_ Try.func14 (by kernel_rfl) rfl #[.agg #[.int .u64 t128, .int .u64 t129]] (by rfl) rfl rfl (by (try simp only [List.map_toArray, List.map_cons, List.map_nil]); first | done | rfl | (simp only [List.length_drop, List.length_take]; rfl)) ?_
                        with_reducible refine (tern_Not.calls t128 t129 t130 t131 _ A119.out).mono ?_
                        rintro e w125 ⟨rfl, hb⟩
                        refine ⟨_, rfl, ?_⟩
                        have n0_ := Aside0.mk (blk_below (g := gb101) (o := .cells #[.int .u64 a0_0, .int .u64 a0_1] 24 (0, 0)) (by (with_reducible repeat (first | refine blk_drewN ?_ _ | refine blk_drew ?_ | refine blk_alloc ?_ _)); exact BK101.out) hb)
                        have n1_ := Aside0.mk (blk_below (g := gb102) (o := .cells #[.int .u64 a1_0, .int .u64 a1_1] 24 (0, 0)) (by (with_reducible repeat (first | refine blk_drewN ?_ _ | refine blk_drew ?_ | refine blk_alloc ?_ _)); exact BK102.out) hb)
                        have n2_ := Aside0.mk (blk_below (g := gb103) (o := .cells #[.int .u64 a2_0, .int .u64 a2_1] 24 (0, 0)) (by (with_reducible repeat (first | refine blk_drewN ?_ _ | refine blk_drew ?_ | refine blk_alloc ?_ _)); exact BK103.out) hb)
                        have n3_ := Aside0.mk (blk_below (g := gb104) (o := .cells #[.int .u64 a3_0, .int .u64 a3_1] 24 (0, 0)) (by (with_reducible repeat (first | refine blk_drewN ?_ _ | refine blk_drew ?_ | refine blk_alloc ?_ _)); exact BK104.out) hb)
                        have n4_ := Aside0.mk (below_step (by repeat (first | (with_reducible first | exact HB.out | apply below_alloc | apply pw_below_drewN | apply below_drew1 | refine below_set ?_ GE101.out | refine below_set ?_ GE102.out | refine below_set ?_ GE103.out | refine below_set ?_ GE104.out) | exact HB.out)) hb)
                        clear BK101
                        clear BK102
                        clear BK103
                        clear BK104
                        clear HB
                        have BK101 := n0_
                        have BK102 := n1_
                        have BK103 := n2_
                        have BK104 := n3_
                        have HB := n4_
                        clear n0_ n1_ n2_ n3_ n4_
                        (try clear hb)
                        (try clear hb2)
                        (try clear hk)
                        (try clear hi)
                        refine hK.out _ _ ⟨(blk_cell BK101.out 0).trans rfl, (blk_cell BK101.out 1).trans rfl⟩ (fun hHeld => ?_)
                        clear hK K
                        refine norm_ (a' := ?_) ?_ ?_
                        rotate_left
                        · show Act.put _ (some 103) _ = _
                          simp only [Act.put, List.setIfInBounds_toArray, List.set_cons_zero, List.set_cons_succ, i64_w, i32_w]
                          rfl
                        refine pure_ (i := 9) (N := some 105) (v := ?_) (a' := ?_) #[true, true, true, true, true, true, true, true, true, true, false, false, false, false, false] rfl rfl (any_of HT_.out (by kernel_rfl)) (fun _ _ _ h => h) (Or.inl ⟨by rfl, ?_⟩) ?_ ?_
                        rotate_left
                        · intro w'
                          go_simp
                          with_reducible rfl
                        rotate_left
                        · simp only [Act.put, List.setIfInBounds_toArray, List.set_cons_zero, List.set_cons_succ, i64_w, i32_w]
                          rfl
                        refine pure_ (i := 10) (N := some 106) (v := ?_) (a' := ?_) #[true, true, true, true, true, true, true, true, true, true, true, false, false, false, false] rfl rfl (any_of HT_.out (by kernel_rfl)) (fun _ _ _ h => h) (Or.inl ⟨by rfl, ?_⟩) ?_ ?_
                        rotate_left
                        · intro w'
                          go_simp
                          with_reducible rfl
                        rotate_left
                        · simp only [Act.put, List.setIfInBounds_toArray, List.set_cons_zero, List.set_cons_succ, i64_w, i32_w]
                          rfl
                        refine pure_ (i := 11) (N := some 107) (v := ?_) (a' := ?_) #[true, true, true, true, true, true, true, true, true, true, true, true, false, false, false] rfl rfl (any_of HT_.out (by kernel_rfl)) (fun _ _ _ h => h) (Or.inl ⟨by rfl, ?_⟩) ?_ ?_
                        rotate_left
                        · intro w'
                          go_simp
                          with_reducible rfl
                        rotate_left
                        · simp only [Act.put, List.setIfInBounds_toArray, List.set_cons_zero, List.set_cons_succ, i64_w, i32_w]
                          rfl
                        refine one_ (i := 12) (N := some 108) #[true, true, true, true, true, true, true, true, true, true, true, true, true, false, false] rfl rfl (one_of HT_.out (by kernel_rfl)) (by decide) (fun K hK => ?_)
                        refine goes_ Try.func12 (by kernel_rfl) rfl #[] (by rfl) rfl rfl (by (try simp only [List.map_toArray, List.map_cons, List.map_nil]); first | done | rfl | (simp only [List.length_drop, List.length_take]; rfl)) ?_
                        with_reducible refine (inquestlaw06_lives.calls  t132 _ A121.out).mono ?_
                        rintro e w126 ⟨rfl, hb⟩
                        refine ⟨_, rfl, ?_⟩
                        have n0_ := Aside0.mk (blk_below (g := gb101) (o := .cells #[.int .u64 a0_0, .int .u64 a0_1] 24 (0, 0)) (by (with_reducible repeat (first | refine blk_drewN ?_ _ | refine blk_drew ?_ | refine blk_alloc ?_ _)); exact BK101.out) hb)
                        have n1_ := Aside0.mk (blk_below (g := gb102) (o := .cells #[.int .u64 a1_0, .int .u64 a1_1] 24 (0, 0)) (by (with_reducible repeat (first | refine blk_drewN ?_ _ | refine blk_drew ?_ | refine blk_alloc ?_ _)); exact BK102.out) hb)
                        have n2_ := Aside0.mk (blk_below (g := gb103) (o := .cells #[.int .u64 a2_0, .int .u64 a2_1] 24 (0, 0)) (by (with_reducible repeat (first | refine blk_drewN ?_ _ | refine blk_drew ?_ | refine blk_alloc ?_ _)); exact BK103.out) hb)
                        have n3_ := Aside0.mk (blk_below (g := gb104) (o := .cells #[.int .u64 a3_0, .int .u64 a3_1] 24 (0, 0)) (by (with_reducible repeat (first | refine blk_drewN ?_ _ | refine blk_drew ?_ | refine blk_alloc ?_ _)); exact BK104.out) hb)
                        have n4_ := Aside0.mk (below_step (by repeat (first | (with_reducible first | exact HB.out | apply below_alloc | apply pw_below_drewN | apply below_drew1 | refine below_set ?_ GE101.out | refine below_set ?_ GE102.out | refine below_set ?_ GE103.out | refine below_set ?_ GE104.out) | exact HB.out)) hb)
                        clear BK101
                        clear BK102
                        clear BK103
                        clear BK104
                        clear HB
                        have BK101 := n0_
                        have BK102 := n1_
                        have BK103 := n2_
                        have BK104 := n3_
                        have HB := n4_
                        clear n0_ n1_ n2_ n3_ n4_
                        (try clear hb)
                        (try clear hb2)
                        (try clear hk)
                        (try clear hi)
                        refine hK.out _ _ ⟨(blk_cell BK101.out 0).trans rfl, (blk_cell BK101.out 1).trans rfl⟩ (fun hHeld => ?_)
                        clear hK K
                        refine norm_ (a' := ?_) ?_ ?_
                        rotate_left
                        · show Act.put _ (some 108) _ = _
                          simp only [Act.put, List.setIfInBounds_toArray, List.set_cons_zero, List.set_cons_succ, i64_w, i32_w]
                          rfl
                        refine pure_ (i := 13) (N := some 109) (v := ?_) (a' := ?_) #[true, true, true, true, true, true, true, true, true, true, true, true, true, true, false] rfl rfl (any_of HT_.out (by kernel_rfl)) (fun _ _ _ h => h) (Or.inl ⟨by rfl, ?_⟩) ?_ ?_
                        rotate_left
                        · intro w'
                          go_simp
                          with_reducible rfl
                        rotate_left
                        · simp only [Act.put, List.setIfInBounds_toArray, List.set_cons_zero, List.set_cons_succ, i64_w, i32_w]
                          rfl
                        refine pure_ (i := 14) (N := some 8) (v := ?_) (a' := ?_) #[true, true, true, true, true, true, true, true, true, true, true, true, true, true, true] rfl rfl (any_of HT_.out (by kernel_rfl)) (fun _ _ _ h => h) (Or.inl ⟨by rfl, ?_⟩) ?_ ?_
                        rotate_left
                        · intro w'
                          go_simp
                          with_reducible rfl
                        rotate_left
                        · simp only [Act.put, List.setIfInBounds_toArray, List.set_cons_zero, List.set_cons_succ, i64_w, i32_w]
                          rfl
                        refine done_ (done_of HT_.out (by kernel_rfl)) ?_
                        try go_wp2
                        go_ret
                        exact ⟨by first | rfl | (simp [errW_none, errW_some] <;> rfl) | (simp [*, errW_none, errW_some] <;> rfl), by repeat (first | (with_reducible first | exact HB.out | apply below_alloc | apply pw_below_drewN | apply below_drew1 | refine below_set ?_ GE101.out | refine below_set ?_ GE102.out | refine below_set ?_ GE103.out | refine below_set ?_ GE104.out) | exact HB.out)⟩
                      · rw [if_neg c120] at H
                        have c120b0 : (t130 == a0_0 && (t131 == a0_1)) = false := by simpa using c120
                        (try (have c120b1 : decide (t130 = a0_0 && (t131 == a0_1)) = false := by simpa using c120))
                        (try (have c120b2 : (t130 == a0_0 && (t131 == a0_1)) = false := by simpa using c120))
                        (try (have c120b3 : ¬ (t130 = a0_0 && (t131 == a0_1)) := by simpa using c120))
                        clear c120
                        exact absurd ((Option.some.inj H).trans hrt.out) (by simp)
                    · rw [if_neg c117] at H
                      have c117b0 : (t127 == 18446744073709551615) = false := beq_eq_false_iff_ne.mpr c117
                      have c117b1 : (t127 != 18446744073709551615) = true := bne_iff_ne.mpr c117
                      exact absurd ((Option.some.inj H).trans hrt.out) (by simp)

end Go.Proofs.Ythpnooookkpkaaa.F
