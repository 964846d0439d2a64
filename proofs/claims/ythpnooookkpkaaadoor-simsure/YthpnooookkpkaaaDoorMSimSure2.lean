/- Texts of this session for the claim of SimSure: functions of the program as plain Lean functions, that the machine's calls come to them, and plain facts of these. -/
import Derived.Test.YthpnooookkpkaaaDoorMSimSure0
import Derived.Lib.Walk
import Derived.Shelf.Abstract
import Derived.Outline
import Derived.Laws.IdiomCopy
namespace Go.Proofs.YthpnooookkpkaaaDoor.F
open Go.Shelf Go.RowKit Go.Proofs.YthpnooookkpkaaaDoorW.PrintWords Go.Proofs.YthpnooookkpkaaaDoorW.PrintLast Go.Proofs.YthpnooookkpkaaaDoorW.PrintMore
attribute [local go_sem] max2_int min2_int max_two min_two max_three min_three max_four min_four
namespace FirstIdx
/-- the first place below n at which p holds, or -1 -/
def first (p : Nat → Bool) (n : Nat) : Int := match (List.range n).find? p with | some i => i | none => -1
def has (p : Nat → Bool) (n : Nat) : Bool := (List.range n).any p
theorem hit (p : Nat → Bool) (n k : Nat) (h : k < n) (hk : p k = true) (hb : ∀ j, j < k → p j = false) : first p n = k := by
  have : (List.range n).find? p = some k := by
    rw [List.find?_range_eq_some]
    exact ⟨hk, List.mem_range.2 h, fun j hj => by simp [hb j hj]⟩
  unfold first; rw [this]
theorem miss (p : Nat → Bool) (n : Nat) (hb : ∀ j, j < n → p j = false) : first p n = -1 := by
  have : (List.range n).find? p = none := by
    rw [List.find?_range_eq_none]
    intro j hj; simp [hb j hj]
  unfold first; rw [this]
theorem has_iff (p : Nat → Bool) (n : Nat) : has p n = true ↔ ∃ j, j < n ∧ p j = true := by
  unfold has; simp [List.any_eq_true]
theorem nonneg (p : Nat → Bool) (n : Nat) : decide (first p n ≥ 0) = has p n := by
  rw [Bool.eq_iff_iff, decide_eq_true_iff, has_iff]
  by_cases h : ∃ j, j < n ∧ p j = true
  · refine ⟨fun _ => h, fun _ => ?_⟩
    unfold first
    split
    · omega
    · rename_i hn
      obtain ⟨j, hj, hp⟩ := h
      rw [List.find?_range_eq_none] at hn
      have := hn j hj
      simp [hp] at this
  · refine ⟨fun hf => absurd ?_ h, fun hx => absurd hx h⟩
    unfold first at hf
    split at hf
    · rename_i i hi
      rw [List.find?_range_eq_some] at hi
      exact ⟨i, List.mem_range.1 hi.2.1, hi.1⟩
    · omega
end FirstIdx
set_option maxHeartbeats 2000000 in
theorem u32_index (a : Option Addr) (n c : Nat) (v : Nat → Value) (p : Nat → Bool) (g : Nat) (lb : Array Value) (w : World) (eg : ∀ args w, (callFunc g args).run Tryd.prog w = .ok (.enter g args) w)
    (hbig : n ≤ 9223372036854775807) (hA : 0 < n → ∃ ad, a = some ad ∧ ∀ i, i < n → w.cell? (ad.add i) = some (v i))
    (hp : ∀ i, i < n → ∀ W, Below w.heap.size w W → Calls Tryd.prog g (#[v i] ++ lb) W fun e W' => e = .returned (.bool (p i)) ∧ Below W.heap.size W W') :
    Calls Tryd.prog 149 #[.slice a n c, .func (.func g) #[] lb] w fun e w' => e = .returned (.int .i64 (FirstIdx.first p n)) ∧ Below w.heap.size w w' := by
  have hp' := Aside0.mk hp
  have hA' := Aside0.mk hA
  clear hp hA
  go_enter Tryd.func149, Tryd.ntmps149
  go_wp2_with fail
  go_loopg [5, 8] n (fun gg _ s8 wr => ∃ kk : Nat, kk ≤ n ∧ n - kk ≤ gg ∧ s8 = .int .i64 kk ∧ Below w.heap.size w wr ∧ Aside0 (∀ j, j < kk → p j = false))
  case atStart => exact ⟨0, Nat.zero_le _, by omega, rfl, Below.refl _ _, ⟨fun j hj => absurd hj (Nat.not_lt_zero _)⟩⟩
  case round =>
    obtain ⟨kk, hkk, hg, rfl, hB, A⟩ := hrel
    by_cases hlt : kk < n
    · have hltz : (kk : Int) < (n : Int) := by omega
      obtain ⟨ad, rfl, hcs⟩ := hA'.out (by omega)
      have hcell : wr.cell? (ad.add kk) = some (v kk) := pw_cell_below hB (hcs kk hlt)
      have hcall := hp'.out kk hlt
      have HB := Aside0.mk hB
      clear hcs hB
      generalize v kk = y at hcell hcall
      cases hq : p kk with
      | true =>
        rw [hq] at hcall
        have HQ := Aside0.mk hq
        have HC := Aside0.mk hcall
        clear hq hcall
        go_wp2_with (go_at_fn g; refine (HC.out _ HB.out).mono ?_; rintro e w' ⟨rfl, hb⟩)
        go_ret
        refine ⟨?_, below_step HB.out hb⟩
        rw [FirstIdx.hit p n kk hlt HQ.out A.out]; rfl
      | false =>
        rw [hq] at hcall
        have HQ := Aside0.mk hq
        have HC := Aside0.mk hcall
        clear hq hcall
        go_wp2_with (go_at_fn g; refine (HC.out _ HB.out).mono ?_; rintro e w' ⟨rfl, hb⟩)
        go_roundg (n - (kk + 1))
        case measure => omega
        case rel =>
          refine ⟨kk + 1, by omega, by omega, by go_num, below_step HB.out hb, ⟨fun j hj => ?_⟩⟩
          by_cases e : j = kk
          · subst e; exact HQ.out
          · exact A.out j (by omega)
    · have hltz : ¬ (kk : Int) < (n : Int) := by omega
      have : kk = n := by omega
      subst this
      have HB := Aside0.mk hB
      clear hB
      go_wp2_with fail
      go_ret
      exact ⟨by rw [FirstIdx.miss p kk A.out]; rfl, HB.out⟩
set_option maxHeartbeats 1000000 in
theorem u32_contains (a : Option Addr) (n c : Nat) (v : Nat → Value) (p : Nat → Bool) (g : Nat) (lb : Array Value) (w : World) (eg : ∀ args w, (callFunc g args).run Tryd.prog w = .ok (.enter g args) w)
    (hbig : n ≤ 9223372036854775807) (hA : 0 < n → ∃ ad, a = some ad ∧ ∀ i, i < n → w.cell? (ad.add i) = some (v i))
    (hp : ∀ i, i < n → ∀ W, Below w.heap.size w W → Calls Tryd.prog g (#[v i] ++ lb) W fun e W' => e = .returned (.bool (p i)) ∧ Below W.heap.size W W') :
    Calls Tryd.prog 116 #[.slice a n c, .func (.func g) #[] lb] w fun e w' => e = .returned (.bool (FirstIdx.has p n)) ∧ Below w.heap.size w w' := by
  have HC := Aside0.mk (u32_index a n c v p g lb w eg hbig hA hp)
  rw [← FirstIdx.nonneg p n]
  clear hA hp
  generalize FirstIdx.first p n = r at HC ⊢
  go_enter Tryd.func116, Tryd.ntmps116
  go_wp2_with fail
  refine HC.out.mono ?_
  rintro e w' ⟨rfl, hb⟩
  go_wp2_with fail
  go_ret
  exact ⟨rfl, hb⟩
set_option maxHeartbeats 2000000 in
theorem u8_index (a : Option Addr) (n c : Nat) (v : Nat → Value) (p : Nat → Bool) (g : Nat) (lb : Array Value) (w : World) (eg : ∀ args w, (callFunc g args).run Tryd.prog w = .ok (.enter g args) w)
    (hbig : n ≤ 9223372036854775807) (hA : 0 < n → ∃ ad, a = some ad ∧ ∀ i, i < n → w.cell? (ad.add i) = some (v i))
    (hp : ∀ i, i < n → ∀ W, Below w.heap.size w W → Calls Tryd.prog g (#[v i] ++ lb) W fun e W' => e = .returned (.bool (p i)) ∧ Below W.heap.size W W') :
    Calls Tryd.prog 150 #[.slice a n c, .func (.func g) #[] lb] w fun e w' => e = .returned (.int .i64 (FirstIdx.first p n)) ∧ Below w.heap.size w w' := by
  have hp' := Aside0.mk hp
  have hA' := Aside0.mk hA
  clear hp hA
  go_enter Tryd.func150, Tryd.ntmps150
  go_wp2_with fail
  go_loopg [5, 8] n (fun gg _ s8 wr => ∃ kk : Nat, kk ≤ n ∧ n - kk ≤ gg ∧ s8 = .int .i64 kk ∧ Below w.heap.size w wr ∧ Aside0 (∀ j, j < kk → p j = false))
  case atStart => exact ⟨0, Nat.zero_le _, by omega, rfl, Below.refl _ _, ⟨fun j hj => absurd hj (Nat.not_lt_zero _)⟩⟩
  case round =>
    obtain ⟨kk, hkk, hg, rfl, hB, A⟩ := hrel
    by_cases hlt : kk < n
    · have hltz : (kk : Int) < (n : Int) := by omega
      obtain ⟨ad, rfl, hcs⟩ := hA'.out (by omega)
      have hcell : wr.cell? (ad.add kk) = some (v kk) := pw_cell_below hB (hcs kk hlt)
      have hcall := hp'.out kk hlt
      have HB := Aside0.mk hB
      clear hcs hB
      generalize v kk = y at hcell hcall
      cases hq : p kk with
      | true =>
        rw [hq] at hcall
        have HQ := Aside0.mk hq
        have HC := Aside0.mk hcall
        clear hq hcall
        go_wp2_with (go_at_fn g; refine (HC.out _ HB.out).mono ?_; rintro e w' ⟨rfl, hb⟩)
        go_ret
        refine ⟨?_, below_step HB.out hb⟩
        rw [FirstIdx.hit p n kk hlt HQ.out A.out]; rfl
      | false =>
        rw [hq] at hcall
        have HQ := Aside0.mk hq
        have HC := Aside0.mk hcall
        clear hq hcall
        go_wp2_with (go_at_fn g; refine (HC.out _ HB.out).mono ?_; rintro e w' ⟨rfl, hb⟩)
        go_roundg (n - (kk + 1))
        case measure => omega
        case rel =>
          refine ⟨kk + 1, by omega, by omega, by go_num, below_step HB.out hb, ⟨fun j hj => ?_⟩⟩
          by_cases e : j = kk
          · subst e; exact HQ.out
          · exact A.out j (by omega)
    · have hltz : ¬ (kk : Int) < (n : Int) := by omega
      have : kk = n := by omega
      subst this
      have HB := Aside0.mk hB
      clear hB
      go_wp2_with fail
      go_ret
      exact ⟨by rw [FirstIdx.miss p kk A.out]; rfl, HB.out⟩
set_option maxHeartbeats 1000000 in
theorem u8_contains (a : Option Addr) (n c : Nat) (v : Nat → Value) (p : Nat → Bool) (g : Nat) (lb : Array Value) (w : World) (eg : ∀ args w, (callFunc g args).run Tryd.prog w = .ok (.enter g args) w)
    (hbig : n ≤ 9223372036854775807) (hA : 0 < n → ∃ ad, a = some ad ∧ ∀ i, i < n → w.cell? (ad.add i) = some (v i))
    (hp : ∀ i, i < n → ∀ W, Below w.heap.size w W → Calls Tryd.prog g (#[v i] ++ lb) W fun e W' => e = .returned (.bool (p i)) ∧ Below W.heap.size W W') :
    Calls Tryd.prog 117 #[.slice a n c, .func (.func g) #[] lb] w fun e w' => e = .returned (.bool (FirstIdx.has p n)) ∧ Below w.heap.size w w' := by
  have HC := Aside0.mk (u8_index a n c v p g lb w eg hbig hA hp)
  rw [← FirstIdx.nonneg p n]
  clear hA hp
  generalize FirstIdx.first p n = r at HC ⊢
  go_enter Tryd.func117, Tryd.ntmps117
  go_wp2_with fail
  refine HC.out.mono ?_
  rintro e w' ⟨rfl, hb⟩
  go_wp2_with fail
  go_ret
  exact ⟨rfl, hb⟩
set_option maxHeartbeats 2000000 in
theorem rows_index (a : Option Addr) (n c : Nat) (v : Nat → Value) (p : Nat → Bool) (g : Nat) (lb : Array Value) (w : World) (eg : ∀ args w, (callFunc g args).run Tryd.prog w = .ok (.enter g args) w)
    (hbig : n ≤ 9223372036854775807) (hA : 0 < n → ∃ ad, a = some ad ∧ ∀ i, i < n → w.cell? (ad.add i) = some (v i))
    (hp : ∀ i, i < n → ∀ W, Below w.heap.size w W → Calls Tryd.prog g (#[v i] ++ lb) W fun e W' => e = .returned (.bool (p i)) ∧ Below W.heap.size W W') :
    Calls Tryd.prog 148 #[.slice a n c, .func (.func g) #[] lb] w fun e w' => e = .returned (.int .i64 (FirstIdx.first p n)) ∧ Below w.heap.size w w' := by
  have hp' := Aside0.mk hp
  have hA' := Aside0.mk hA
  clear hp hA
  go_enter Tryd.func148, Tryd.ntmps148
  go_wp2_with fail
  go_loopg [5, 8] n (fun gg _ s8 wr => ∃ kk : Nat, kk ≤ n ∧ n - kk ≤ gg ∧ s8 = .int .i64 kk ∧ Below w.heap.size w wr ∧ Aside0 (∀ j, j < kk → p j = false))
  case atStart => exact ⟨0, Nat.zero_le _, by omega, rfl, Below.refl _ _, ⟨fun j hj => absurd hj (Nat.not_lt_zero _)⟩⟩
  case round =>
    obtain ⟨kk, hkk, hg, rfl, hB, A⟩ := hrel
    by_cases hlt : kk < n
    · have hltz : (kk : Int) < (n : Int) := by omega
      obtain ⟨ad, rfl, hcs⟩ := hA'.out (by omega)
      have hcell : wr.cell? (ad.add kk) = some (v kk) := pw_cell_below hB (hcs kk hlt)
      have hcall := hp'.out kk hlt
      have HB := Aside0.mk hB
      clear hcs hB
      generalize v kk = y at hcell hcall
      cases hq : p kk with
      | true =>
        rw [hq] at hcall
        have HQ := Aside0.mk hq
        have HC := Aside0.mk hcall
        clear hq hcall
        go_wp2_with (go_at_fn g; refine (HC.out _ HB.out).mono ?_; rintro e w' ⟨rfl, hb⟩)
        go_ret
        refine ⟨?_, below_step HB.out hb⟩
        rw [FirstIdx.hit p n kk hlt HQ.out A.out]; rfl
      | false =>
        rw [hq] at hcall
        have HQ := Aside0.mk hq
        have HC := Aside0.mk hcall
        clear hq hcall
        go_wp2_with (go_at_fn g; refine (HC.out _ HB.out).mono ?_; rintro e w' ⟨rfl, hb⟩)
        go_roundg (n - (kk + 1))
        case measure => omega
        case rel =>
          refine ⟨kk + 1, by omega, by omega, by go_num, below_step HB.out hb, ⟨fun j hj => ?_⟩⟩
          by_cases e : j = kk
          · subst e; exact HQ.out
          · exact A.out j (by omega)
    · have hltz : ¬ (kk : Int) < (n : Int) := by omega
      have : kk = n := by omega
      subst this
      have HB := Aside0.mk hB
      clear hB
      go_wp2_with fail
      go_ret
      exact ⟨by rw [FirstIdx.miss p kk A.out]; rfl, HB.out⟩
set_option maxHeartbeats 1000000 in
theorem rows_contains (a : Option Addr) (n c : Nat) (v : Nat → Value) (p : Nat → Bool) (g : Nat) (lb : Array Value) (w : World) (eg : ∀ args w, (callFunc g args).run Tryd.prog w = .ok (.enter g args) w)
    (hbig : n ≤ 9223372036854775807) (hA : 0 < n → ∃ ad, a = some ad ∧ ∀ i, i < n → w.cell? (ad.add i) = some (v i))
    (hp : ∀ i, i < n → ∀ W, Below w.heap.size w W → Calls Tryd.prog g (#[v i] ++ lb) W fun e W' => e = .returned (.bool (p i)) ∧ Below W.heap.size W W') :
    Calls Tryd.prog 110 #[.slice a n c, .func (.func g) #[] lb] w fun e w' => e = .returned (.bool (FirstIdx.has p n)) ∧ Below w.heap.size w w' := by
  have HC := Aside0.mk (rows_index a n c v p g lb w eg hbig hA hp)
  rw [← FirstIdx.nonneg p n]
  clear hA hp
  generalize FirstIdx.first p n = r at HC ⊢
  go_enter Tryd.func110, Tryd.ntmps110
  go_wp2_with fail
  refine HC.out.mono ?_
  rintro e w' ⟨rfl, hb⟩
  go_wp2_with fail
  go_ret
  exact ⟨rfl, hb⟩
end Go.Proofs.YthpnooookkpkaaaDoor.F
namespace Go.Proofs.YthpnooookkpkaaaDoor.F
open Go.Shelf Go.RowKit Go.Proofs.YthpnooookkpkaaaDoorW.PrintWords Go.Proofs.YthpnooookkpkaaaDoorW.PrintLast Go.Proofs.YthpnooookkpkaaaDoorW.PrintMore
attribute [local go_sem] max2_int min2_int max_two min_two max_three min_three max_four min_four

/-- a circuit as it lies: its numbers, its lists, where they begin, how much room they have -/
structure Circ where
  n : Int
  A1 : Option Addr
  c1 : Nat
  L : List S71
  A2 : Option Addr
  c2 : Nat
  G : List S84
  A3 : Option Addr
  c3 : Nat
  O : List Int
  A4 : Option Addr
  c4 : Nat
  B : List Int
  A5 : Option Addr
  c5 : Nat
  K : List Int
def Circ.cells (c : Circ) : Array Value := #[.int .i64 c.n, .slice c.A1 c.L.length c.c1, .slice c.A2 c.G.length c.c2, .slice c.A3 c.O.length c.c3, .slice c.A4 c.B.length c.c4, .slice c.A5 c.K.length c.c5]
structure Circ.ok (c : Circ) (w : World) : Prop where
  r1 : Kd.C k71 w c.A1 c.L.length c.L
  h1 : c.L.length ≤ c.c1
  r2 : Kd.C k84 w c.A2 c.G.length c.G
  h2 : c.G.length ≤ c.c2
  r3 : Kd.C (Kd.int .u32) w c.A3 c.O.length c.O
  h3 : c.O.length ≤ c.c3
  r4 : Kd.C (Kd.int .u32) w c.A4 c.B.length c.B
  h4 : c.B.length ≤ c.c4
  r5 : Kd.C (Kd.int .u32) w c.A5 c.K.length c.K
  h5 : c.K.length ≤ c.c5
theorem Circ.ok.below {c : Circ} {w w' : World} (h : c.ok w) (hb : Below w.heap.size w w') : c.ok w' :=
  ⟨Kd.C_below h.r1 hb, h.h1, Kd.C_below h.r2 hb, h.h2, Kd.C_below h.r3 hb, h.h3, Kd.C_below h.r4 hb, h.h4, Kd.C_below h.r5 hb, h.h5⟩

def Circ.val (c : Circ) : Value := .agg c.cells
/-- how many variables beside 0 -/
def Circ.vars (c : Circ) : Int := c.n + c.L.length + c.G.length
def litsOK (V : Int) (l : List Int) : Bool := decide (l.length ≤ 1024) && l.all fun x => decide (x / 2 ≤ V)
def mayB (c : Circ) : Bool :=
  decide (0 ≤ c.n) && decide (c.n ≤ 16384) && decide (c.vars ≤ 16384) && litsOK c.vars c.O && litsOK c.vars c.B && litsOK c.vars c.K &&
    (c.L.all fun x => decide (x.f1 ≤ 2) && decide (x.f0 / 2 ≤ c.vars)) &&
    ((List.range c.G.length).all fun i => decide ((rd_T84 c.G i).f0 / 2 < c.n + c.L.length + 1 + i) && decide ((rd_T84 c.G i).f1 ≤ (rd_T84 c.G i).f0))
/-- its numbers are of their kinds -/
structure Circ.wf (c : Circ) : Prop where
  n1 : c.L.length ≤ 1000000000000000
  n2 : c.G.length ≤ 1000000000000000
  n0 : -9223372036854775808 ≤ c.n ∧ c.n ≤ 9223372036854775807
  lits : ∀ l, l = c.O ∨ l = c.B ∨ l = c.K → l.length ≤ 9223372036854775807 ∧ ∀ x ∈ l, 0 ≤ x ∧ x < 4294967296
  lats : ∀ x ∈ c.L, 0 ≤ x.f0 ∧ x.f0 < 4294967296 ∧ 0 ≤ x.f1 ∧ x.f1 < 256
  gates : ∀ x ∈ c.G, 0 ≤ x.f0 ∧ x.f0 < 4294967296 ∧ 0 ≤ x.f1 ∧ x.f1 < 4294967296

theorem vars_c (c : Circ) (h : c.wf) (h0 : 0 ≤ c.n) (h1 : c.n ≤ 16384) (W : World) (hk : c.ok W) :
    Calls Tryd.prog 114 #[c.val] W fun e w' => e = .returned (.int .i64 c.vars) ∧ Below W.heap.size W w' := by
  refine norm_vars.calls c.n c.A1 c.c1 c.L c.A2 c.c2 c.G c.A3 c.c3 c.O c.A4 c.c4 c.B c.A5 c.c5 c.K c.vars W hk.r1 hk.h1 hk.r2 hk.h2 hk.r3 hk.h3 hk.r4 hk.h4 hk.r5 hk.h5 ?_
  unfold norm_vars.f Circ.vars
  have := h.n1
  have := h.n2
  congr 1
  unfold wrap64
  omega
set_option maxHeartbeats 400000 in
theorem beyond_c (c : Circ) (h : c.wf) (h0 : 0 ≤ c.n) (h1 : c.n ≤ 16384) (W : World) (hk : c.ok W) (g : Nat) (hg : W.heap[g]? = some (.cells c.cells 26 (0, 0))) (x : Int) (x0 : 0 ≤ x) (x1 : x < 4294967296) :
    Calls Tryd.prog 115 #[.int .u32 x, .pointer (some ⟨g, 0, none⟩)] W fun e w' => e = .returned (.bool (decide (x / 2 > c.vars))) ∧ Below W.heap.size W w' := by
  have HV := Aside0.mk (vars_c c h h0 h1 W hk)
  have hc0 : W.cell? ⟨g, 0, none⟩ = some (.int .i64 c.n) := blk_cell hg 0
  have hc1 : W.cell? ⟨g, 1, none⟩ = some (.slice c.A1 c.L.length c.c1) := blk_cell hg 1
  have hc2 : W.cell? ⟨g, 2, none⟩ = some (.slice c.A2 c.G.length c.c2) := blk_cell hg 2
  have hc3 : W.cell? ⟨g, 3, none⟩ = some (.slice c.A3 c.O.length c.c3) := blk_cell hg 3
  have hc4 : W.cell? ⟨g, 4, none⟩ = some (.slice c.A4 c.B.length c.c4) := blk_cell hg 4
  have hc5 : W.cell? ⟨g, 5, none⟩ = some (.slice c.A5 c.K.length c.c5) := blk_cell hg 5
  clear hk hg h h0 h1
  unfold Circ.val Circ.cells at HV
  generalize c.vars = V at HV ⊢
  go_enter Tryd.func115, Tryd.ntmps115
  go_wp2_with fail
  refine HV.out.mono ?_
  rintro e w' ⟨rfl, hb⟩
  go_wp2_with fail
  go_ret
  exact ⟨rfl, hb⟩

def Circ.lst (c : Circ) : Nat → List Int | 0 => c.O | 1 => c.B | _ => c.K
def Circ.adr (c : Circ) : Nat → Option Addr | 0 => c.A3 | 1 => c.A4 | _ => c.A5
def Circ.cp (c : Circ) : Nat → Nat | 0 => c.c3 | 1 => c.c4 | _ => c.c5
theorem Circ.ok.lst {c : Circ} {w : World} (h : c.ok w) (k : Nat) : Kd.C (Kd.int .u32) w (c.adr k) (c.lst k).length (c.lst k) := by
  rcases k with _ | _ | k
  · exact h.r3
  · exact h.r4
  · exact h.r5
theorem Circ.wf.lst {c : Circ} (h : c.wf) (k : Nat) : (c.lst k).length ≤ 9223372036854775807 ∧ ∀ x ∈ c.lst k, 0 ≤ x ∧ x < 4294967296 := by
  rcases k with _ | _ | k
  · exact h.lits _ (.inl rfl)
  · exact h.lits _ (.inr (.inl rfl))
  · exact h.lits _ (.inr (.inr rfl))
/-- one of the lists: does it have a literal beyond? -/
theorem contains_c (c : Circ) (h : c.wf) (h0 : 0 ≤ c.n) (h1 : c.n ≤ 16384) (k : Nat) (cap : Nat) (W : World) (hk : c.ok W) (g : Nat) (hg : W.heap[g]? = some (.cells c.cells 26 (0, 0))) :
    Calls Tryd.prog 116 #[.slice (c.adr k) (c.lst k).length cap, .func (.func 115) #[] #[.pointer (some ⟨g, 0, none⟩)]] W fun e w' => e = .returned (.bool (!((c.lst k).all fun x => decide (x / 2 ≤ c.vars)))) ∧ Below W.heap.size W w' := by
  have hr := hk.lst k
  have hw := h.lst k
  refine (u32_contains (c.adr k) (c.lst k).length cap (fun i => .int .u32 (rd (c.lst k) i)) (fun i => decide (rd (c.lst k) i / 2 > c.vars)) 115 #[.pointer (some ⟨g, 0, none⟩)] W (enters_of Tryd.func115 (by kernel_rfl) rfl) (by omega) (fun hn => ?_) (fun i hi W' hb => ?_)).mono fun e w' ⟨he, hb⟩ => ⟨?_, hb⟩
  · obtain ⟨ad, cs, e, hl, hK, hc⟩ := Kd.C_get hr 0 0 (by omega) (by omega)
    refine ⟨ad, e, fun i hi => ?_⟩
    obtain ⟨ad', cs', e', hl', hK', hc'⟩ := Kd.C_get hr 0 (i : Int) (by omega) (by omega)
    rw [e] at e'
    obtain rfl := Option.some.inj e'
    have hs : (Kd.int .u32).sz = 1 := rfl
    obtain rfl : cs' = [.int .u32 ((c.lst k).getD i 0)] := hK'
    have := hc' 0 _ rfl
    rw [hs, Int.toNat_natCast] at this
    simpa [rd] using this
  · have hx := hw.2 (rd (c.lst k) i) (by unfold rd; rw [Int.toNat_natCast, List.getD_eq_getElem?_getD, List.getElem?_eq_getElem hi]; exact List.getElem_mem hi)
    exact beyond_c c h h0 h1 W' (hk.below hb) g (blk_below hg hb) _ hx.1 hx.2
  · rw [he]
    congr 2
    rw [Bool.eq_iff_iff, FirstIdx.has_iff]
    simp only [decide_eq_true_iff, Bool.not_eq_true', List.all_eq_false]
    constructor
    · rintro ⟨j, hj, hp⟩
      refine ⟨(c.lst k)[j], List.getElem_mem hj, ?_⟩
      unfold rd at hp
      rw [Int.toNat_natCast, List.getD_eq_getElem?_getD, List.getElem?_eq_getElem hj] at hp
      simpa using hp
    · rintro ⟨x, hx, hp⟩
      obtain ⟨j, hj, rfl⟩ := List.getElem_of_mem hx
      refine ⟨j, hj, ?_⟩
      unfold rd
      rw [Int.toNat_natCast, List.getD_eq_getElem?_getD, List.getElem?_eq_getElem hj]
      simpa using hp

end Go.Proofs.YthpnooookkpkaaaDoor.F
namespace Go.Proofs.YthpnooookkpkaaaDoor.F
open Go.Shelf Go.RowKit Go.Proofs.YthpnooookkpkaaaDoorW.PrintWords Go.Proofs.YthpnooookkpkaaaDoorW.PrintLast Go.Proofs.YthpnooookkpkaaaDoorW.PrintMore
attribute [local go_sem] max2_int min2_int max_two min_two max_three min_three max_four min_four

theorem mayB_n {c : Circ} (h : ¬ (0 ≤ c.n ∧ c.n ≤ 16384)) : mayB c = false := by
  unfold mayB
  by_cases h0 : 0 ≤ c.n
  · have h1 : ¬ c.n ≤ 16384 := fun x => h ⟨h0, x⟩
    simp [h1]
  · simp [h0]
theorem mayB_v {c : Circ} (h : ¬ c.vars ≤ 16384) : mayB c = false := by
  unfold mayB
  simp [h]
set_option maxHeartbeats 400000 in
theorem May_neg (c : Circ) (w : World) (h : c.n < 0) : Calls Tryd.prog 66 #[c.val] w fun e w' => e = .returned (.bool (mayB c)) ∧ Below w.heap.size w w' := by
  rw [mayB_n (fun x => by omega)]
  unfold Circ.val Circ.cells
  go_enter Tryd.func66, Tryd.ntmps66
  go_wp2_with fail
  go_ret
  exact ⟨rfl, below_alloc (Below.refl _ _) _⟩
set_option maxHeartbeats 400000 in
theorem May_big (c : Circ) (w : World) (h0 : 0 ≤ c.n) (h : 16384 < c.n) : Calls Tryd.prog 66 #[c.val] w fun e w' => e = .returned (.bool (mayB c)) ∧ Below w.heap.size w w' := by
  rw [mayB_n (fun x => by omega)]
  unfold Circ.val Circ.cells
  go_enter Tryd.func66, Tryd.ntmps66
  go_wp2_with fail
  go_ret
  exact ⟨rfl, below_alloc (Below.refl _ _) _⟩
set_option maxHeartbeats 400000 in
theorem May_many (c : Circ) (w : World) (hwf : c.wf) (hk : c.ok w) (h0 : 0 ≤ c.n) (h1 : c.n ≤ 16384) (h : 16384 < c.vars) : Calls Tryd.prog 66 #[c.val] w fun e w' => e = .returned (.bool (mayB c)) ∧ Below w.heap.size w w' := by
  rw [mayB_v (by omega)]
  have HV := Aside0.mk (fun o => vars_c c hwf h0 h1 (w.alloc o) (hk.below (below_alloc (Below.refl _ _) o)))
  clear hwf hk
  unfold Circ.val Circ.cells at HV ⊢
  generalize c.vars = V at HV h
  go_enter Tryd.func66, Tryd.ntmps66
  go_wp2_with fail
  refine (HV.out _).mono ?_
  rintro e w1 ⟨rfl, hb⟩
  go_wp2_with fail
  go_ret
  exact ⟨rfl, below_step (below_alloc (Below.refl _ _) _) hb⟩

theorem mayB_eq {c : Circ} (h0 : 0 ≤ c.n) (h1 : c.n ≤ 16384) (h : c.vars ≤ 16384) : mayB c = (litsOK c.vars (c.lst 0) && litsOK c.vars (c.lst 1) && litsOK c.vars (c.lst 2) &&
    (c.L.all fun x => decide (x.f1 ≤ 2) && decide (x.f0 / 2 ≤ c.vars)) &&
    ((List.range c.G.length).all fun i => decide ((rd_T84 c.G i).f0 / 2 < c.n + c.L.length + 1 + i) && decide ((rd_T84 c.G i).f1 ≤ (rd_T84 c.G i).f0))) := by
  unfold mayB Circ.lst
  simp [h0, h1, h]
set_option maxHeartbeats 1000000 in
theorem May_main (c : Circ) (w : World) (hwf : c.wf) (hk : c.ok w) (h0 : 0 ≤ c.n) (h1 : c.n ≤ 16384) (h : c.vars ≤ 16384) : Calls Tryd.prog 66 #[c.val] w fun e w' => e = .returned (.bool (mayB c)) ∧ Below w.heap.size w w' := by
  have HE := Aside0.mk (mayB_eq h0 h1 h)
  have HV := Aside0.mk (fun o => vars_c c hwf h0 h1 (w.alloc o) (hk.below (below_alloc (Below.refl _ _) o)))
  have HC := Aside0.mk (contains_c c hwf h0 h1)
  have HBY := Aside0.mk (beyond_c c hwf h0 h1)
  have HK := Aside0.mk hk
  have HW := Aside0.mk hwf
  have HL := Aside0.mk (show c.vars = c.n + c.L.length + c.G.length from rfl)
  have n1 := hwf.n1
  have n2 := hwf.n2
  clear hk hwf
  generalize hm : mayB c = R at HE ⊢
  have HM := Aside0.mk hm
  clear hm
  unfold Circ.val at HV ⊢
  generalize hcs : c.cells = cs at HV HC HBY ⊢
  have HCS := Aside0.mk hcs
  have hcs' : cs = #[.int .i64 c.n, .slice c.A1 c.L.length c.c1, .slice c.A2 c.G.length c.c2, .slice c.A3 c.O.length c.c3, .slice c.A4 c.B.length c.c4, .slice c.A5 c.K.length c.c5] := by rw [← hcs]; rfl
  clear hcs
  subst hcs'
  generalize hA1 : c.A1 = A1 at HV HC HBY HCS ⊢
  generalize hA2 : c.A2 = A2 at HV HC HBY HCS ⊢
  have HA1 := Aside0.mk hA1
  have HA2 := Aside0.mk hA2
  clear hA1 hA2
  generalize hv : c.vars = V at HV HE HC HBY HL h
  have HVV := Aside0.mk hv
  clear hv
  go_enter Tryd.func66, Tryd.ntmps66
  go_wp2_with fail
  refine (HV.out _).mono ?_
  rintro e w1 ⟨rfl, hb⟩
  have BK0 := Aside0.mk (blk_below (blk_new w _) hb)
  have HB := Aside0.mk (below_step (below_alloc (Below.refl _ w) _) hb)
  have p0 := (blk_cell BK0.out 0).trans rfl
  have p3 := (blk_cell BK0.out 3).trans rfl
  have p4 := (blk_cell BK0.out 4).trans rfl
  have p5 := (blk_cell BK0.out 5).trans rfl
  clear hb
  go_wp2_with fail
  have hgs : w1.heap.size ≠ w.heap.size := Nat.ne_of_gt (blk_lt BK0.out)
  clear p0 p3 p4 p5
  go_loopg [33] 3 (fun gg s33 wr => ∃ kk : Nat, kk ≤ 3 ∧ 3 - kk ≤ gg ∧ s33 = .int .i64 kk ∧ Below w.heap.size w wr ∧ Aside0 (wr.heap[w.heap.size]? = some (.cells #[.int .i64 c.n, .slice A1 c.L.length c.c1, .slice A2 c.G.length c.c2, .slice c.A3 c.O.length c.c3, .slice c.A4 c.B.length c.c4, .slice c.A5 c.K.length c.c5] 26 (0, 0))) ∧ Aside0 (wr.heap[w1.heap.size]? = some (.cells #[.slice c.A3 c.O.length c.c3, .slice c.A4 c.B.length c.c4, .slice c.A5 c.K.length c.c5] 24 (0, 0))) ∧ Aside0 (∀ j, j < kk → litsOK V (c.lst j) = true))
  case atStart => exact ⟨0, by omega, by omega, rfl, below_alloc HB.out _, ⟨blk_alloc BK0.out _⟩, ⟨blk_new _ _⟩, ⟨fun j hj => by omega⟩⟩
  case round =>
    clear BK0 HB
    obtain ⟨kk, hkk, hg, rfl, hB, BK0, BKS, A⟩ := hrel
    have HB := Aside0.mk hB
    clear hB
    by_cases hlt : kk < 3
    · have hltz : (kk : Int) < 3 := by omega
      have hcell : wr.cell? ⟨w1.heap.size, kk, none⟩ = some (.slice (c.adr kk) (c.lst kk).length (c.cp kk)) := by
        rcases (show kk = 0 ∨ kk = 1 ∨ kk = 2 by omega) with rfl | rfl | rfl
        · exact (blk_cell BKS.out 0).trans rfl
        · exact (blk_cell BKS.out 1).trans rfl
        · exact (blk_cell BKS.out 2).trans rfl
      have hll := (HW.out.lst kk).1
      have HO : Aside0 (litsOK V (c.lst kk) = (decide ((c.lst kk).length ≤ 1024) && (c.lst kk).all fun x => decide (x / 2 ≤ V))) := ⟨rfl⟩
      have hC1 := Aside0.mk (HC.out kk (c.cp kk))
      generalize hq : (c.lst kk).all (fun x => decide (x / 2 ≤ V)) = q at HO hC1
      have HQ := Aside0.mk hq
      clear hq
      have HF : Aside0 (litsOK V (c.lst kk) = false → R = false) := ⟨fun e => by
        rw [HE.out]
        rcases (show kk = 0 ∨ kk = 1 ∨ kk = 2 by omega) with rfl | rfl | rfl <;> simp [e]⟩
      by_cases hlen : (c.lst kk).length ≤ 1024
      · have hl2 : ¬ 1024 < ((c.lst kk).length : Int) := by omega
        have HLEN := Aside0.mk hlen
        clear hlen
        cases q with
        | true =>
          go_wp2_with fail
          refine (hC1.out _ (HK.out.below HB.out) _ BK0.out).mono ?_
          rintro e w2 ⟨rfl, hb⟩
          have BK02 := Aside0.mk (blk_below BK0.out hb)
          have BKS2 := Aside0.mk (blk_below BKS.out hb)
          have HB2 := Aside0.mk (below_step HB.out hb)
          clear hb
          go_wp2_with fail
          go_roundg (3 - (kk + 1))
          case measure => omega
          case rel =>
            refine ⟨kk + 1, by omega, by omega, by go_num, HB2.out, BK02, BKS2, ⟨fun j hj => ?_⟩⟩
            by_cases e : j = kk
            · subst e; rw [HO.out]; simp [HLEN.out]
            · exact A.out j (by omega)
        | false =>
          go_wp2_with fail
          refine (hC1.out _ (HK.out.below HB.out) _ BK0.out).mono ?_
          rintro e w2 ⟨rfl, hb⟩
          have HB2 := Aside0.mk (below_step HB.out hb)
          clear hb
          go_wp2_with fail
          go_ret
          exact ⟨by rw [HF.out (by rw [HO.out]; simp)]; rfl, HB2.out⟩
      · have hl2 : 1024 < ((c.lst kk).length : Int) := by omega
        go_wp2_with fail
        go_ret
        exact ⟨by rw [HF.out (by rw [HO.out]; simp [hlen])]; rfl, HB.out⟩
    · have hltz : ¬ (kk : Int) < 3 := by omega
      have HE2 : Aside0 (R = ((c.L.all fun x => decide (x.f1 ≤ 2) && decide (x.f0 / 2 ≤ V)) && ((List.range c.G.length).all fun i => decide ((rd_T84 c.G i).f0 / 2 < c.n + c.L.length + 1 + i) && decide ((rd_T84 c.G i).f1 ≤ (rd_T84 c.G i).f0)))) := ⟨by
        rw [HE.out, A.out 0 (by omega), A.out 1 (by omega), A.out 2 (by omega)]; simp⟩
      clear HE A BKS HC HV
      have p0 := (blk_cell BK0.out 0).trans rfl
      have p1 := (blk_cell BK0.out 1).trans rfl
      have p2 := (blk_cell BK0.out 2).trans rfl
      have hsz := blk_lt BK0.out
      go_wp2_with fail
      clear p0 p1 p2
      obtain ⟨wo, hwo⟩ : ∃ wo : World, wo = wr := ⟨_, rfl⟩
      subst hwo
      go_loopg [49] c.L.length (fun gg s49 wr => ∃ kk : Nat, kk ≤ c.L.length ∧ c.L.length - kk ≤ gg ∧ s49 = .int .i64 kk ∧ Below w.heap.size w wr ∧ Aside0 (wr.heap[w.heap.size]? = some (.cells #[.int .i64 c.n, .slice A1 c.L.length c.c1, .slice A2 c.G.length c.c2, .slice c.A3 c.O.length c.c3, .slice c.A4 c.B.length c.c4, .slice c.A5 c.K.length c.c5] 26 (0, 0))) ∧ Aside0 (∀ j, j < kk → (decide ((rd_T71 c.L j).f1 ≤ 2) && decide ((rd_T71 c.L j).f0 / 2 ≤ V)) = true))
      case atStart => exact ⟨0, by omega, by omega, rfl, HB.out, BK0, ⟨fun j hj => by omega⟩⟩
      case round =>
        clear BK0 HB hsz
        obtain ⟨k2, hk2, hg2, rfl, hB, BK0, A⟩ := hrel
        have HB := Aside0.mk hB
        clear hB
        by_cases hlt2 : k2 < c.L.length
        · have hltz2 : (k2 : Int) < (c.L.length : Int) := by omega
          obtain ⟨ad, e1, hx0, hx1⟩ := at_T71 (HK.out.below HB.out).r1 (k2 : Int) (by omega) (by omega)
          have hwx := HW.out.lats (rd_T71 c.L k2) (by unfold rd_T71; rw [Int.toNat_natCast, List.getD_eq_getElem?_getD, List.getElem?_eq_getElem hlt2]; exact List.getElem_mem hlt2)
          have HF : Aside0 ((decide ((rd_T71 c.L k2).f1 ≤ 2) && decide ((rd_T71 c.L k2).f0 / 2 ≤ V)) = false → R = false) := ⟨fun e => by
            rw [HE2.out]
            have : (c.L.all fun x => decide (x.f1 ≤ 2) && decide (x.f0 / 2 ≤ V)) = false := by
              rw [List.all_eq_false]
              refine ⟨_, List.getElem_mem hlt2, ?_⟩
              unfold rd_T71 at e
              rw [Int.toNat_natCast, List.getD_eq_getElem?_getD, List.getElem?_eq_getElem hlt2] at e
              simpa using e
            rw [this]; simp⟩
          rw [HA1.out] at e1
          obtain rfl := e1
          rw [Int.toNat_natCast] at hx0 hx1
          generalize hq : (decide ((rd_T71 c.L k2).f1 ≤ 2) && decide ((rd_T71 c.L k2).f0 / 2 ≤ V)) = q at HF
          have HQ := Aside0.mk hq
          clear hq
          generalize hy0 : (rd_T71 c.L k2).f0 = y0 at hx0 hwx HQ
          generalize hy1 : (rd_T71 c.L k2).f1 = y1 at hx1 hwx HQ
          have HY0 := Aside0.mk hy0
          have HY1 := Aside0.mk hy1
          clear hy0 hy1
          obtain ⟨g0, g1, g2, g3⟩ := hwx
          have HBYc := Aside0.mk (fun W hW hg => HBY.out W hW w.heap.size hg y0 g0 g1)
          have hbk := blk_lt BK0.out
          by_cases hr : y1 ≤ 2
          · have hr2 : ¬ 2 < y1 := by omega
            go_wp2_with fail
            refine (HBYc.out _ (HK.out.below (below_alloc HB.out _)) (blk_alloc BK0.out _)).mono ?_
            rintro e w2 ⟨rfl, hb⟩
            have BK02 := Aside0.mk (blk_below (blk_alloc BK0.out _) hb)
            have HB2 := Aside0.mk (below_step (below_alloc HB.out _) hb)
            clear hb
            by_cases hbv : y0 / 2 ≤ V
            · have hbv2 : ¬ V < y0 / 2 := by omega
              go_wp2_with fail
              go_roundg (c.L.length - (k2 + 1))
              case measure => omega
              case rel =>
                refine ⟨k2 + 1, by omega, by omega, by go_num, HB2.out, BK02, ⟨fun j hj => ?_⟩⟩
                by_cases e : j = k2
                · subst e; rw [HY0.out, HY1.out]; simp [hr, hbv]
                · exact A.out j (by omega)
            · have hbv2 : V < y0 / 2 := by omega
              go_wp2_with fail
              go_ret
              exact ⟨by rw [HF.out (by rw [← HQ.out]; simp; omega)]; rfl, HB2.out⟩
          · have hr2 : 2 < y1 := by omega
            go_wp2_with fail
            go_ret
            exact ⟨by rw [HF.out (by rw [← HQ.out]; simp; omega)]; rfl, below_alloc HB.out _⟩
        · have hltz2 : ¬ (k2 : Int) < (c.L.length : Int) := by omega
          have HE3 : Aside0 (R = ((List.range c.G.length).all fun i => decide ((rd_T84 c.G i).f0 / 2 < c.n + c.L.length + 1 + i) && decide ((rd_T84 c.G i).f1 ≤ (rd_T84 c.G i).f0))) := ⟨by
            rw [HE2.out]
            have : (c.L.all fun x => decide (x.f1 ≤ 2) && decide (x.f0 / 2 ≤ V)) = true := by
              rw [List.all_eq_true]
              intro x hx
              obtain ⟨j, hj, rfl⟩ := List.getElem_of_mem hx
              have := A.out j (by omega)
              unfold rd_T71 at this
              rw [Int.toNat_natCast, List.getD_eq_getElem?_getD, List.getElem?_eq_getElem hj] at this
              simpa using this
            rw [this]; simp⟩
          clear HE2 A
          have p0 := (blk_cell BK0.out 0).trans rfl
          have p1 := (blk_cell BK0.out 1).trans rfl
          have p2 := (blk_cell BK0.out 2).trans rfl
          have hsz := blk_lt BK0.out
          have hnn : 0 ≤ c.n + c.L.length := by omega
          have hnn2 : c.n + c.L.length ≤ 16384 := by have := HL.out; omega
          go_wp2_with fail
          clear p0 p1 p2 HBY hsz
          obtain ⟨wp, hwp⟩ : ∃ wp : World, wp = wr := ⟨_, rfl⟩
          subst hwp
          have HKr := Aside0.mk (HK.out.below HB.out).r2
          go_loopg [8, 73] c.G.length (fun gg s8 s73 wr => ∃ kk : Nat, kk ≤ c.G.length ∧ c.G.length - kk ≤ gg ∧ s8 = .int .u32 (c.n + c.L.length + kk) ∧ s73 = .int .i64 kk ∧ Below w.heap.size w wr ∧ Aside0 (∀ j, j < kk → (decide ((rd_T84 c.G j).f0 / 2 < c.n + c.L.length + 1 + j) && decide ((rd_T84 c.G j).f1 ≤ (rd_T84 c.G j).f0)) = true))
          case atStart => exact ⟨0, by omega, by omega, by go_num, rfl, HB.out, ⟨fun j hj => by omega⟩⟩
          case round =>
            clear BK0 HB HKr
            obtain ⟨k3, hk3, hg3, rfl, rfl, hB, A⟩ := hrel
            have HB := Aside0.mk hB
            clear hB
            by_cases hlt3 : k3 < c.G.length
            · have hltz3 : (k3 : Int) < (c.G.length : Int) := by omega
              obtain ⟨ad, e1, hx0, hx1⟩ := at_T84 (HK.out.below HB.out).r2 (k3 : Int) (by omega) (by omega)
              have hwx := HW.out.gates (rd_T84 c.G k3) (by unfold rd_T84; rw [Int.toNat_natCast, List.getD_eq_getElem?_getD, List.getElem?_eq_getElem hlt3]; exact List.getElem_mem hlt3)
              have HF : Aside0 ((decide ((rd_T84 c.G k3).f0 / 2 < c.n + c.L.length + 1 + k3) && decide ((rd_T84 c.G k3).f1 ≤ (rd_T84 c.G k3).f0)) = false → R = false) := ⟨fun e => by
                rw [HE3.out, List.all_eq_false]
                exact ⟨k3, List.mem_range.2 hlt3, by simpa using e⟩⟩
              rw [HA2.out] at e1
              obtain rfl := e1
              rw [Int.toNat_natCast] at hx0 hx1
              generalize hy0 : (rd_T84 c.G k3).f0 = y0 at hx0 hx1 hwx HF
              generalize hy1 : (rd_T84 c.G k3).f1 = y1 at hx0 hx1 hwx HF
              have HY0 := Aside0.mk hy0
              have HY1 := Aside0.mk hy1
              clear hy0 hy1
              obtain ⟨g0, g1, g2, g3⟩ := hwx
              have hsum : c.n + c.L.length + k3 < 16384 := by have := HL.out; omega
              by_cases hr : y0 / 2 < c.n + c.L.length + k3 + 1
              · have hr2 : ¬ c.n + c.L.length + k3 + 1 ≤ y0 / 2 := by omega
                by_cases hr3 : y0 < y1
                · go_wp2_with fail
                  go_ret
                  exact ⟨by rw [HF.out (by simp; omega)]; rfl, below_alloc HB.out _⟩
                · go_wp2_with fail
                  go_roundg (c.G.length - (k3 + 1))
                  case measure => omega
                  case rel =>
                    refine ⟨k3 + 1, by omega, by omega, by go_num, by go_num, below_alloc HB.out _, ⟨fun j hj => ?_⟩⟩
                    by_cases e : j = k3
                    · subst e; rw [HY0.out, HY1.out]; simp; omega
                    · exact A.out j (by omega)
              · have hr2 : c.n + c.L.length + k3 + 1 ≤ y0 / 2 := by omega
                go_wp2_with fail
                go_ret
                exact ⟨by rw [HF.out (by simp; omega)]; rfl, below_alloc HB.out _⟩
            · have hltz3 : ¬ (k3 : Int) < (c.G.length : Int) := by omega
              have HR : Aside0 (R = true) := ⟨by
                rw [HE3.out, List.all_eq_true]
                intro j hj
                exact A.out j (by have := List.mem_range.1 hj; omega)⟩
              go_wp2_with fail
              go_ret
              exact ⟨by rw [HR.out]; rfl, HB.out⟩
end Go.Proofs.YthpnooookkpkaaaDoor.F
namespace Go.Proofs.YthpnooookkpkaaaDoor.F
open Go.Shelf Go.RowKit Go.Proofs.YthpnooookkpkaaaDoorW.PrintWords Go.Proofs.YthpnooookkpkaaaDoorW.PrintLast Go.Proofs.YthpnooookkpkaaaDoorW.PrintMore
attribute [local go_sem] max2_int min2_int max_two min_two max_three min_three max_four min_four

/-- so many values, none above X? -/
def valsB (l : List Int) (n : Int) : Bool := decide ((l.length : Int) = n) && l.all fun x => decide (x ≤ 2)
theorem v1_147 (x : Int) (W : World) : Calls Tryd.prog 147 #[.int .u8 x] W fun e w' => e = .returned (.bool (decide (x > 2))) ∧ Below W.heap.size W w' := by
  go_enter Tryd.func147, Tryd.ntmps147
  go_wp2_with fail
  go_ret
  exact ⟨rfl, Below.refl _ _⟩
theorem v1_118 (x : Int) (W : World) : Calls Tryd.prog 118 #[.int .u8 x] W fun e w' => e = .returned (.bool (decide (x > 2))) ∧ Below W.heap.size W w' := by
  go_enter Tryd.func118, Tryd.ntmps118
  go_wp2_with fail
  go_ret
  exact ⟨rfl, Below.refl _ _⟩
theorem u8_cells {A : Option Addr} {l : List Int} {w : World} (hr : Kd.C (Kd.int .u8) w A l.length l) (hn : 0 < l.length) : ∃ ad, A = some ad ∧ ∀ i, i < l.length → w.cell? (ad.add i) = some (.int .u8 (rd l i)) := by
  obtain ⟨ad, cs, e, hl, hK, hc⟩ := Kd.C_get hr 0 0 (by omega) (by omega)
  refine ⟨ad, e, fun i hi => ?_⟩
  obtain ⟨ad', cs', e', hl', hK', hc'⟩ := Kd.C_get hr 0 (i : Int) (by omega) (by omega)
  rw [e] at e'
  obtain rfl := Option.some.inj e'
  have hs : (Kd.int .u8).sz = 1 := rfl
  obtain rfl : cs' = [.int .u8 (l.getD i 0)] := hK'
  have := hc' 0 _ rfl
  rw [hs, Int.toNat_natCast] at this
  simpa [rd] using this
theorem all_has (l : List Int) : FirstIdx.has (fun i => decide (rd l i > 2)) l.length = !(l.all fun x => decide (x ≤ 2)) := by
  rw [Bool.eq_iff_iff, FirstIdx.has_iff]
  simp only [decide_eq_true_iff, Bool.not_eq_true', List.all_eq_false]
  constructor
  · rintro ⟨j, hj, hp⟩
    refine ⟨l[j], List.getElem_mem hj, ?_⟩
    unfold rd at hp
    rw [Int.toNat_natCast, List.getD_eq_getElem?_getD, List.getElem?_eq_getElem hj] at hp
    simpa using hp
  · rintro ⟨x, hx, hp⟩
    obtain ⟨j, hj, rfl⟩ := List.getElem_of_mem hx
    refine ⟨j, hj, ?_⟩
    unfold rd
    rw [Int.toNat_natCast, List.getD_eq_getElem?_getD, List.getElem?_eq_getElem hj]
    simpa using hp
theorem above_147 (A : Option Addr) (l : List Int) (c : Nat) (w : World) (hr : Kd.C (Kd.int .u8) w A l.length l) :
    Calls Tryd.prog 117 #[.slice A l.length c, .func (.func 147) #[] #[]] w fun e w' => e = .returned (.bool (!(l.all fun x => decide (x ≤ 2)))) ∧ Below w.heap.size w w' := by
  rw [← all_has]
  exact u8_contains A l.length c (fun i => .int .u8 (rd l i)) (fun i => decide (rd l i > 2)) 147 #[] w (enters_of Tryd.func147 (by kernel_rfl) rfl) (Kd.C_max hr) (u8_cells hr) (fun i hi W' hb => v1_147 _ W')
theorem above_118 (A : Option Addr) (l : List Int) (c : Nat) (w : World) (hr : Kd.C (Kd.int .u8) w A l.length l) :
    Calls Tryd.prog 117 #[.slice A l.length c, .func (.func 118) #[] #[]] w fun e w' => e = .returned (.bool (!(l.all fun x => decide (x ≤ 2)))) ∧ Below w.heap.size w w' := by
  rw [← all_has]
  exact u8_contains A l.length c (fun i => .int .u8 (rd l i)) (fun i => decide (rd l i > 2)) 118 #[] w (enters_of Tryd.func118 (by kernel_rfl) rfl) (Kd.C_max hr) (u8_cells hr) (fun i hi W' hb => v1_118 _ W')
set_option maxHeartbeats 400000 in
theorem values_109 (A : Option Addr) (l : List Int) (c : Nat) (n : Int) (w : World) (hr : Kd.C (Kd.int .u8) w A l.length l) :
    Calls Tryd.prog 109 #[.slice A l.length c, .int .i64 n] w fun e w' => e = .returned (.bool (valsB l n)) ∧ Below w.heap.size w w' := by
  have HC := Aside0.mk (above_147 A l c w hr)
  have hm := Kd.C_max hr
  unfold valsB
  clear hr
  generalize (l.all fun x => decide (x ≤ 2)) = q at HC ⊢
  by_cases h : (l.length : Int) = n
  · have h1 : ((l.length : Int) == n) = true := by simpa using h
    rw [decide_eq_true h]
    clear h
    go_enter Tryd.func109, Tryd.ntmps109
    go_wp2_with fail
    refine HC.out.mono ?_
    rintro e w' ⟨rfl, hb⟩
    go_wp2_with fail
    go_ret
    exact ⟨by simp, hb⟩
  · have h1 : ((l.length : Int) == n) = false := by simpa using h
    rw [decide_eq_false h]
    clear h
    go_enter Tryd.func109, Tryd.ntmps109
    go_wp2_with fail
    go_ret
    exact ⟨by simp, Below.refl _ _⟩
set_option maxHeartbeats 400000 in
theorem values_67 (A : Option Addr) (l : List Int) (c : Nat) (n : Int) (w : World) (hr : Kd.C (Kd.int .u8) w A l.length l) :
    Calls Tryd.prog 67 #[.slice A l.length c, .int .i64 n] w fun e w' => e = .returned (.bool (valsB l n)) ∧ Below w.heap.size w w' := by
  have HC := Aside0.mk (above_118 A l c w hr)
  have hm := Kd.C_max hr
  unfold valsB
  clear hr
  generalize (l.all fun x => decide (x ≤ 2)) = q at HC ⊢
  by_cases h : (l.length : Int) = n
  · have h1 : ((l.length : Int) == n) = true := by simpa using h
    rw [decide_eq_true h]
    clear h
    go_enter Tryd.func67, Tryd.ntmps67
    go_wp2_with fail
    refine HC.out.mono ?_
    rintro e w' ⟨rfl, hb⟩
    go_wp2_with fail
    go_ret
    exact ⟨by simp, hb⟩
  · have h1 : ((l.length : Int) == n) = false := by simpa using h
    rw [decide_eq_false h]
    clear h
    go_enter Tryd.func67, Tryd.ntmps67
    go_wp2_with fail
    go_ret
    exact ⟨by simp, Below.refl _ _⟩
set_option maxHeartbeats 400000 in
theorem fits1_111 (cv : Array Value) (n : Int) (hn : cv[0]? = some (.int .i64 n)) (g : Nat) (A : Option Addr) (l : List Int) (c : Nat) (w : World) (hr : Kd.C (Kd.int .u8) w A l.length l) (hg : w.heap[g]? = some (.cells cv 26 (0, 0))) :
    Calls Tryd.prog 111 #[.slice A l.length c, .pointer (some ⟨g, 0, none⟩)] w fun e w' => e = .returned (.bool (!(valsB l n))) ∧ Below w.heap.size w w' := by
  have HC := Aside0.mk (values_109 A l c n w hr)
  have hc0 : w.cell? ⟨g, 0, none⟩ = some (.int .i64 n) := (blk_cell hg 0).trans hn
  clear hg hn hr
  generalize valsB l n = q at HC ⊢
  go_enter Tryd.func111, Tryd.ntmps111
  go_wp2_with fail
  refine HC.out.mono ?_
  rintro e w' ⟨rfl, hb⟩
  go_wp2_with fail
  go_ret
  exact ⟨rfl, hb⟩
end Go.Proofs.YthpnooookkpkaaaDoor.F
namespace Go.Proofs.YthpnooookkpkaaaDoor.F
open Go.Shelf Go.RowKit Go.Proofs.YthpnooookkpkaaaDoorW.PrintWords Go.Proofs.YthpnooookkpkaaaDoorW.PrintLast Go.Proofs.YthpnooookkpkaaaDoorW.PrintMore
attribute [local go_sem] max2_int min2_int max_two min_two max_three min_three max_four min_four
theorem May_c (c : Circ) (w : World) (hwf : c.wf) (hk : c.ok w) : Calls Tryd.prog 66 #[c.val] w fun e w' => e = .returned (.bool (mayB c)) ∧ Below w.heap.size w w' := by
  by_cases h0 : c.n < 0
  · exact May_neg c w h0
  · by_cases h1 : 16384 < c.n
    · exact May_big c w (by omega) h1
    · by_cases h2 : 16384 < c.vars
      · exact May_many c w hwf hk (by omega) (by omega) h2
      · exact May_main c w hwf hk (by omega) (by omega) (by omega)
/-- a trace as it lies -/
structure Trc where
  bad : Int
  A1 : Option Addr
  c1 : Nat
  I : List Int
  A2 : Option Addr
  c2 : Nat
  F : List (List Int)
def Trc.cells (t : Trc) : Array Value := #[.int .i64 t.bad, .slice t.A1 t.I.length t.c1, .slice t.A2 t.F.length t.c2]
def Trc.val (t : Trc) : Value := .agg t.cells
structure Trc.ok (t : Trc) (w : World) : Prop where
  r1 : Kd.C (Kd.int .u8) w t.A1 t.I.length t.I
  h1 : t.I.length ≤ t.c1
  r2 : Kd.C (Kd.slice 5 (Kd.int .u8)) w t.A2 t.F.length t.F
  h2 : t.F.length ≤ t.c2
theorem Trc.ok.below {t : Trc} {w w' : World} (h : t.ok w) (hb : Below w.heap.size w w') : t.ok w' := ⟨Kd.C_below h.r1 hb, h.h1, Kd.C_below h.r2 hb, h.h2⟩
def fitsB (c : Circ) (t : Trc) : Bool :=
  mayB c && decide (0 ≤ t.bad) && decide (t.bad < c.B.length) && decide (t.F.length ≠ 0) && decide (t.F.length ≤ 256) && valsB t.I c.L.length &&
    ((List.range c.L.length).all fun i => decide ((rd_T71 c.L i).f1 = 2) || decide ((rd_T71 c.L i).f1 = rd t.I i)) && t.F.all fun l => valsB l c.n
set_option maxHeartbeats 400000 in
theorem Fits_may (c : Circ) (t : Trc) (w : World) (hwf : c.wf) (hk : c.ok w) (ht : t.ok w) (hm : mayB c = false) : Calls Tryd.prog 61 #[c.val, t.val] w fun e w' => e = .returned (.bool false) ∧ Below w.heap.size w w' := by
  have HM := Aside0.mk (fun o o2 => May_c c ((w.alloc o).alloc o2) hwf (hk.below (below_alloc (below_alloc (Below.refl _ _) o) o2)))
  have HV := Aside0.mk (fun W (hb : Below w.heap.size w W) => values_109 t.A1 t.I t.c1 c.L.length W (Kd.C_below ht.r1 hb))
  have n1 := hwf.n1
  have m1 := Kd.C_max ht.r1
  have m2 := Kd.C_max ht.r2
  have m4 := Kd.C_max hk.r4
  clear hk ht hwf
  unfold Circ.val Circ.cells at HM
  unfold Circ.val Circ.cells Trc.val Trc.cells
  generalize hmm : mayB c = mm at HM
  generalize hvv : valsB t.I c.L.length = vv at HV
  have HMM := Aside0.mk hmm
  have HVV := Aside0.mk hvv
  clear hmm hvv
  rw [hm] at HMM
  have hmf : false = mm := HMM.out
  subst hmf
  clear hm
  go_enter Tryd.func61, Tryd.ntmps61
  go_wp2_with fail
  refine (HM.out _ _).mono ?_
  rintro e w1 ⟨rfl, hb⟩
  have BC := Aside0.mk (blk_below (blk_alloc (blk_new w _) _) hb)
  have BT := Aside0.mk (blk_below (by simpa using blk_new (w.alloc _) _ : ((w.alloc (.cells #[.int .i64 c.n, .slice c.A1 c.L.length c.c1, .slice c.A2 c.G.length c.c2, .slice c.A3 c.O.length c.c3, .slice c.A4 c.B.length c.c4, .slice c.A5 c.K.length c.c5] 26)).alloc (.cells #[.int .i64 t.bad, .slice t.A1 t.I.length t.c1, .slice t.A2 t.F.length t.c2] 30)).heap[w.heap.size + 1]? = some _) hb)
  have HB := Aside0.mk (below_step (below_alloc (below_alloc (Below.refl _ w) _) _) hb)
  have p1 := (blk_cell BC.out 1).trans rfl
  have p4 := (blk_cell BC.out 4).trans rfl
  have q0 := (blk_cell BT.out 0).trans rfl
  have q1 := (blk_cell BT.out 1).trans rfl
  have q2 := (blk_cell BT.out 2).trans rfl
  clear hb
  go_wp2_with fail
  go_ret
  exact ⟨rfl, HB.out⟩
set_option maxHeartbeats 400000 in
theorem Fits_neg (c : Circ) (t : Trc) (w : World) (hwf : c.wf) (hk : c.ok w) (ht : t.ok w) (hm : mayB c = true) (h0 : t.bad < 0) : Calls Tryd.prog 61 #[c.val, t.val] w fun e w' => e = .returned (.bool false) ∧ Below w.heap.size w w' := by
  have HM := Aside0.mk (fun o o2 => May_c c ((w.alloc o).alloc o2) hwf (hk.below (below_alloc (below_alloc (Below.refl _ _) o) o2)))
  have HV := Aside0.mk (fun W (hb : Below w.heap.size w W) => values_109 t.A1 t.I t.c1 c.L.length W (Kd.C_below ht.r1 hb))
  have n1 := hwf.n1
  have m1 := Kd.C_max ht.r1
  have m2 := Kd.C_max ht.r2
  have m4 := Kd.C_max hk.r4
  clear hk ht hwf
  unfold Circ.val Circ.cells at HM
  unfold Circ.val Circ.cells Trc.val Trc.cells
  generalize hmm : mayB c = mm at HM
  generalize hvv : valsB t.I c.L.length = vv at HV
  have HMM := Aside0.mk hmm
  have HVV := Aside0.mk hvv
  clear hmm hvv
  rw [hm] at HMM
  have hmf : true = mm := HMM.out
  subst hmf
  clear hm
  go_enter Tryd.func61, Tryd.ntmps61
  go_wp2_with fail
  refine (HM.out _ _).mono ?_
  rintro e w1 ⟨rfl, hb⟩
  have BC := Aside0.mk (blk_below (blk_alloc (blk_new w _) _) hb)
  have BT := Aside0.mk (blk_below (by simpa using blk_new (w.alloc _) _ : ((w.alloc (.cells #[.int .i64 c.n, .slice c.A1 c.L.length c.c1, .slice c.A2 c.G.length c.c2, .slice c.A3 c.O.length c.c3, .slice c.A4 c.B.length c.c4, .slice c.A5 c.K.length c.c5] 26)).alloc (.cells #[.int .i64 t.bad, .slice t.A1 t.I.length t.c1, .slice t.A2 t.F.length t.c2] 30)).heap[w.heap.size + 1]? = some _) hb)
  have HB := Aside0.mk (below_step (below_alloc (below_alloc (Below.refl _ w) _) _) hb)
  have p1 := (blk_cell BC.out 1).trans rfl
  have p4 := (blk_cell BC.out 4).trans rfl
  have q0 := (blk_cell BT.out 0).trans rfl
  have q1 := (blk_cell BT.out 1).trans rfl
  have q2 := (blk_cell BT.out 2).trans rfl
  clear hb
  go_wp2_with fail
  go_ret
  exact ⟨rfl, HB.out⟩
set_option maxHeartbeats 400000 in
theorem Fits_bad (c : Circ) (t : Trc) (w : World) (hwf : c.wf) (hk : c.ok w) (ht : t.ok w) (hm : mayB c = true) (h0 : 0 ≤ t.bad) (h1 : (c.B.length : Int) ≤ t.bad) : Calls Tryd.prog 61 #[c.val, t.val] w fun e w' => e = .returned (.bool false) ∧ Below w.heap.size w w' := by
  have HM := Aside0.mk (fun o o2 => May_c c ((w.alloc o).alloc o2) hwf (hk.below (below_alloc (below_alloc (Below.refl _ _) o) o2)))
  have HV := Aside0.mk (fun W (hb : Below w.heap.size w W) => values_109 t.A1 t.I t.c1 c.L.length W (Kd.C_below ht.r1 hb))
  have n1 := hwf.n1
  have m1 := Kd.C_max ht.r1
  have m2 := Kd.C_max ht.r2
  have m4 := Kd.C_max hk.r4
  clear hk ht hwf
  unfold Circ.val Circ.cells at HM
  unfold Circ.val Circ.cells Trc.val Trc.cells
  generalize hmm : mayB c = mm at HM
  generalize hvv : valsB t.I c.L.length = vv at HV
  have HMM := Aside0.mk hmm
  have HVV := Aside0.mk hvv
  clear hmm hvv
  rw [hm] at HMM
  have hmf : true = mm := HMM.out
  subst hmf
  clear hm
  go_enter Tryd.func61, Tryd.ntmps61
  go_wp2_with fail
  refine (HM.out _ _).mono ?_
  rintro e w1 ⟨rfl, hb⟩
  have BC := Aside0.mk (blk_below (blk_alloc (blk_new w _) _) hb)
  have BT := Aside0.mk (blk_below (by simpa using blk_new (w.alloc _) _ : ((w.alloc (.cells #[.int .i64 c.n, .slice c.A1 c.L.length c.c1, .slice c.A2 c.G.length c.c2, .slice c.A3 c.O.length c.c3, .slice c.A4 c.B.length c.c4, .slice c.A5 c.K.length c.c5] 26)).alloc (.cells #[.int .i64 t.bad, .slice t.A1 t.I.length t.c1, .slice t.A2 t.F.length t.c2] 30)).heap[w.heap.size + 1]? = some _) hb)
  have HB := Aside0.mk (below_step (below_alloc (below_alloc (Below.refl _ w) _) _) hb)
  have p1 := (blk_cell BC.out 1).trans rfl
  have p4 := (blk_cell BC.out 4).trans rfl
  have q0 := (blk_cell BT.out 0).trans rfl
  have q1 := (blk_cell BT.out 1).trans rfl
  have q2 := (blk_cell BT.out 2).trans rfl
  clear hb
  go_wp2_with fail
  go_ret
  exact ⟨rfl, HB.out⟩
set_option maxHeartbeats 400000 in
theorem Fits_none (c : Circ) (t : Trc) (w : World) (hwf : c.wf) (hk : c.ok w) (ht : t.ok w) (hm : mayB c = true) (h0 : 0 ≤ t.bad) (h1 : t.bad < c.B.length) (h2 : t.F.length = 0) : Calls Tryd.prog 61 #[c.val, t.val] w fun e w' => e = .returned (.bool false) ∧ Below w.heap.size w w' := by
  have HM := Aside0.mk (fun o o2 => May_c c ((w.alloc o).alloc o2) hwf (hk.below (below_alloc (below_alloc (Below.refl _ _) o) o2)))
  have HV := Aside0.mk (fun W (hb : Below w.heap.size w W) => values_109 t.A1 t.I t.c1 c.L.length W (Kd.C_below ht.r1 hb))
  have n1 := hwf.n1
  have m1 := Kd.C_max ht.r1
  have m2 := Kd.C_max ht.r2
  have m4 := Kd.C_max hk.r4
  clear hk ht hwf
  unfold Circ.val Circ.cells at HM
  unfold Circ.val Circ.cells Trc.val Trc.cells
  generalize hmm : mayB c = mm at HM
  generalize hvv : valsB t.I c.L.length = vv at HV
  have HMM := Aside0.mk hmm
  have HVV := Aside0.mk hvv
  clear hmm hvv
  rw [hm] at HMM
  have hmf : true = mm := HMM.out
  subst hmf
  clear hm
  have h2b : ((t.F.length : Int) == 0) = true := by simp [h2]
  have H2 := Aside0.mk h2
  clear h2
  go_enter Tryd.func61, Tryd.ntmps61
  go_wp2_with fail
  refine (HM.out _ _).mono ?_
  rintro e w1 ⟨rfl, hb⟩
  have BC := Aside0.mk (blk_below (blk_alloc (blk_new w _) _) hb)
  have BT := Aside0.mk (blk_below (by simpa using blk_new (w.alloc _) _ : ((w.alloc (.cells #[.int .i64 c.n, .slice c.A1 c.L.length c.c1, .slice c.A2 c.G.length c.c2, .slice c.A3 c.O.length c.c3, .slice c.A4 c.B.length c.c4, .slice c.A5 c.K.length c.c5] 26)).alloc (.cells #[.int .i64 t.bad, .slice t.A1 t.I.length t.c1, .slice t.A2 t.F.length t.c2] 30)).heap[w.heap.size + 1]? = some _) hb)
  have HB := Aside0.mk (below_step (below_alloc (below_alloc (Below.refl _ w) _) _) hb)
  have p1 := (blk_cell BC.out 1).trans rfl
  have p4 := (blk_cell BC.out 4).trans rfl
  have q0 := (blk_cell BT.out 0).trans rfl
  have q1 := (blk_cell BT.out 1).trans rfl
  have q2 := (blk_cell BT.out 2).trans rfl
  clear hb
  go_wp2_with fail
  go_ret
  exact ⟨rfl, HB.out⟩
set_option maxHeartbeats 400000 in
theorem Fits_many (c : Circ) (t : Trc) (w : World) (hwf : c.wf) (hk : c.ok w) (ht : t.ok w) (hm : mayB c = true) (h0 : 0 ≤ t.bad) (h1 : t.bad < c.B.length) (h2 : 256 < t.F.length) : Calls Tryd.prog 61 #[c.val, t.val] w fun e w' => e = .returned (.bool false) ∧ Below w.heap.size w w' := by
  have HM := Aside0.mk (fun o o2 => May_c c ((w.alloc o).alloc o2) hwf (hk.below (below_alloc (below_alloc (Below.refl _ _) o) o2)))
  have HV := Aside0.mk (fun W (hb : Below w.heap.size w W) => values_109 t.A1 t.I t.c1 c.L.length W (Kd.C_below ht.r1 hb))
  have n1 := hwf.n1
  have m1 := Kd.C_max ht.r1
  have m2 := Kd.C_max ht.r2
  have m4 := Kd.C_max hk.r4
  clear hk ht hwf
  unfold Circ.val Circ.cells at HM
  unfold Circ.val Circ.cells Trc.val Trc.cells
  generalize hmm : mayB c = mm at HM
  generalize hvv : valsB t.I c.L.length = vv at HV
  have HMM := Aside0.mk hmm
  have HVV := Aside0.mk hvv
  clear hmm hvv
  rw [hm] at HMM
  have hmf : true = mm := HMM.out
  subst hmf
  clear hm
  have h2b : ((t.F.length : Int) == 0) = false := by rw [beq_eq_false_iff_ne]; omega
  have h2c : 256 < (t.F.length : Int) := by omega
  go_enter Tryd.func61, Tryd.ntmps61
  go_wp2_with fail
  refine (HM.out _ _).mono ?_
  rintro e w1 ⟨rfl, hb⟩
  have BC := Aside0.mk (blk_below (blk_alloc (blk_new w _) _) hb)
  have BT := Aside0.mk (blk_below (by simpa using blk_new (w.alloc _) _ : ((w.alloc (.cells #[.int .i64 c.n, .slice c.A1 c.L.length c.c1, .slice c.A2 c.G.length c.c2, .slice c.A3 c.O.length c.c3, .slice c.A4 c.B.length c.c4, .slice c.A5 c.K.length c.c5] 26)).alloc (.cells #[.int .i64 t.bad, .slice t.A1 t.I.length t.c1, .slice t.A2 t.F.length t.c2] 30)).heap[w.heap.size + 1]? = some _) hb)
  have HB := Aside0.mk (below_step (below_alloc (below_alloc (Below.refl _ w) _) _) hb)
  have p1 := (blk_cell BC.out 1).trans rfl
  have p4 := (blk_cell BC.out 4).trans rfl
  have q0 := (blk_cell BT.out 0).trans rfl
  have q1 := (blk_cell BT.out 1).trans rfl
  have q2 := (blk_cell BT.out 2).trans rfl
  clear hb
  go_wp2_with fail
  go_ret
  exact ⟨rfl, HB.out⟩
set_option maxHeartbeats 400000 in
theorem Fits_init (c : Circ) (t : Trc) (w : World) (hwf : c.wf) (hk : c.ok w) (ht : t.ok w) (hm : mayB c = true) (h0 : 0 ≤ t.bad) (h1 : t.bad < c.B.length) (h2 : 0 < t.F.length) (h3 : t.F.length ≤ 256) (h4 : valsB t.I c.L.length = false) : Calls Tryd.prog 61 #[c.val, t.val] w fun e w' => e = .returned (.bool false) ∧ Below w.heap.size w w' := by
  have HM := Aside0.mk (fun o o2 => May_c c ((w.alloc o).alloc o2) hwf (hk.below (below_alloc (below_alloc (Below.refl _ _) o) o2)))
  have HV := Aside0.mk (fun W (hb : Below w.heap.size w W) => values_109 t.A1 t.I t.c1 c.L.length W (Kd.C_below ht.r1 hb))
  have n1 := hwf.n1
  have m1 := Kd.C_max ht.r1
  have m2 := Kd.C_max ht.r2
  have m4 := Kd.C_max hk.r4
  clear hk ht hwf
  unfold Circ.val Circ.cells at HM
  unfold Circ.val Circ.cells Trc.val Trc.cells
  generalize hmm : mayB c = mm at HM
  generalize hvv : valsB t.I c.L.length = vv at HV
  have HMM := Aside0.mk hmm
  have HVV := Aside0.mk hvv
  clear hmm hvv
  rw [hm] at HMM
  have hmf : true = mm := HMM.out
  subst hmf
  clear hm
  rw [h4] at HVV
  have hvf : false = vv := HVV.out
  subst hvf
  clear h4
  have h2b : ((t.F.length : Int) == 0) = false := by rw [beq_eq_false_iff_ne]; omega
  have h2c : ¬ 256 < (t.F.length : Int) := by omega
  go_enter Tryd.func61, Tryd.ntmps61
  go_wp2_with fail
  refine (HM.out _ _).mono ?_
  rintro e w1 ⟨rfl, hb⟩
  have BC := Aside0.mk (blk_below (blk_alloc (blk_new w _) _) hb)
  have BT := Aside0.mk (blk_below (by simpa using blk_new (w.alloc _) _ : ((w.alloc (.cells #[.int .i64 c.n, .slice c.A1 c.L.length c.c1, .slice c.A2 c.G.length c.c2, .slice c.A3 c.O.length c.c3, .slice c.A4 c.B.length c.c4, .slice c.A5 c.K.length c.c5] 26)).alloc (.cells #[.int .i64 t.bad, .slice t.A1 t.I.length t.c1, .slice t.A2 t.F.length t.c2] 30)).heap[w.heap.size + 1]? = some _) hb)
  have HB := Aside0.mk (below_step (below_alloc (below_alloc (Below.refl _ w) _) _) hb)
  have p1 := (blk_cell BC.out 1).trans rfl
  have p4 := (blk_cell BC.out 4).trans rfl
  have q0 := (blk_cell BT.out 0).trans rfl
  have q1 := (blk_cell BT.out 1).trans rfl
  have q2 := (blk_cell BT.out 2).trans rfl
  clear hb
  go_wp2_with fail
  refine (HV.out _ HB.out).mono ?_
  rintro e w2 ⟨rfl, hb⟩
  have HB2 := Aside0.mk (below_step HB.out hb)
  clear hb
  go_wp2_with fail
  go_ret
  exact ⟨rfl, HB2.out⟩
theorem rows_cells {A : Option Addr} {l : List (List Int)} {w : World} (hr : Kd.C (Kd.slice 5 (Kd.int .u8)) w A l.length l) :
    ∃ (Ai : Nat → Option Addr) (ci : Nat → Nat), (0 < l.length → ∃ ad, A = some ad ∧ ∀ i, i < l.length → w.cell? (ad.add i) = some (.slice (Ai i) (rd_L4 l i).length (ci i))) ∧ ∀ i, i < l.length → (rd_L4 l i).length ≤ ci i ∧ Kd.C (Kd.int .u8) w (Ai i) (rd_L4 l i).length (rd_L4 l i) := by
  by_cases hn : 0 < l.length
  · obtain ⟨ad, _, _, e, _⟩ := at_L4 hr 0 (by omega) (by omega)
    have h : ∀ i : Nat, ∃ p : Option Addr × Nat, i < l.length → w.cell? (ad.add i) = some (.slice p.1 (rd_L4 l i).length p.2) ∧ (rd_L4 l i).length ≤ p.2 ∧ Kd.C (Kd.int .u8) w p.1 (rd_L4 l i).length (rd_L4 l i) := by
      intro i
      by_cases hi : i < l.length
      · obtain ⟨ad', A0, c0, e', h1, h2, h3⟩ := at_L4 hr (i : Int) (by omega) (by omega)
        rw [e] at e'
        obtain rfl := Option.some.inj e'
        rw [Int.toNat_natCast] at h1
        exact ⟨(A0, c0), fun _ => ⟨h1, h2, h3⟩⟩
      · exact ⟨(none, 0), fun h => absurd h hi⟩
    obtain ⟨f, hf⟩ := Classical.axiomOfChoice h
    exact ⟨fun i => (f i).1, fun i => (f i).2, fun _ => ⟨ad, e, fun i hi => (hf i hi).1⟩, fun i hi => (hf i hi).2⟩
  · exact ⟨fun _ => none, fun _ => 0, fun h => absurd h hn, fun i hi => absurd hi (by omega)⟩
theorem rows_111 (c : Circ) (t : Trc) (W : World) (ht : t.ok W) (g : Nat) (hg : W.heap[g]? = some (.cells c.cells 26 (0, 0))) :
    Calls Tryd.prog 110 #[.slice t.A2 t.F.length t.c2, .func (.func 111) #[] #[.pointer (some ⟨g, 0, none⟩)]] W fun e w' => e = .returned (.bool (!(t.F.all fun l => valsB l c.n))) ∧ Below W.heap.size W w' := by
  obtain ⟨Ai, ci, h1, h2⟩ := rows_cells ht.r2
  refine (rows_contains t.A2 t.F.length t.c2 (fun i => .slice (Ai i) (rd_L4 t.F i).length (ci i)) (fun i => !(valsB (rd_L4 t.F i) c.n)) 111 #[.pointer (some ⟨g, 0, none⟩)] W (enters_of Tryd.func111 (by kernel_rfl) rfl) (Kd.C_max ht.r2) h1 (fun i hi W' hb => ?_)).mono fun e w' ⟨he, hb⟩ => ⟨?_, hb⟩
  · exact fits1_111 c.cells c.n rfl g _ _ _ W' (Kd.C_below (h2 i hi).2 hb) (blk_below hg hb)
  · rw [he]
    congr 2
    rw [Bool.eq_iff_iff, FirstIdx.has_iff]
    simp only [Bool.not_eq_true', List.all_eq_false]
    constructor
    · rintro ⟨j, hj, hp⟩
      refine ⟨t.F[j], List.getElem_mem hj, ?_⟩
      unfold rd_L4 at hp
      rw [Int.toNat_natCast, List.getD_eq_getElem?_getD, List.getElem?_eq_getElem hj] at hp
      simpa using hp
    · rintro ⟨x, hx, hp⟩
      obtain ⟨j, hj, rfl⟩ := List.getElem_of_mem hx
      refine ⟨j, hj, ?_⟩
      unfold rd_L4
      rw [Int.toNat_natCast, List.getD_eq_getElem?_getD, List.getElem?_eq_getElem hj]
      simpa using hp
set_option maxHeartbeats 2000000 in
theorem Fits_main (c : Circ) (t : Trc) (w : World) (hwf : c.wf) (hk : c.ok w) (ht : t.ok w) (hm : mayB c = true) (h0 : 0 ≤ t.bad) (h1 : t.bad < c.B.length) (h2 : 0 < t.F.length) (h3 : t.F.length ≤ 256) (h4 : valsB t.I c.L.length = true) :
    Calls Tryd.prog 61 #[c.val, t.val] w fun e w' => e = .returned (.bool (((List.range c.L.length).all fun i => decide ((rd_T71 c.L i).f1 = 2) || decide ((rd_T71 c.L i).f1 = rd t.I i)) && t.F.all fun l => valsB l c.n)) ∧ Below w.heap.size w w' := by
  have HM := Aside0.mk (fun o o2 => May_c c ((w.alloc o).alloc o2) hwf (hk.below (below_alloc (below_alloc (Below.refl _ _) o) o2)))
  have HV := Aside0.mk (fun W (hb : Below w.heap.size w W) => values_109 t.A1 t.I t.c1 c.L.length W (Kd.C_below ht.r1 hb))
  have n1 := hwf.n1
  have m1 := Kd.C_max ht.r1
  have m2 := Kd.C_max ht.r2
  have m4 := Kd.C_max hk.r4
  have HIL := Aside0.mk (show t.I.length = c.L.length by unfold valsB at h4; simp at h4; omega)
  have HK := Aside0.mk hk
  have HT := Aside0.mk ht
  have HWF := Aside0.mk hwf
  have HLAST := Aside0.mk (rows_111 c t)
  clear hk ht hwf
  generalize hR : (((List.range c.L.length).all fun i => decide ((rd_T71 c.L i).f1 = 2) || decide ((rd_T71 c.L i).f1 = rd t.I i)) && t.F.all fun l => valsB l c.n) = R
  have HR := Aside0.mk hR
  clear hR
  generalize hQ : t.F.all (fun l => valsB l c.n) = Q at HR HLAST
  have HQ := Aside0.mk hQ
  clear hQ
  unfold Circ.val Circ.cells at HM
  unfold Circ.val Circ.cells Trc.val Trc.cells
  generalize hmm : mayB c = mm at HM
  generalize hvv : valsB t.I c.L.length = vv at HV
  have HMM := Aside0.mk hmm
  have HVV := Aside0.mk hvv
  clear hmm hvv
  rw [hm] at HMM
  have hmf : true = mm := HMM.out
  subst hmf
  rw [h4] at HVV
  have hvf : true = vv := HVV.out
  subst hvf
  clear hm h4
  unfold Circ.cells at HLAST
  generalize hA1 : c.A1 = A1 at HM HLAST ⊢
  generalize hB1 : t.A1 = B1 at HV ⊢
  have HA1 := Aside0.mk hA1
  have HB1 := Aside0.mk hB1
  clear hA1 hB1
  have h2b : ((t.F.length : Int) == 0) = false := by rw [beq_eq_false_iff_ne]; omega
  have h2c : ¬ 256 < (t.F.length : Int) := by omega
  go_enter Tryd.func61, Tryd.ntmps61
  go_wp2_with fail
  refine (HM.out _ _).mono ?_
  rintro e w1 ⟨rfl, hb⟩
  have BC := Aside0.mk (blk_below (blk_alloc (blk_new w _) _) hb)
  have BT := Aside0.mk (blk_below (by simpa using blk_new (w.alloc _) _ : ((w.alloc (.cells #[.int .i64 c.n, .slice A1 c.L.length c.c1, .slice c.A2 c.G.length c.c2, .slice c.A3 c.O.length c.c3, .slice c.A4 c.B.length c.c4, .slice c.A5 c.K.length c.c5] 26)).alloc (.cells #[.int .i64 t.bad, .slice B1 t.I.length t.c1, .slice t.A2 t.F.length t.c2] 30)).heap[w.heap.size + 1]? = some _) hb)
  have HB := Aside0.mk (below_step (below_alloc (below_alloc (Below.refl _ w) _) _) hb)
  have p1 := (blk_cell BC.out 1).trans rfl
  have p4 := (blk_cell BC.out 4).trans rfl
  have q0 := (blk_cell BT.out 0).trans rfl
  have q1 := (blk_cell BT.out 1).trans rfl
  have q2 := (blk_cell BT.out 2).trans rfl
  clear hb
  go_wp2_with fail
  refine (HV.out _ HB.out).mono ?_
  rintro e w2 ⟨rfl, hb⟩
  have BC2 := Aside0.mk (blk_below BC.out hb)
  have BT2 := Aside0.mk (blk_below BT.out hb)
  have HB2 := Aside0.mk (below_step HB.out hb)
  clear hb p1 p4 q0 q1 q2 BC BT HB
  have p1 := (blk_cell BC2.out 1).trans rfl
  go_wp2_with fail
  clear p1
  go_loopg [47] c.L.length (fun gg s47 wr => ∃ kk : Nat, kk ≤ c.L.length ∧ c.L.length - kk ≤ gg ∧ s47 = .int .i64 kk ∧ Below w.heap.size w wr ∧ Aside0 (wr.heap[w.heap.size]? = some (.cells #[.int .i64 c.n, .slice A1 c.L.length c.c1, .slice c.A2 c.G.length c.c2, .slice c.A3 c.O.length c.c3, .slice c.A4 c.B.length c.c4, .slice c.A5 c.K.length c.c5] 26 (0, 0))) ∧ Aside0 (wr.heap[w.heap.size + 1]? = some (.cells #[.int .i64 t.bad, .slice B1 t.I.length t.c1, .slice t.A2 t.F.length t.c2] 30 (0, 0))) ∧ Aside0 (∀ j, j < kk → (decide ((rd_T71 c.L j).f1 = 2) || decide ((rd_T71 c.L j).f1 = rd t.I j)) = true))
  case atStart => exact ⟨0, by omega, by omega, rfl, HB2.out, BC2, BT2, ⟨fun j hj => by omega⟩⟩
  case round =>
    clear BC2 BT2 HB2
    obtain ⟨kk, hkk, hg, rfl, hB, BC, BT, A⟩ := hrel
    have HB := Aside0.mk hB
    clear hB
    have hbk := blk_lt BT.out
    by_cases hlt : kk < c.L.length
    · have hltz : (kk : Int) < (c.L.length : Int) := by omega
      have hltz2 : (kk : Int) < (t.I.length : Int) := by have := HIL.out; omega
      obtain ⟨ad, e1, hx0, hx1⟩ := at_T71 (HK.out.below HB.out).r1 (kk : Int) (by omega) (by omega)
      obtain ⟨ai, e2, hy⟩ := u8_cells (HT.out.below HB.out).r1 (by omega)
      have hyk := hy kk (by omega)
      clear hy
      have HF : Aside0 ((decide ((rd_T71 c.L kk).f1 = 2) || decide ((rd_T71 c.L kk).f1 = rd t.I kk)) = false → R = false) := ⟨fun e => by
        rw [← HR.out]
        have : ((List.range c.L.length).all fun i => decide ((rd_T71 c.L i).f1 = 2) || decide ((rd_T71 c.L i).f1 = rd t.I i)) = false := by
          rw [List.all_eq_false]
          exact ⟨kk, List.mem_range.2 hlt, by simpa using e⟩
        rw [this]; simp⟩
      rw [HA1.out] at e1
      rw [HB1.out] at e2
      obtain rfl := e1
      obtain rfl := e2
      rw [Int.toNat_natCast] at hx0 hx1
      generalize hz0 : (rd_T71 c.L kk).f0 = y0 at hx0 hx1
      generalize hz1 : (rd_T71 c.L kk).f1 = y1 at hx0 hx1 HF
      generalize hz2 : rd t.I kk = y2 at hyk HF
      have HZ1 := Aside0.mk hz1
      have HZ2 := Aside0.mk hz2
      clear hz0 hz1 hz2
      have q1 := (blk_cell BT.out 1).trans rfl
      have hyo : ∀ o, (wr.alloc o).cell? (ai.add kk) = some (.int .u8 y2) := fun o => pw_cell_below (below_alloc (Below.refl _ _) o) hyk
      by_cases hr : y1 = 2
      · subst hr
        go_wp2_with fail
        go_quiet (fail)
        go_wp2_with fail
        go_roundg (c.L.length - (kk + 1))
        case measure => omega
        case rel =>
          refine ⟨kk + 1, by omega, by omega, by go_num, pw_below_drewN (below_alloc HB.out _) _, ⟨blk_drewN (blk_alloc BC.out _) _⟩, ⟨blk_drewN (blk_alloc BT.out _) _⟩, ⟨fun j hj => ?_⟩⟩
          by_cases e : j = kk
          · subst e; rw [HZ1.out, HZ2.out]; simp
          · exact A.out j (by omega)
      · have hr1 : (y1 != 2) = true := by simpa using hr
        have HRR := Aside0.mk hr
        clear hr
        by_cases hq : y1 = y2
        · have hq1 : (y1 != y2) = false := by simpa using hq
          have HQQ := Aside0.mk hq
          clear hq
          go_wp2_with fail
          go_quiet (fail)
          go_wp2_with fail
          go_roundg (c.L.length - (kk + 1))
          case measure => omega
          case rel =>
            refine ⟨kk + 1, by omega, by omega, by go_num, pw_below_drewN (below_alloc HB.out _) _, ⟨blk_drewN (blk_alloc BC.out _) _⟩, ⟨blk_drewN (blk_alloc BT.out _) _⟩, ⟨fun j hj => ?_⟩⟩
            by_cases e : j = kk
            · subst e; rw [HZ1.out, HZ2.out]; simp [HQQ.out]
            · exact A.out j (by omega)
        · have hq1 : (y1 != y2) = true := by simpa using hq
          have HQQ := Aside0.mk hq
          clear hq
          go_wp2_with fail
          go_quiet (fail)
          go_wp2_with fail
          go_ret
          exact ⟨by rw [HF.out (by have := HRR.out; have := HQQ.out; simp; omega)]; rfl, pw_below_drewN (below_alloc HB.out _) _⟩
    · have hltz : ¬ (kk : Int) < (c.L.length : Int) := by omega
      have HR2 : Aside0 (R = Q) := ⟨by
        rw [← HR.out]
        have : ((List.range c.L.length).all fun i => decide ((rd_T71 c.L i).f1 = 2) || decide ((rd_T71 c.L i).f1 = rd t.I i)) = true := by
          rw [List.all_eq_true]
          intro j hj
          exact A.out j (by have := List.mem_range.1 hj; omega)
        rw [this]; simp⟩
      have q2 := (blk_cell BT.out 2).trans rfl
      go_wp2_with fail
      refine (HLAST.out _ (HT.out.below HB.out) w.heap.size BC.out).mono ?_
      rintro e w3 ⟨rfl, hb⟩
      have HB3 := Aside0.mk (below_step HB.out hb)
      clear hb
      go_wp2_with fail
      go_ret
      exact ⟨by rw [HR2.out]; simp, HB3.out⟩
theorem fitsB_eq (c : Circ) (t : Trc) (h1 : mayB c = true) (h2 : 0 ≤ t.bad) (h3 : t.bad < c.B.length) (h4 : 0 < t.F.length) (h5 : t.F.length ≤ 256) (h6 : valsB t.I c.L.length = true) :
    fitsB c t = (((List.range c.L.length).all fun i => decide ((rd_T71 c.L i).f1 = 2) || decide ((rd_T71 c.L i).f1 = rd t.I i)) && t.F.all fun l => valsB l c.n) := by
  unfold fitsB
  rw [h1, h6, decide_eq_true h2, decide_eq_true h3, decide_eq_true h5, decide_eq_true (show t.F.length ≠ 0 by omega)]
  simp
theorem Fits_c (c : Circ) (t : Trc) (w : World) (hwf : c.wf) (hk : c.ok w) (ht : t.ok w) : Calls Tryd.prog 61 #[c.val, t.val] w fun e w' => e = .returned (.bool (fitsB c t)) ∧ Below w.heap.size w w' := by
  by_cases h1 : mayB c = true
  · by_cases h2 : 0 ≤ t.bad
    · by_cases h3 : t.bad < c.B.length
      · by_cases h4 : t.F.length = 0
        · rw [show fitsB c t = false by unfold fitsB; simp [h4]]
          exact Fits_none c t w hwf hk ht h1 h2 h3 h4
        · by_cases h5 : t.F.length ≤ 256
          · by_cases h6 : valsB t.I c.L.length = true
            · rw [fitsB_eq c t h1 h2 h3 (by omega) h5 h6]
              exact Fits_main c t w hwf hk ht h1 h2 h3 (by omega) h5 h6
            · have h6' : valsB t.I c.L.length = false := by simpa using h6
              rw [show fitsB c t = false by unfold fitsB; simp [h6']]
              exact Fits_init c t w hwf hk ht h1 h2 h3 (by omega) h5 h6'
          · rw [show fitsB c t = false by unfold fitsB; simp [h5]]
            exact Fits_many c t w hwf hk ht h1 h2 h3 (by omega)
      · rw [show fitsB c t = false by unfold fitsB; simp [h3]]
        exact Fits_bad c t w hwf hk ht h1 h2 (by omega)
    · rw [show fitsB c t = false by unfold fitsB; simp [h2]]
      exact Fits_neg c t w hwf hk ht h1 (by omega)
  · have h1' : mayB c = false := by simpa using h1
    rw [show fitsB c t = false by unfold fitsB; simp [h1']]
    exact Fits_may c t w hwf hk ht h1'
end Go.Proofs.YthpnooookkpkaaaDoor.F
namespace Go.Proofs.YthpnooookkpkaaaDoor.F
open Go.Shelf Go.RowKit Go.Proofs.YthpnooookkpkaaaDoorW.PrintWords Go.Proofs.YthpnooookkpkaaaDoorW.PrintLast Go.Proofs.YthpnooookkpkaaaDoorW.PrintMore
attribute [local go_sem] max2_int min2_int max_two min_two max_three min_three max_four min_four

set_option maxHeartbeats 1000000 in
theorem grow_nil (n : Nat) (hn : n ≤ 100000000000000) (w : World) :
    Calls Tryd.prog 151 #[.slice none 0 0, .int .i64 n] w fun e w' => ∃ v : Value, e = .returned v ∧ Kd.R (Kd.int .u8) 5 w' w.heap.size (fun _ => True) v [] ∧ Below w.heap.size w w' := by
  by_cases h0 : n = 0
  · subst h0
    go_enter Tryd.func151, Tryd.ntmps151
    go_wp2_with fail
    go_ret
    exact ⟨_, rfl, Kd.R_nil _ _ _ _ _, Below.refl _ _⟩
  · have hp : 0 < (n : Int) := by omega
    go_enter Tryd.func151, Tryd.ntmps151
    go_wp2_with (at_builtin; refine Kd.R_append_zeros (Kd.int .u8) (w0 := w) w.heap.size rfl (.tmp 20) (.tmp 21) 27 3 5 (.int .u8 0) 1 rfl Tryd.underlying27 Tryd.underlying3 info5 rfl (by decide) (by omega) (.slice none 0 0) ([] : List Int) 0 (n : Int) (fun _ => True) rfl rfl ?aZ (fun _ _ => trivial) (Kd.R_nil _ _ _ _ _) (by omega) (Below.refl _ _) (Nat.le_refl _) ?aL ?_; (case aZ => rfl); (case aL => simp; omega); intro v1 w1 ho hb hg hat; obtain ⟨A1, c1, rfl, hl1, hr1⟩ := Kd.R_reads ho; have HO := Aside0.mk ho; have HB := Aside0.mk hb; clear ho hb hg hat hr1; simp only [List.nil_append, List.length_replicate, Int.toNat_natCast] at hl1 HO)
    go_ret
    refine ⟨_, rfl, ?_, HB.out⟩
    have := Kd.R_take HO.out (m := 0) (by omega)
    simpa using this

theorem flat_take (ll : List (List Int)) (k : Nat) (h : k < ll.length) : (ll.take (k + 1)).flatten = (ll.take k).flatten ++ rd_L4 ll k := by
  rw [List.take_succ_eq_append_getElem h, List.flatten_append]
  unfold rd_L4
  rw [Int.toNat_natCast, List.getD_eq_getElem?_getD, List.getElem?_eq_getElem h]
  simp
theorem flat_le (ll : List (List Int)) (k : Nat) : (ll.take k).flatten.length ≤ ll.flatten.length := by
  conv => rhs; rw [← List.take_append_drop k ll, List.flatten_append, List.length_append]
  omega
set_option maxRecDepth 100000 in
set_option maxHeartbeats 2000000 in
theorem concat_c (A : Option Addr) (ll : List (List Int)) (c : Nat) (w : World) (hr : Kd.C (Kd.slice 5 (Kd.int .u8)) w A ll.length ll) (hn : ll.length ≤ 100000000000000) (htot : ll.flatten.length ≤ 100000000000000) :
    Calls Tryd.prog 119 #[.slice A ll.length c] w fun e w' => ∃ v : Value, e = .returned v ∧ Kd.R (Kd.int .u8) 5 w' w.heap.size (fun _ => True) v ll.flatten ∧ Below w.heap.size w w' := by
  obtain ⟨Ai, ci, h1, h2⟩ := rows_cells hr
  have H1 := Aside0.mk h1
  have H2 := Aside0.mk h2
  have HTOT := Aside0.mk htot
  clear hr h1 h2 htot
  go_enter Tryd.func119, Tryd.ntmps119
  go_wp2_with fail
  go_loopg [3, 11] ll.length (fun gg s3 s11 wr => ∃ kk : Nat, kk ≤ ll.length ∧ ll.length - kk ≤ gg ∧ s11 = .int .i64 kk ∧ s3 = .int .i64 ((ll.take kk).flatten.length : Nat) ∧ wr = w)
  case atStart => exact ⟨0, by omega, by omega, rfl, by simp, rfl⟩
  case round =>
    obtain ⟨kk, hkk, hg, rfl, rfl, rfl⟩ := hrel
    by_cases hlt : kk < ll.length
    · have hltz : (kk : Int) < (ll.length : Int) := by omega
      obtain ⟨ad, rfl, hcs⟩ := H1.out (by omega)
      have hcell := hcs kk hlt
      clear hcs
      have hf := flat_take ll kk hlt
      have hle := flat_le ll (kk + 1)
      rw [hf, List.length_append] at hle
      have HF := Aside0.mk (congrArg List.length hf)
      rw [List.length_append] at HF
      clear hf
      have := HTOT.out
      generalize (ll.take kk).flatten.length = a at hle HF ⊢
      generalize rd_L4 ll kk = li at hcell hle HF
      go_wp2_with fail
      go_roundg (ll.length - (kk + 1))
      case measure => omega
      case rel => exact ⟨kk + 1, by omega, by omega, by go_num, by rw [HF.out]; go_num, rfl⟩
    · have hltz : ¬ (kk : Int) < (ll.length : Int) := by omega
      obtain rfl : kk = ll.length := by omega
      rw [List.take_length]
      have hT := HTOT.out
      generalize hN : ll.flatten.length = N at hT ⊢
      have HN := Aside0.mk hN
      clear hN
      go_wp2_with fail
      refine (grow_nil N hT wr).mono ?_
      rintro e w1 ⟨v, rfl, hv, hb⟩
      have HV := Aside0.mk hv
      have HB := Aside0.mk hb
      clear hv hb
      go_wp2_with fail
      obtain ⟨wo, hwo⟩ : ∃ wo : World, wo = wr := ⟨_, rfl⟩
      subst hwo
      go_loopg [6, 27] ll.length (fun gg s6 s27 wr => ∃ (k2 : Nat) (v2 : Value), k2 ≤ ll.length ∧ ll.length - k2 ≤ gg ∧ s27 = .int .i64 k2 ∧ s6 = v2 ∧ Aside0 (Kd.R (Kd.int .u8) 5 wr wo.heap.size (fun _ => True) v2 (ll.take k2).flatten) ∧ Aside0 (Below wo.heap.size wo wr))
      case atStart => exact ⟨0, v, by omega, by omega, rfl, rfl, by simpa using HV, HB⟩
      case round =>
        clear HV HB
        obtain ⟨k2, v2, hk2, hg2, rfl, rfl, HV, HB⟩ := hrel
        by_cases hlt2 : k2 < ll.length
        · have hltz2 : (k2 : Int) < (ll.length : Int) := by omega
          obtain ⟨ad, rfl, hcs⟩ := H1.out (by omega)
          have hcell : wr.cell? (ad.add k2) = some (.slice (Ai k2) (rd_L4 ll k2).length (ci k2)) := pw_cell_below HB.out (hcs k2 hlt2)
          clear hcs
          have HI := Aside0.mk (H2.out k2 hlt2)
          have HF := Aside0.mk (flat_take ll k2 hlt2)
          have hle := flat_le ll (k2 + 1)
          rw [HF.out, List.length_append] at hle
          have HLE := Aside0.mk hle
          have HTOT2 := Aside0.mk (show (ll.take k2).flatten.length + (rd_L4 ll k2).length ≤ 100000000000000 by have h1 := HTOT.out; have h2 := HN.out; omega)
          clear hle
          generalize (ll.take k2).flatten = xs at HV HF HLE HTOT2
          generalize rd_L4 ll k2 = li at hcell HI HF HLE HTOT2
          go_wp2_with (at_builtin; refine Kd.R_append_rows (Kd.int .u8) (w0 := wo) wo.heap.size rfl (.tmp 31) (.tmp 32) 27 5 (.int .u8 0) 1 rfl Tryd.underlying27 info5 rfl (by decide) (by omega) _ xs li _ _ _ (fun _ => True) (fun _ => False) rfl rfl HV.out ?aR (fun _ _ h => h) (fun _ h => h.elim) (fun _ _ => trivial) HB.out HB.out.size ?aL ?_; (case aR => exact Kd.C_below HI.out.2 HB.out); (case aL => have := HTOT2.out; omega); intro v3 w3 ho hb hg hat; have HV3 := Aside0.mk ho; have HB3 := Aside0.mk hb; clear ho hb hg hat)
          go_roundg (ll.length - (k2 + 1))
          case measure => omega
          case rel => exact ⟨k2 + 1, _, by omega, by omega, by go_num, rfl, ⟨by rw [HF.out]; exact HV3.out⟩, HB3⟩
        · have hltz2 : ¬ (k2 : Int) < (ll.length : Int) := by omega
          obtain rfl : k2 = ll.length := by omega
          rw [List.take_length] at HV
          go_wp2_with fail
          go_ret
          exact ⟨_, rfl, HV.out, HB.out⟩
end Go.Proofs.YthpnooookkpkaaaDoor.F
namespace Go.Proofs.YthpnooookkpkaaaDoor.F
open Go.RowKit Go.Proofs.YthpnooookkpkaaaDoorW.PrintWords Go.Proofs.YthpnooookkpkaaaDoorW.PrintLast Go.Proofs.YthpnooookkpkaaaDoorW.PrintMore

def u32B (l : List Int) : Bool := decide (l.length ≤ 9223372036854775807) && l.all fun x => decide (0 ≤ x) && decide (x < 4294967296)
/-- a circuit's numbers are of their kinds -/
def wfB (n : Int) (L : List S71) (G : List S84) (O B K : List Int) : Bool :=
  decide (L.length ≤ 1000000000000000) && decide (G.length ≤ 1000000000000000) && decide (-9223372036854775808 ≤ n) && decide (n ≤ 9223372036854775807) && u32B O && u32B B && u32B K &&
    (L.all fun x => decide (0 ≤ x.f0) && decide (x.f0 < 4294967296) && decide (0 ≤ x.f1) && decide (x.f1 < 256)) &&
    (G.all fun x => decide (0 ≤ x.f0) && decide (x.f0 < 4294967296) && decide (0 ≤ x.f1) && decide (x.f1 < 4294967296))
def pc (n : Int) (L : List S71) (G : List S84) (O B K : List Int) : Circ := ⟨n, none, 0, L, none, 0, G, none, 0, O, none, 0, B, none, 0, K⟩
def pt (b : Int) (I : List Int) (F : List (List Int)) : Trc := ⟨b, none, 0, I, none, 0, F⟩
theorem u32B_iff {l : List Int} (h : u32B l = true) : l.length ≤ 9223372036854775807 ∧ ∀ x ∈ l, 0 ≤ x ∧ x < 4294967296 := by
  unfold u32B at h
  simp only [Bool.and_eq_true, decide_eq_true_iff, List.all_eq_true] at h
  exact h
theorem wf_of_wfB {c : Circ} (h : wfB c.n c.L c.G c.O c.B c.K = true) : c.wf := by
  unfold wfB at h
  simp only [Bool.and_eq_true, decide_eq_true_iff, List.all_eq_true] at h
  obtain ⟨⟨⟨⟨⟨⟨⟨⟨h1, h2⟩, h3⟩, h4⟩, h5⟩, h6⟩, h7⟩, h8⟩, h9⟩ := h
  refine ⟨h1, h2, ⟨h3, h4⟩, fun l hl => ?_, fun x hx => ?_, fun x hx => ?_⟩
  · rcases hl with rfl | rfl | rfl
    · exact u32B_iff h5
    · exact u32B_iff h6
    · exact u32B_iff h7
  · obtain ⟨⟨⟨g1, g2⟩, g3⟩, g4⟩ := h8 x hx
    exact ⟨g1, g2, g3, g4⟩
  · obtain ⟨⟨⟨g1, g2⟩, g3⟩, g4⟩ := h9 x hx
    exact ⟨g1, g2, g3, g4⟩
def norm_May.f (a0_0 : Int) (l0_1 : List (S71)) (l0_2 : List (S84)) (l0_3 : List Int) (l0_4 : List Int) (l0_5 : List Int) : Option (Bool) :=
  if wfB a0_0 l0_1 l0_2 l0_3 l0_4 l0_5 = true then some (mayB (pc a0_0 l0_1 l0_2 l0_3 l0_4 l0_5)) else none
theorem norm_May.calls (a0_0 : Int) (A0_1 : Option Addr) (c0_1 : Nat) (l0_1 : List (S71)) (A0_2 : Option Addr) (c0_2 : Nat) (l0_2 : List (S84)) (A0_3 : Option Addr) (c0_3 : Nat) (l0_3 : List Int) (A0_4 : Option Addr) (c0_4 : Nat) (l0_4 : List Int) (A0_5 : Option Addr) (c0_5 : Nat) (l0_5 : List Int) (r : Bool) (w : World) (hr0_1 : Kd.C k71 w A0_1 l0_1.length l0_1) (hc0_1 : l0_1.length ≤ c0_1) (hr0_2 : Kd.C k84 w A0_2 l0_2.length l0_2) (hc0_2 : l0_2.length ≤ c0_2) (hr0_3 : Kd.C (Kd.int .u32) w A0_3 l0_3.length l0_3) (hc0_3 : l0_3.length ≤ c0_3) (hr0_4 : Kd.C (Kd.int .u32) w A0_4 l0_4.length l0_4) (hc0_4 : l0_4.length ≤ c0_4) (hr0_5 : Kd.C (Kd.int .u32) w A0_5 l0_5.length l0_5) (hc0_5 : l0_5.length ≤ c0_5) (h : norm_May.f a0_0 l0_1 l0_2 l0_3 l0_4 l0_5 = some r) :
    Calls Tryd.prog 66 #[.agg #[.int .i64 a0_0, .slice A0_1 l0_1.length c0_1, .slice A0_2 l0_2.length c0_2, .slice A0_3 l0_3.length c0_3, .slice A0_4 l0_4.length c0_4, .slice A0_5 l0_5.length c0_5]] w fun e w' => e = .returned (.bool r) ∧ Below w.heap.size w w' := by
  unfold norm_May.f at h
  split at h
  · rename_i hw
    obtain rfl := Option.some.inj h
    exact May_c ⟨a0_0, A0_1, c0_1, l0_1, A0_2, c0_2, l0_2, A0_3, c0_3, l0_3, A0_4, c0_4, l0_4, A0_5, c0_5, l0_5⟩ w (wf_of_wfB hw) ⟨hr0_1, hc0_1, hr0_2, hc0_2, hr0_3, hc0_3, hr0_4, hc0_4, hr0_5, hc0_5⟩
  · cases h
def norm_Fits.f (a0_0 : Int) (l0_1 : List (S71)) (l0_2 : List (S84)) (l0_3 : List Int) (l0_4 : List Int) (l0_5 : List Int) (a1_0 : Int) (l1_1 : List Int) (l1_2 : List (List Int)) : Option (Bool) :=
  if wfB a0_0 l0_1 l0_2 l0_3 l0_4 l0_5 = true then some (fitsB (pc a0_0 l0_1 l0_2 l0_3 l0_4 l0_5) (pt a1_0 l1_1 l1_2)) else none
theorem norm_Fits.calls (a0_0 : Int) (A0_1 : Option Addr) (c0_1 : Nat) (l0_1 : List (S71)) (A0_2 : Option Addr) (c0_2 : Nat) (l0_2 : List (S84)) (A0_3 : Option Addr) (c0_3 : Nat) (l0_3 : List Int) (A0_4 : Option Addr) (c0_4 : Nat) (l0_4 : List Int) (A0_5 : Option Addr) (c0_5 : Nat) (l0_5 : List Int) (a1_0 : Int) (A1_1 : Option Addr) (c1_1 : Nat) (l1_1 : List Int) (A1_2 : Option Addr) (c1_2 : Nat) (l1_2 : List (List Int)) (r : Bool) (w : World) (hr0_1 : Kd.C k71 w A0_1 l0_1.length l0_1) (hc0_1 : l0_1.length ≤ c0_1) (hr0_2 : Kd.C k84 w A0_2 l0_2.length l0_2) (hc0_2 : l0_2.length ≤ c0_2) (hr0_3 : Kd.C (Kd.int .u32) w A0_3 l0_3.length l0_3) (hc0_3 : l0_3.length ≤ c0_3) (hr0_4 : Kd.C (Kd.int .u32) w A0_4 l0_4.length l0_4) (hc0_4 : l0_4.length ≤ c0_4) (hr0_5 : Kd.C (Kd.int .u32) w A0_5 l0_5.length l0_5) (hc0_5 : l0_5.length ≤ c0_5) (hr1_1 : Kd.C (Kd.int .u8) w A1_1 l1_1.length l1_1) (hc1_1 : l1_1.length ≤ c1_1) (hr1_2 : Kd.C (Kd.slice 5 (Kd.int .u8)) w A1_2 l1_2.length l1_2) (hc1_2 : l1_2.length ≤ c1_2) (h : norm_Fits.f a0_0 l0_1 l0_2 l0_3 l0_4 l0_5 a1_0 l1_1 l1_2 = some r) :
    Calls Tryd.prog 61 #[.agg #[.int .i64 a0_0, .slice A0_1 l0_1.length c0_1, .slice A0_2 l0_2.length c0_2, .slice A0_3 l0_3.length c0_3, .slice A0_4 l0_4.length c0_4, .slice A0_5 l0_5.length c0_5], .agg #[.int .i64 a1_0, .slice A1_1 l1_1.length c1_1, .slice A1_2 l1_2.length c1_2]] w fun e w' => e = .returned (.bool r) ∧ Below w.heap.size w w' := by
  unfold norm_Fits.f at h
  split at h
  · rename_i hw
    obtain rfl := Option.some.inj h
    exact Fits_c ⟨a0_0, A0_1, c0_1, l0_1, A0_2, c0_2, l0_2, A0_3, c0_3, l0_3, A0_4, c0_4, l0_4, A0_5, c0_5, l0_5⟩ ⟨a1_0, A1_1, c1_1, l1_1, A1_2, c1_2, l1_2⟩ w (wf_of_wfB hw) ⟨hr0_1, hc0_1, hr0_2, hc0_2, hr0_3, hc0_3, hr0_4, hc0_4, hr0_5, hc0_5⟩ ⟨hr1_1, hc1_1, hr1_2, hc1_2⟩
  · cases h
def sim_values.f (l0 : List Int) (a1 : Int) : Option (Bool) := some (valsB l0 a1)
theorem sim_values.calls (A0 : Option Addr) (c0 : Nat) (l0 : List Int) (a1 : Int) (r : Bool) (w : World) (hr0 : Kd.C (Kd.int .u8) w A0 l0.length l0) (_hc0 : l0.length ≤ c0) (h : sim_values.f l0 a1 = some r) :
    Calls Tryd.prog 67 #[.slice A0 l0.length c0, .int .i64 a1] w fun e w' => e = .returned (.bool r) ∧ Below w.heap.size w w' := by
  obtain rfl := Option.some.inj h
  exact values_67 A0 l0 c0 a1 w hr0
def slices_Concat_uint8_uint8.f (l0 : List (List Int)) : Option (List Int) := if l0.length ≤ 100000000000000 ∧ l0.flatten.length ≤ 100000000000000 then some l0.flatten else none
theorem slices_Concat_uint8_uint8.calls (A0 : Option Addr) (c0 : Nat) (l0 : List (List Int)) (r : List Int) (w : World) (hr0 : Kd.C (Kd.slice 5 (Kd.int .u8)) w A0 l0.length l0) (_hc0 : l0.length ≤ c0) (h : slices_Concat_uint8_uint8.f l0 = some r) :
    Calls Tryd.prog 119 #[.slice A0 l0.length c0] w fun e w' => ∃ v0_ : Value, e = .returned (v0_) ∧ Kd.R (Kd.int .u8) 5 w' w.heap.size (fun _ => True) v0_ r ∧ Below w.heap.size w w' := by
  unfold slices_Concat_uint8_uint8.f at h
  split at h
  · rename_i hw
    obtain rfl := Option.some.inj h
    exact concat_c A0 l0 c0 w hr0 hw.1 hw.2
  · cases h
end Go.Proofs.YthpnooookkpkaaaDoor.F
/- A function of the program as a plain Lean function, and that the machine's call comes to it: written by a program of this session over the kit's print. -/
namespace Go.Proofs.YthpnooookkpkaaaDoor.F
open Go.RowKit Go.Proofs.YthpnooookkpkaaaDoorW.PrintWords Go.Proofs.YthpnooookkpkaaaDoorW.PrintLast Go.Proofs.YthpnooookkpkaaaDoorW.PrintMore
attribute [local go_sem] max2_int min2_int max_two min_two max_three min_three max_four min_four   -- for this text's walks alone
set_option linter.unusedVariables false
set_option linter.unusedSimpArgs false

/-! ### sim_frame: function 68 -/
def sim_frame.l0 : Nat→List Int→List (S84)→Int→Int→Option (List Int)
 | 0,_,_,_,_ => none
 | k + 1,x7,x16,x17,x18 => if x18 < x17 then (if 0 ≤ x18 then (if x18 < (x16.length : Int) then ((sim_Value.f k x7 ((rd_T84 x16 x18).f0)).bind fun t113 => ((sim_Value.f k x7 ((rd_T84 x16 x18).f1)).bind fun t114 => ((tern_And1.f k t113 t114).bind fun t115 => (if x7.length < 140737488355328 then (sim_frame.l0 k (x7 ++ [t115]) x16 x17 (wrap64 (x18 + 1))) else (none))))) else (none)) else (none)) else (some x7)
def sim_frame.f (k : Nat) (a0_0 : Int) (l0_1 : List (S71)) (l0_2 : List (S84)) (l0_3 : List Int) (l0_4 : List Int) (l0_5 : List Int) (l1 : List Int) (l2 : List Int) : Option (List Int):=(slices_Concat_uint8_uint8.f (([(([0] : List Int)),l2,l1] : List (List Int)))).bind fun t108 => (sim_frame.l0 k t108 l0_2 (l0_2.length : Int) 0)
def sim_frame.T5 : Bool × List (List Nat × List Nat):=(true,[([],[]),([],[]),([],[]),([2],[2]),([1,3],[1,3]),([],[]),([],[]),([6],[6]),([5,7,4],[5,7]),([4,8,8],[4,8]),([9],[9]),([0,10,9],[0,10]),([11,11,0,1,2,3,4,5,6,7,8,9,10,11],[0,1,5,11])])
def sim_frame.B5 : List Nat:=[0,0,0,4,14,0,0,64,254,510,1022,2047,4095]
theorem sim_frame.tab5 : rtab .any (opsOf Tryd.f68 5) = sim_frame.T5:=by kernel_rfl
theorem sim_frame.bits5 : waitsOk sim_frame.T5.2 sim_frame.B5 = true:=by kernel_rfl
set_option maxHeartbeats 8000000 in
set_option maxRecDepth 100000 in
theorem sim_frame.calls (k : Nat) (a0_0 : Int) (A0_1 : Option Addr) (c0_1 : Nat) (l0_1 : List (S71)) (A0_2 : Option Addr) (c0_2 : Nat) (l0_2 : List (S84)) (A0_3 : Option Addr) (c0_3 : Nat) (l0_3 : List Int) (A0_4 : Option Addr) (c0_4 : Nat) (l0_4 : List Int) (A0_5 : Option Addr) (c0_5 : Nat) (l0_5 : List Int) (P1_ : Nat→Prop) (A1 : Option Addr) (c1 : Nat) (l1 : List Int) (P2_ : Nat→Prop) (A2 : Option Addr) (c2 : Nat) (l2 : List Int) (r : List Int) (w : World) (hr0_1 : Kd.C k71 w A0_1 l0_1.length l0_1) (hc0_1 : l0_1.length ≤ c0_1) (hr0_2 : Kd.C k84 w A0_2 l0_2.length l0_2) (hc0_2 : l0_2.length ≤ c0_2) (hr0_3 : Kd.C (Kd.int .u32) w A0_3 l0_3.length l0_3) (hc0_3 : l0_3.length ≤ c0_3) (hr0_4 : Kd.C (Kd.int .u32) w A0_4 l0_4.length l0_4) (hc0_4 : l0_4.length ≤ c0_4) (hr0_5 : Kd.C (Kd.int .u32) w A0_5 l0_5.length l0_5) (hc0_5 : l0_5.length ≤ c0_5) (hs1 : Kd.V (Kd.int .u8) 5 w w.heap.size (fun k_ => P1_ k_) (.slice A1 l1.length c1) l1) (hs2 : Kd.V (Kd.int .u8) 5 w w.heap.size (fun k_ => P2_ k_) (.slice A2 l2.length c2) l2) (h : sim_frame.f k a0_0 l0_1 l0_2 l0_3 l0_4 l0_5 l1 l2 = some r) :
  Calls Tryd.prog 68 #[.agg #[.int .i64 a0_0,.slice A0_1 l0_1.length c0_1,.slice A0_2 l0_2.length c0_2,.slice A0_3 l0_3.length c0_3,.slice A0_4 l0_4.length c0_4,.slice A0_5 l0_5.length c0_5],.slice A1 l1.length c1,.slice A2 l2.length c2] w fun e w' => ∃ v0_ : Value,e = .returned (v0_)∧Kd.R (Kd.int .u8) 5 w' w.heap.size (fun k_ => (w.heap.size ≤ k_)) v0_ r∧Below w.heap.size w w':=by
 have hu26:=Tryd.underlying26
 have hu84:=Tryd.underlying84
 have HR0_1:=Aside0.mk hr0_1
 have HC0_1:=Aside0.mk hc0_1
 clear hr0_1 hc0_1
 have HR0_2:=Aside0.mk hr0_2
 have HC0_2:=Aside0.mk hc0_2
 clear hr0_2 hc0_2
 have HR0_3:=Aside0.mk hr0_3
 have HC0_3:=Aside0.mk hc0_3
 clear hr0_3 hc0_3
 have HR0_4:=Aside0.mk hr0_4
 have HC0_4:=Aside0.mk hc0_4
 clear hr0_4 hc0_4
 have HR0_5:=Aside0.mk hr0_5
 have HC0_5:=Aside0.mk hc0_5
 clear hr0_5 hc0_5
 have HO1:=Aside0.mk (show Kd.V (Kd.int .u8) 5 w w.heap.size (fun k_ => ((P1_ k_ ∨ P2_ k_) ∨ w.heap.size ≤ k_)) (.slice A1 l1.length c1) l1 from Kd.V_mono hs1 (fun k_ hk => .inl (.inl hk)))
 have HO2:=Aside0.mk (show Kd.V (Kd.int .u8) 5 w w.heap.size (fun k_ => ((P1_ k_ ∨ P2_ k_) ∨ w.heap.size ≤ k_)) (.slice A2 l2.length c2) l2 from Kd.V_mono hs2 (fun k_ hk => .inl (.inr hk)))
 have HB:=Aside0.mk (Below.refl w.heap.size w)
 have H : ((slices_Concat_uint8_uint8.f (([(([0] : List Int)),l2,l1] : List (List Int)))).bind fun t108 => (sim_frame.l0 k t108 l0_2 (l0_2.length : Int) 0)) = some r:=h
 clear h
 obtain ⟨y102,hy102⟩ : ∃ y_ : List Int,y_ = (([0] : List Int)):=⟨_,rfl⟩
 replace H : ((slices_Concat_uint8_uint8.f (([y102,l2,l1] : List (List Int)))).bind fun t108 => (sim_frame.l0 k t108 l0_2 (l0_2.length : Int) 0)) = some r:=by first|(rw [hy102];with_reducible exact H)|(have H2_:=(Option.bind_some _ _).symm.trans H;rw [hy102];with_reducible exact H2_)|(have H2_:=(Option.bind_some _ _).symm.trans H;with_reducible exact H2_)|with_reducible exact H|(rw [hy102];exact H)|exact H
 have Ny102:=Aside0.mk hy102
 clear hy102
 obtain ⟨y105,hy105⟩ : ∃ y_ : List (List Int),y_ = (([y102,l2,l1] : List (List Int))):=⟨_,rfl⟩
 replace H : ((slices_Concat_uint8_uint8.f y105).bind fun t108 => (sim_frame.l0 k t108 l0_2 (l0_2.length : Int) 0)) = some r:=by first|(rw [hy105];with_reducible exact H)|(have H2_:=(Option.bind_some _ _).symm.trans H;rw [hy105];with_reducible exact H2_)|(have H2_:=(Option.bind_some _ _).symm.trans H;with_reducible exact H2_)|with_reducible exact H|(rw [hy105];exact H)|exact H
 have Ny105:=Aside0.mk hy105
 clear hy105
 replace H:=Option.bind_eq_some_iff.mp H
 obtain ⟨t108,A40,H⟩:=H
 replace H : (sim_frame.l0 k t108 l0_2 (l0_2.length : Int) 0) = some r:=H
 have A4:=Aside0.mk A40
 clear A40
 have H':=Aside0.mk H
 clear H
 go_enter Tryd.func68,Tryd.ntmps68
 go_wp2_with (first|((with_reducible refine gate_dst (N:=3) rfl ?_);refine box_event ?hg (N:=3) ?hd (cs:=#[.int .i64 a0_0,.slice A0_1 l0_1.length c0_1,.slice A0_2 l0_2.length c0_2,.slice A0_3 l0_3.length c0_3,.slice A0_4 l0_4.length c0_4,.slice A0_5 l0_5.length c0_5]) (t:=26) ?hr ?_;(case hd => rfl);(case hg => rfl);(case hr => first|(go_simp;done)|(go_simp;rfl));intro gb101 hg w5 hbox hb;have n0_:=Aside0.mk (Kd.V_below (Kd.V_elderB (by (with_reducible repeat (first|apply Kd.V_alloc|apply Kd.V_drewN|apply Kd.V_drew));exact HO1.out) gb101 (Nat.le_of_eq hg.symm)) hb);have n1_:=Aside0.mk (Kd.V_below (Kd.V_elderB (by (with_reducible repeat (first|apply Kd.V_alloc|apply Kd.V_drewN|apply Kd.V_drew));exact HO2.out) gb101 (Nat.le_of_eq hg.symm)) hb);have n2_:=Aside0.mk (below_step (by repeat (first|(with_reducible first|exact HB.out|apply below_alloc|apply pw_below_drewN|apply below_drew1)|exact HB.out)) hb);have n3_:=Aside0.mk (hbox);have n4_:=Aside0.mk ((by rw [hg];exact (below_size (by repeat (first|(with_reducible first|exact HB.out|apply below_alloc|apply pw_below_drewN|apply below_drew1)|exact HB.out))) : w.heap.size ≤ gb101));have n5_:=Aside0.mk ((by rw [hg];exact (below_size (by repeat (first|(with_reducible first|exact HB.out|apply below_alloc|apply pw_below_drewN|apply below_drew1)|exact HB.out))) : w.heap.size ≤ gb101));clear HO1;clear HO2;clear HB;have HO1:=n0_;have HO2:=n1_;have HB:=n2_;have BK101:=n3_;have GW101:=n4_;have GE101:=n5_;clear n0_ n1_ n2_ n3_ n4_ n5_;clear hb hbox hg)|((with_reducible refine gate_dst (N:=10) rfl ?_);refine Kd.R_lit (Kd.int .u8) _ 5 ?hg (N:=10) ?hd (xs:=([0] : List Int)) (inner:=[.int .u8 0]) (ok:=fun _ => True) (okp:=fun _ => True) ?hr ?hp (fun _ hk => hk) trivial (Below.refl _ _) (Nat.le_refl _) (by simp) ?_;(case hd => rfl);(case hg => rfl);(case hr => first|(go_simp;done)|(go_simp;rfl));(case hp => exact (Reps.one (show Kd.M (Kd.int .u8) _ _ _ 0 [.int .u8 0] from rfl) (Reps.none _ _)));intro v103 w6 ho7 hb hg_ hnew_;clear hg_ hnew_;(first|rw [← Ny102.out] at ho7|(simp only [Int.reduceToNat] at ho7;rw [← Ny102.out] at ho7));have n0_:=Aside0.mk (Kd.V_elder' (by (with_reducible repeat (first|apply Kd.V_alloc|apply Kd.V_drewN|apply Kd.V_drew));exact HO1.out) (Kd.R_base ho7) hb);have n1_:=Aside0.mk (Kd.V_elder' (by (with_reducible repeat (first|apply Kd.V_alloc|apply Kd.V_drewN|apply Kd.V_drew));exact HO2.out) (Kd.R_base ho7) hb);have n2_:=Aside0.mk (Kd.R_lower (Kd.R_newM (M:=fun k_ => (w.heap.size ≤ k_)) ho7 (below_size (by repeat (first|(with_reducible first|exact HB.out|apply below_alloc|apply pw_below_drewN|apply below_drew1|refine below_set ?_ GE101.out)|exact HB.out))) (fun k_ h_ => h_)) (below_size (by repeat (first|(with_reducible first|exact HB.out|apply below_alloc|apply pw_below_drewN|apply below_drew1|refine below_set ?_ GE101.out)|exact HB.out))));have n3_:=Aside0.mk (blk_below (g:=gb101) (o:=.cells #[.int .i64 a0_0,.slice A0_1 l0_1.length c0_1,.slice A0_2 l0_2.length c0_2,.slice A0_3 l0_3.length c0_3,.slice A0_4 l0_4.length c0_4,.slice A0_5 l0_5.length c0_5] 26 (0,0)) (by (with_reducible repeat (first|refine blk_drewN ?_ _|refine blk_drew ?_|refine blk_alloc ?_ _));exact BK101.out) hb);have n4_:=Aside0.mk (below_step (by repeat (first|(with_reducible first|exact HB.out|apply below_alloc|apply pw_below_drewN|apply below_drew1|refine below_set ?_ GE101.out)|exact HB.out)) hb);clear HO1;clear HO2;clear BK101;clear HB;have HO1:=n0_;have HO2:=n1_;have HO104:=n2_;have BK101:=n3_;have HB:=n4_;clear n0_ n1_ n2_ n3_ n4_;clear hb ho7;obtain ⟨Ao8,co8,eo8⟩:=Kd.R_slice HO104.out;subst eo8)|((with_reducible refine gate_dst (N:=13) rfl ?_);refine Kd.N_lit (Kd.slice 5 (Kd.int .u8)) _ 27 ?hg (N':=13) ?hd (xs:=([y102,l2,l1] : List (List Int))) (inner:=[.slice Ao8 y102.length co8,.slice A2 l2.length c2,.slice A1 l1.length c1]) (ok:=(fun k_ => ((P1_ k_ ∨ P2_ k_) ∨ w.heap.size ≤ k_)∧k_ ≠ gb101)) (okp:=(fun k_ => ((P1_ k_ ∨ P2_ k_) ∨ w.heap.size ≤ k_)∧k_ ≠ gb101)) ?hr ?hp (fun _ hk => hk) ((show ∀ k_,w6.heap.size ≤ k_→(fun k_ => ((P1_ k_ ∨ P2_ k_) ∨ w.heap.size ≤ k_)∧k_ ≠ gb101) k_ from fun k_ hk => ⟨(.inr (Nat.le_trans (below_size (by repeat (first|(with_reducible first|exact HB.out|apply below_alloc|apply pw_below_drewN|apply below_drew1|refine below_set ?_ GE101.out)|exact HB.out))) hk)),Kd.freshB (g:=gb101) (o:=.cells #[.int .i64 a0_0,.slice A0_1 l0_1.length c0_1,.slice A0_2 l0_2.length c0_2,.slice A0_3 l0_3.length c0_3,.slice A0_4 l0_4.length c0_4,.slice A0_5 l0_5.length c0_5] 26 (0,0)) (by (with_reducible repeat (first|refine blk_drewN ?_ _|refine blk_drew ?_|refine blk_alloc ?_ _));exact BK101.out) k_ hk⟩) _ (Nat.le_refl _)) (Below.refl _ _) (Nat.le_refl _) (by simp) ?_;(case hd => rfl);(case hg => rfl);(case hr => first|(go_simp;done)|(go_simp;rfl));(case hp => exact (Reps.one (show Kd.FK (Kd.slice 5 (Kd.int .u8)) _ _ y102 [.slice Ao8 y102.length co8] from (Kd.FK_slice_mk (Kd.R_reads' (Kd.R_mono (ok':=(fun k_ => ((P1_ k_ ∨ P2_ k_) ∨ w.heap.size ≤ k_)∧k_ ≠ gb101)) (Kd.R_types (HO104.out) BK101.out (by decide)) (fun k_ hk => ⟨(.inr (hk.1.1)),hk.2⟩))).2.1 (Kd.R_F (Kd.R_mono (ok':=(fun k_ => ((P1_ k_ ∨ P2_ k_) ∨ w.heap.size ≤ k_)∧k_ ≠ gb101)) (Kd.R_types (HO104.out) BK101.out (by decide)) (fun k_ hk => ⟨(.inr (hk.1.1)),hk.2⟩))))) (Reps.one (show Kd.FK (Kd.slice 5 (Kd.int .u8)) _ _ l2 [.slice A2 l2.length c2] from (Kd.FK_slice_mk (Kd.V_reads' (Kd.V_mono (ok':=(fun k_ => ((P1_ k_ ∨ P2_ k_) ∨ w.heap.size ≤ k_)∧k_ ≠ gb101)) (HO2.out) (fun k_ hk => ⟨hk.1.1,hk.1.2⟩))).2.1 (Kd.V_F (Kd.V_mono (ok':=(fun k_ => ((P1_ k_ ∨ P2_ k_) ∨ w.heap.size ≤ k_)∧k_ ≠ gb101)) (HO2.out) (fun k_ hk => ⟨hk.1.1,hk.1.2⟩))))) (Reps.one (show Kd.FK (Kd.slice 5 (Kd.int .u8)) _ _ l1 [.slice A1 l1.length c1] from (Kd.FK_slice_mk (Kd.V_reads' (Kd.V_mono (ok':=(fun k_ => ((P1_ k_ ∨ P2_ k_) ∨ w.heap.size ≤ k_)∧k_ ≠ gb101)) (HO1.out) (fun k_ hk => ⟨hk.1.1,hk.1.2⟩))).2.1 (Kd.V_F (Kd.V_mono (ok':=(fun k_ => ((P1_ k_ ∨ P2_ k_) ∨ w.heap.size ≤ k_)∧k_ ≠ gb101)) (HO1.out) (fun k_ hk => ⟨hk.1.1,hk.1.2⟩))))) (Reps.none _ _)))));intro v106 w9 ho10 hb hg_ hnew_;clear hg_ hnew_;(first|rw [← Ny105.out] at ho10|(simp only [Int.reduceToNat] at ho10;rw [← Ny105.out] at ho10));have n0_:=Aside0.mk (Kd.V_elder' (by (with_reducible repeat (first|apply Kd.V_alloc|apply Kd.V_drewN|apply Kd.V_drew));exact HO1.out) (Kd.N_base ho10) hb);have n1_:=Aside0.mk (Kd.V_elder' (by (with_reducible repeat (first|apply Kd.V_alloc|apply Kd.V_drewN|apply Kd.V_drew));exact HO2.out) (Kd.N_base ho10) hb);have n2_:=Aside0.mk (Kd.N_lower ho10 (below_size (by repeat (first|(with_reducible first|exact HB.out|apply below_alloc|apply pw_below_drewN|apply below_drew1|refine below_set ?_ GE101.out)|exact HB.out))));have n3_:=Aside0.mk (blk_below (g:=gb101) (o:=.cells #[.int .i64 a0_0,.slice A0_1 l0_1.length c0_1,.slice A0_2 l0_2.length c0_2,.slice A0_3 l0_3.length c0_3,.slice A0_4 l0_4.length c0_4,.slice A0_5 l0_5.length c0_5] 26 (0,0)) (by (with_reducible repeat (first|refine blk_drewN ?_ _|refine blk_drew ?_|refine blk_alloc ?_ _));exact BK101.out) hb);have n4_:=Aside0.mk (below_step (by repeat (first|(with_reducible first|exact HB.out|apply below_alloc|apply pw_below_drewN|apply below_drew1|refine below_set ?_ GE101.out)|exact HB.out)) hb);clear HO1;clear HO2;clear BK101;clear HB;clear HO104;have HO1:=n0_;have HO2:=n1_;have HO107:=n2_;have BK101:=n3_;have HB:=n4_;clear n0_ n1_ n2_ n3_ n4_;clear hb ho10;obtain ⟨Ao11,co11,eo11⟩:=Kd.N_slice HO107.out;subst eo11)|((with_reducible refine gate_callee (f:=119) rfl ?_);refine goesL_ (some 14) rfl rfl Tryd.func119 (by kernel_rfl) rfl #[.slice Ao11 y105.length co11] rfl (by (try simp only [List.map_toArray,List.map_cons,List.map_nil]);first|done|rfl|(simp only [List.length_drop,List.length_take];rfl)) ?_;(with_reducible refine (slices_Concat_uint8_uint8.calls _ _ y105 t108 _ ?side1 ?side2 A4.out).mono ?_);(case side1 => repeat (first|exact (Kd.N_reads' HO107.out).2.2|(with_reducible refine Kd.C_alloc ?_ _)|(with_reducible refine Kd.C_drewN ?_ _)|(with_reducible refine Kd.C_drew ?_)));(case side2 => exact (Kd.N_reads' HO107.out).2.1);rintro e w12 ⟨v109,rfl,ho0,hb⟩;refine ⟨_,rfl,?_⟩;have n0_:=Aside0.mk (Kd.V_elder' (by (with_reducible repeat (first|apply Kd.V_alloc|apply Kd.V_drewN|apply Kd.V_drew));exact HO1.out) (Kd.R_base ho0) hb);have n1_:=Aside0.mk (Kd.V_elder' (by (with_reducible repeat (first|apply Kd.V_alloc|apply Kd.V_drewN|apply Kd.V_drew));exact HO2.out) (Kd.R_base ho0) hb);have n2_:=Aside0.mk (Kd.N_elder' (by (with_reducible repeat (first|apply Kd.N_alloc|apply Kd.N_drewN|apply Kd.N_drew));exact HO107.out) (Kd.R_base ho0) hb);have n3_:=Aside0.mk (Kd.R_lower (Kd.R_newM (M:=fun k_ => (w.heap.size ≤ k_)) ho0 (below_size (by repeat (first|(with_reducible first|exact HB.out|apply below_alloc|apply pw_below_drewN|apply below_drew1|refine below_set ?_ GE101.out)|exact HB.out))) (fun k_ h_ => h_)) (below_size (by repeat (first|(with_reducible first|exact HB.out|apply below_alloc|apply pw_below_drewN|apply below_drew1|refine below_set ?_ GE101.out)|exact HB.out))));have n4_:=Aside0.mk (blk_below (g:=gb101) (o:=.cells #[.int .i64 a0_0,.slice A0_1 l0_1.length c0_1,.slice A0_2 l0_2.length c0_2,.slice A0_3 l0_3.length c0_3,.slice A0_4 l0_4.length c0_4,.slice A0_5 l0_5.length c0_5] 26 (0,0)) (by (with_reducible repeat (first|refine blk_drewN ?_ _|refine blk_drew ?_|refine blk_alloc ?_ _));exact BK101.out) hb);have n5_:=Aside0.mk (below_step (by repeat (first|(with_reducible first|exact HB.out|apply below_alloc|apply pw_below_drewN|apply below_drew1|refine below_set ?_ GE101.out)|exact HB.out)) hb);clear HO1;clear HO2;clear HO107;clear BK101;clear HB;have HO1:=n0_;have HO2:=n1_;have HO107:=n2_;have HO110:=n3_;have BK101:=n4_;have HB:=n5_;clear n0_ n1_ n2_ n3_ n4_ n5_;(try clear hb);(try clear hb2);(try clear hk);(try clear hi);(try clear ho0);have hcz13_0 : w12.cell? ⟨gb101,0,none⟩ = some (.int .i64 a0_0):=(blk_cell BK101.out 0).trans rfl;have hcz13_1 : w12.cell? ⟨gb101,1,none⟩ = some (.slice A0_1 l0_1.length c0_1):=(blk_cell BK101.out 1).trans rfl;have hcz13_2 : w12.cell? ⟨gb101,2,none⟩ = some (.slice A0_2 l0_2.length c0_2):=(blk_cell BK101.out 2).trans rfl;have hcz13_3 : w12.cell? ⟨gb101,3,none⟩ = some (.slice A0_3 l0_3.length c0_3):=(blk_cell BK101.out 3).trans rfl;have hcz13_4 : w12.cell? ⟨gb101,4,none⟩ = some (.slice A0_4 l0_4.length c0_4):=(blk_cell BK101.out 4).trans rfl;have hcz13_5 : w12.cell? ⟨gb101,5,none⟩ = some (.slice A0_5 l0_5.length c0_5):=(blk_cell BK101.out 5).trans rfl;have hfz13_0:=blk_frozen BK101.out 0;have hfz13_1:=blk_frozen BK101.out 1;have hfz13_2:=blk_frozen BK101.out 2;have hfz13_3:=blk_frozen BK101.out 3;have hfz13_4:=blk_frozen BK101.out 4;have hfz13_5:=blk_frozen BK101.out 5))
 go_loopg [7,18] k (fun kq v7 v18 w' => ∃ (x7_1 : List Int) (x18_1 : Int),v18 = .int .i64 x18_1∧Aside0 (sim_frame.l0 kq x7_1 l0_2 (l0_2.length : Int) x18_1 = some r)∧Aside0 (kq ≤ k)∧Aside0 (Kd.R (Kd.int .u8) 5 w' w.heap.size (fun k_ => (w.heap.size ≤ k_)) v7 x7_1)∧Aside0 (w'.heap[gb101]? = some (.cells #[.int .i64 a0_0,(.slice A0_1 l0_1.length c0_1),(.slice A0_2 l0_2.length c0_2),(.slice A0_3 l0_3.length c0_3),(.slice A0_4 l0_4.length c0_4),(.slice A0_5 l0_5.length c0_5)] 26 (0,0)))∧Aside0 (Below w.heap.size w w'))
 case atStart => exact ⟨(t108),(0),(by first|rfl|(simp;done)|(simp [*];done)),H',⟨Nat.le_refl _⟩,⟨by (with_reducible repeat (first|apply Kd.R_alloc|apply Kd.R_drewN|apply Kd.R_drew));exact Kd.R_mono HO110.out (fun _ hk => hk.1)⟩,⟨by (with_reducible repeat (first|refine blk_drewN ?_ _|refine blk_drew ?_|refine blk_alloc ?_ _));exact BK101.out⟩,⟨by repeat (first|(with_reducible first|exact HB.out|apply below_alloc|apply pw_below_drewN|apply below_drew1|refine below_set ?_ GE101.out)|exact HB.out)⟩⟩
 case round =>
  clear H'
  try clear c1
  try clear c2
  try clear p2
  try clear c6
  try clear c11
  try clear hcz13_0
  try clear hcz13_1
  try clear hcz13_2
  try clear hcz13_3
  try clear hcz13_4
  try clear hcz13_5
  try clear hfz13_0
  try clear hfz13_1
  try clear hfz13_2
  try clear hfz13_3
  try clear hfz13_4
  try clear hfz13_5
  obtain ⟨x7_1,x18_1,rfl,HA,HK1,HO_7,BK101,HB⟩:=hrel
  cases gk with
  | zero => exact absurd HA.out (by simp [sim_frame.l0])
  | succ k1 =>
   have H:=HA.out
   clear HA
   simp only [sim_frame.l0] at H
   by_cases c14 : x18_1 < (l0_2.length : Int)
   ·
    rw [if_pos c14] at H
    have c14b0 : decide (x18_1 < (l0_2.length : Int)) = true:=decide_eq_true c14
    clear c14
    by_cases c15 : 0 ≤ x18_1
    ·
     rw [if_pos c15] at H
     have c15b0 : decide (0 ≤ x18_1) = true:=decide_eq_true c15
     clear c15
     by_cases c16 : x18_1 < (l0_2.length : Int)
     ·
      rw [if_pos c16] at H
      have c16b0 : decide (x18_1 < (l0_2.length : Int)) = true:=decide_eq_true c16
      clear c16
      replace H:=Option.bind_eq_some_iff.mp H
      obtain ⟨t113,A170,H⟩:=H
      replace H : ((sim_Value.f k1 x7_1 ((rd_T84 l0_2 x18_1).f1)).bind fun t114 => ((tern_And1.f k1 t113 t114).bind fun t115 => (if x7_1.length < 140737488355328 then (sim_frame.l0 k1 (x7_1 ++ [t115]) l0_2 (l0_2.length : Int) (wrap64 (x18_1 + 1))) else (none)))) = some r:=H
      have A17:=Aside0.mk A170
      clear A170
      replace H:=Option.bind_eq_some_iff.mp H
      obtain ⟨t114,A180,H⟩:=H
      replace H : ((tern_And1.f k1 t113 t114).bind fun t115 => (if x7_1.length < 140737488355328 then (sim_frame.l0 k1 (x7_1 ++ [t115]) l0_2 (l0_2.length : Int) (wrap64 (x18_1 + 1))) else (none))) = some r:=H
      have A18:=Aside0.mk A180
      clear A180
      replace H:=Option.bind_eq_some_iff.mp H
      obtain ⟨t115,A190,H⟩:=H
      replace H : (if x7_1.length < 140737488355328 then (sim_frame.l0 k1 (x7_1 ++ [t115]) l0_2 (l0_2.length : Int) (wrap64 (x18_1 + 1))) else (none)) = some r:=H
      have A19:=Aside0.mk A190
      clear A190
      by_cases c20 : x7_1.length < 140737488355328
      ·
       rw [if_pos c20] at H
       have LMc20:=Aside0.mk c20
       clear c20
       obtain ⟨y116,hy116⟩ : ∃ y_ : List Int,y_ = (x7_1 ++ [t115]):=⟨_,rfl⟩
       replace H : (sim_frame.l0 k1 y116 l0_2 (l0_2.length : Int) (wrap64 (x18_1 + 1))) = some r:=by first|(rw [hy116];with_reducible exact H)|(have H2_:=(Option.bind_some _ _).symm.trans H;rw [hy116];with_reducible exact H2_)|(have H2_:=(Option.bind_some _ _).symm.trans H;with_reducible exact H2_)|with_reducible exact H|(rw [hy116];exact H)|exact H
       have Ny116:=Aside0.mk hy116
       clear hy116
       have H':=Aside0.mk H
       clear H
       have p111 : 0 ≤ (x18_1 : Int):=of_decide_eq_true (by first|(with_reducible assumption)|assumption)
       have q111 : x18_1 < (l0_2.length : Int):=of_decide_eq_true (by first|(with_reducible assumption)|assumption)
       obtain ⟨ad111,e111,hx111_0,hx111_1⟩:=at_T84 HR0_2.out x18_1 p111 q111
       cases e111
       replace hx111_0:=(HB.out.cell (World.block_lt_of_cell? w _ hx111_0)).trans hx111_0
       replace hx111_1:=(HB.out.cell (World.block_lt_of_cell? w _ hx111_1)).trans hx111_1
       replace p111:=eq_true p111
       replace q111:=eq_true q111
       try go_wp2_with (first|((with_reducible refine gate_dst (N:=9) rfl ?_);refine box_event ?hg (N:=9) ?hd (cs:=#[.int .u32 0,.int .u32 0]) (t:=84) ?hr ?_;(case hd => rfl);(case hg => rfl);(case hr => first|(go_simp;done)|(go_simp;rfl));intro gb112 hg w21 hbox hb;have n0_:=Aside0.mk (Kd.R_below (by (with_reducible repeat (first|apply Kd.R_alloc|apply Kd.R_drewN|apply Kd.R_drew));exact HO_7.out) hb);have n1_:=Aside0.mk (blk_below (g:=gb101) (o:=.cells #[.int .i64 a0_0,.slice A0_1 l0_1.length c0_1,.slice (some ad111) l0_2.length c0_2,.slice A0_3 l0_3.length c0_3,.slice A0_4 l0_4.length c0_4,.slice A0_5 l0_5.length c0_5] 26 (0,0)) (by (with_reducible repeat (first|refine blk_drewN ?_ _|refine blk_drew ?_|refine blk_alloc ?_ _));exact BK101.out) hb);have n2_:=Aside0.mk (below_step (by repeat (first|(with_reducible first|exact HB.out|apply below_alloc|apply pw_below_drewN|apply below_drew1|refine below_set ?_ GE101.out)|exact HB.out)) hb);have n3_:=Aside0.mk (hbox);have n4_:=Aside0.mk ((by rw [hg];exact (below_size (by repeat (first|(with_reducible first|exact HB.out|apply below_alloc|apply pw_below_drewN|apply below_drew1|refine below_set ?_ GE101.out)|exact HB.out))) : w.heap.size ≤ gb112));have n5_:=Aside0.mk ((by rw [hg];exact (below_size (by repeat (first|(with_reducible first|exact HB.out|apply below_alloc|apply pw_below_drewN|apply below_drew1|refine below_set ?_ GE101.out)|exact HB.out))) : w.heap.size ≤ gb112));have n6_:=Aside0.mk ((by rw [hg];exact Nat.ne_of_lt (blk_lt (g:=gb101) (o:=.cells #[.int .i64 a0_0,.slice A0_1 l0_1.length c0_1,.slice (some ad111) l0_2.length c0_2,.slice A0_3 l0_3.length c0_3,.slice A0_4 l0_4.length c0_4,.slice A0_5 l0_5.length c0_5] 26 (0,0)) (by (with_reducible repeat (first|refine blk_drewN ?_ _|refine blk_drew ?_|refine blk_alloc ?_ _));exact BK101.out)) : gb101 ≠ gb112));have n7_:=Aside0.mk ((by rw [hg];exact Nat.ne_of_gt (blk_lt (g:=gb101) (o:=.cells #[.int .i64 a0_0,.slice A0_1 l0_1.length c0_1,.slice (some ad111) l0_2.length c0_2,.slice A0_3 l0_3.length c0_3,.slice A0_4 l0_4.length c0_4,.slice A0_5 l0_5.length c0_5] 26 (0,0)) (by (with_reducible repeat (first|refine blk_drewN ?_ _|refine blk_drew ?_|refine blk_alloc ?_ _));exact BK101.out)) : gb112 ≠ gb101));clear HO_7;clear BK101;clear HB;have HO_7:=n0_;have BK101:=n1_;have HB:=n2_;have BK112:=n3_;have GW112:=n4_;have GE112:=n5_;have NB101_112:=n6_;have NB112_101:=n7_;clear n0_ n1_ n2_ n3_ n4_ n5_ n6_ n7_;clear hb hbox hg;have hnb22:=NB112_101.out;have hnc22:=NB101_112.out;have hcz23_0 : w21.cell? ⟨gb112,0,none⟩ = some (.int .u32 0):=(blk_cell BK112.out 0).trans rfl;have hcz23_1 : w21.cell? ⟨gb112,1,none⟩ = some (.int .u32 0):=(blk_cell BK112.out 1).trans rfl;have hfz23_0:=blk_frozen BK112.out 0;have hfz23_1:=blk_frozen BK112.out 1))
       have n0_ : Aside0 (Kd.R (Kd.int .u8) 5 ((w21.setCell ⟨gb112,0,none⟩ (.int .u32 ((rd_T84 l0_2 x18_1).f0))).setCell ⟨gb112,1,none⟩ (.int .u32 ((rd_T84 l0_2 x18_1).f1))) w.heap.size (fun k_ => (w.heap.size ≤ k_)) u7 x7_1):=⟨by (with_reducible repeat (first|apply Kd.R_alloc|apply Kd.R_drewN|apply Kd.R_drew));exact Kd.R_mono (Kd.R_far (p:=⟨gb112,1,none⟩) (Kd.R_far (p:=⟨gb112,0,none⟩) (Kd.R_types HO_7.out BK112.out (by decide)) (fun _ hk => hk.2) (.int .u32 ((rd_T84 l0_2 x18_1).f0))) (fun _ hk => hk.2) (.int .u32 ((rd_T84 l0_2 x18_1).f1))) (fun _ hk => hk.1)⟩
       have n1_ : Aside0 (((w21.setCell ⟨gb112,0,none⟩ (.int .u32 ((rd_T84 l0_2 x18_1).f0))).setCell ⟨gb112,1,none⟩ (.int .u32 ((rd_T84 l0_2 x18_1).f1))).heap[gb101]? = some (.cells #[.int .i64 a0_0,.slice A0_1 l0_1.length c0_1,.slice (some ad111) l0_2.length c0_2,.slice A0_3 l0_3.length c0_3,.slice A0_4 l0_4.length c0_4,.slice A0_5 l0_5.length c0_5] 26 (0,0))):=⟨by (with_reducible repeat (first|refine blk_drewN ?_ _|refine blk_drew ?_|refine blk_alloc ?_ _));refine blk_far ?_ NB101_112.out _;(with_reducible repeat (first|refine blk_drewN ?_ _|refine blk_drew ?_|refine blk_alloc ?_ _));refine blk_far ?_ NB101_112.out _;(with_reducible repeat (first|refine blk_drewN ?_ _|refine blk_drew ?_|refine blk_alloc ?_ _));exact BK101.out⟩
       have n2_ : Aside0 (((w21.setCell ⟨gb112,0,none⟩ (.int .u32 ((rd_T84 l0_2 x18_1).f0))).setCell ⟨gb112,1,none⟩ (.int .u32 ((rd_T84 l0_2 x18_1).f1))).heap[gb112]? = some (.cells #[.int .u32 ((rd_T84 l0_2 x18_1).f0),.int .u32 ((rd_T84 l0_2 x18_1).f1)] 84 (0,0))):=⟨by (with_reducible repeat (first|refine blk_drewN ?_ _|refine blk_drew ?_|refine blk_alloc ?_ _));refine blk_put (cs:=#[.int .u32 ((rd_T84 l0_2 x18_1).f0),.int .u32 0]) ?_ 1 _ rfl;(with_reducible repeat (first|refine blk_drewN ?_ _|refine blk_drew ?_|refine blk_alloc ?_ _));refine blk_put (cs:=#[.int .u32 0,.int .u32 0]) ?_ 0 _ rfl;(with_reducible repeat (first|refine blk_drewN ?_ _|refine blk_drew ?_|refine blk_alloc ?_ _));exact BK112.out⟩
       have n3_ : Aside0 (Below w.heap.size w ((w21.setCell ⟨gb112,0,none⟩ (.int .u32 ((rd_T84 l0_2 x18_1).f0))).setCell ⟨gb112,1,none⟩ (.int .u32 ((rd_T84 l0_2 x18_1).f1)))):=⟨by repeat (first|(with_reducible first|exact HB.out|apply below_alloc|apply pw_below_drewN|apply below_drew1|refine below_set ?_ GE101.out|refine below_set ?_ GE112.out)|exact HB.out)⟩
       (try clear HO_7)
       (try clear BK101)
       (try clear BK112)
       (try clear HB)
       generalize ((w21.setCell ⟨gb112,0,none⟩ (.int .u32 ((rd_T84 l0_2 x18_1).f0))).setCell ⟨gb112,1,none⟩ (.int .u32 ((rd_T84 l0_2 x18_1).f1))) = w24 at n0_ n1_ n2_ n3_ ⊢
       have HO_7:=n0_
       have BK101:=n1_
       have BK112:=n2_
       have HB:=n3_
       clear n0_ n1_ n2_ n3_
       have n0_:=Aside0.mk (Kd.R_drew HO_7.out)
       have n1_:=Aside0.mk (blk_drew BK101.out)
       have n2_:=Aside0.mk (blk_drew BK112.out)
       have n3_:=Aside0.mk (below_drew1 HB.out)
       clear HO_7
       clear BK101
       clear BK112
       clear HB
       have HO_7:=n0_
       have BK101:=n1_
       have BK112:=n2_
       have HB:=n3_
       clear n0_ n1_ n2_ n3_
       obtain ⟨Ao26,co26,eo26⟩:=Kd.R_slice HO_7.out
       (first|subst eo26|(injection eo26 with f1_ f2_ f3_;have f4_:=f1_.symm;have f5_:=f3_.symm;clear f1_ f2_ f3_;subst f4_;subst f5_))
       refine start_ (n:=13) (S:=fun w' => w'.cell? ⟨gb112,0,none⟩ = some (.int .u32 ((rd_T84 l0_2 x18_1).f0))∧w'.cell? ⟨gb112,1,none⟩ = some (.int .u32 ((rd_T84 l0_2 x18_1).f1))) (ds:=[]) #[false,false,false,false,false,false,false,false,false,false,false,false,false] (by kernel_rfl) rfl rfl ⟨(blk_cell BK112.out 0).trans rfl,(blk_cell BK112.out 1).trans rfl⟩ (fun hHeld => ?_);refine with_tabW sim_frame.tab5 sim_frame.bits5 (fun HT_ HW_ => ?_)
       generalize w24.drew = w25 at HO_7 BK101 BK112 HB hHeld ⊢
       refine pure_ (i:=0) (N:=some 22) (v:=?_) (a':=?_) #[true,false,false,false,false,false,false,false,false,false,false,false,false] rfl rfl (any_of HT_.out (by kernel_rfl)) (fun _ _ _ h => h) (Or.inl ⟨by rfl,?_⟩) ?_ ?_
       rotate_left
       ·
        intro w'
        go_simp
        with_reducible rfl
       rotate_left
       ·
        simp only [Act.put,List.setIfInBounds_toArray,List.set_cons_zero,List.set_cons_succ,i64_w,i32_w]
        rfl
       refine pure_ (i:=1) (N:=some 23) (v:=?_) (a':=?_) #[true,true,false,false,false,false,false,false,false,false,false,false,false] rfl rfl (any_of HT_.out (by kernel_rfl)) (fun _ _ _ h => h) (Or.inl ⟨by rfl,?_⟩) ?_ ?_
       rotate_left
       ·
        intro w'
        go_simp
        with_reducible rfl
       rotate_left
       ·
        simp only [Act.put,List.setIfInBounds_toArray,List.set_cons_zero,List.set_cons_succ,i64_w,i32_w]
        rfl
       refine pure_ (i:=2) (N:=some 24) (v:=?_) (a':=?_) #[true,true,true,false,false,false,false,false,false,false,false,false,false] rfl rfl (any_of HT_.out (by kernel_rfl)) (fun _ _ _ h => h) (Or.inl ⟨by rfl,?_⟩) ?_ ?_
       rotate_left
       ·
        intro w'
        go_simp
        with_reducible rfl
       rotate_left
       ·
        simp only [Act.put,List.setIfInBounds_toArray,List.set_cons_zero,List.set_cons_succ,i64_w,i32_w]
        rfl
       refine pure_ (i:=5) (N:=some 27) (v:=?_) (a':=?_) #[true,true,true,false,false,true,false,false,false,false,false,false,false] rfl rfl (any_of HT_.out (by kernel_rfl)) (fun _ _ _ h => h) (Or.inl ⟨by rfl,?_⟩) ?_ ?_
       rotate_left
       ·
        intro w'
        go_simp
        with_reducible rfl
       rotate_left
       ·
        simp only [Act.put,List.setIfInBounds_toArray,List.set_cons_zero,List.set_cons_succ,i64_w,i32_w]
        rfl
       refine pure_ (i:=6) (N:=some 28) (v:=?_) (a':=?_) #[true,true,true,false,false,true,true,false,false,false,false,false,false] rfl rfl (any_of HT_.out (by kernel_rfl)) (fun _ _ _ h => h) (Or.inl ⟨by rfl,?_⟩) ?_ ?_
       rotate_left
       ·
        intro w'
        go_simp
        with_reducible rfl
       rotate_left
       ·
        simp only [Act.put,List.setIfInBounds_toArray,List.set_cons_zero,List.set_cons_succ,i64_w,i32_w]
        rfl
       refine take_ (i:=3) (N:=some 25) (v:=?_) (a':=?_) #[true,true,true,true,false,true,true,false,false,false,false,false,false] rfl rfl (take_ofW HT_.out HW_.out (by kernel_rfl)) (fun _ _ _ h => h) (Or.inl ⟨by rfl,?_⟩) hHeld ?_ ?_
       rotate_left
       ·
        rintro w' ⟨s0,s1⟩
        go_simp
        with_reducible rfl
       rotate_left
       ·
        simp only [Act.put,List.setIfInBounds_toArray,List.set_cons_zero,List.set_cons_succ,i64_w,i32_w]
        rfl
       refine take_ (i:=7) (N:=some 29) (v:=?_) (a':=?_) #[true,true,true,true,false,true,true,true,false,false,false,false,false] rfl rfl (take_ofW HT_.out HW_.out (by kernel_rfl)) (fun _ _ _ h => h) (Or.inl ⟨by rfl,?_⟩) hHeld ?_ ?_
       rotate_left
       ·
        rintro w' ⟨s0,s1⟩
        go_simp
        with_reducible rfl
       rotate_left
       ·
        simp only [Act.put,List.setIfInBounds_toArray,List.set_cons_zero,List.set_cons_succ,i64_w,i32_w]
        rfl
       refine one_ (i:=4) (N:=some 26) #[true,true,true,true,true,true,true,true,false,false,false,false,false] rfl rfl (one_of HT_.out (by kernel_rfl)) (by decide) (fun K hK => ?_)
       refine goes_ Tryd.func25 (by kernel_rfl) rfl #[.slice Ao26 x7_1.length co26,.int .u32 ((rd_T84 l0_2 x18_1).f0)] (by rfl) rfl rfl (by (try simp only [List.map_toArray,List.map_cons,List.map_nil]);first|done|rfl|(simp only [List.length_drop,List.length_take];rfl)) ?_
       with_reducible refine (sim_Value.calls k1 _ _ x7_1 ((rd_T84 l0_2 x18_1).f0) t113 _ ?side1 ?side2 A17.out).mono ?_
       (case side1 => repeat (first|exact (Kd.R_reads' HO_7.out).2.2|(with_reducible refine Kd.C_alloc ?_ _)|(with_reducible refine Kd.C_drewN ?_ _)|(with_reducible refine Kd.C_drew ?_)))
       (case side2 => exact (Kd.R_reads' HO_7.out).2.1)
       rintro e w' ⟨rfl,⟨nd,rfl⟩⟩
       refine ⟨_,rfl,?_⟩
       refine hK.out _ _ ⟨(blk_cell BK112.out 0).trans rfl,(blk_cell BK112.out 1).trans rfl⟩ (fun hHeld => ?_)
       clear hK K
       refine norm_ (a':=?_) ?_ ?_
       rotate_left
       ·
        show Act.put _ (some 26) _ = _
        simp only [Act.put,List.setIfInBounds_toArray,List.set_cons_zero,List.set_cons_succ,i64_w,i32_w]
        rfl
       refine one_ (i:=8) (N:=some 30) #[true,true,true,true,true,true,true,true,true,false,false,false,false] rfl rfl (one_of HT_.out (by kernel_rfl)) (by decide) (fun K hK => ?_)
       refine goes_ Tryd.func25 (by kernel_rfl) rfl #[.slice Ao26 x7_1.length co26,.int .u32 ((rd_T84 l0_2 x18_1).f1)] (by rfl) rfl rfl (by (try simp only [List.map_toArray,List.map_cons,List.map_nil]);first|done|rfl|(simp only [List.length_drop,List.length_take];rfl)) ?_
       with_reducible refine (sim_Value.calls k1 _ _ x7_1 ((rd_T84 l0_2 x18_1).f1) t114 _ ?side1 ?side2 A18.out).mono ?_
       (case side1 => repeat (first|exact (Kd.R_reads' HO_7.out).2.2|(with_reducible refine Kd.C_alloc ?_ _)|(with_reducible refine Kd.C_drewN ?_ _)|(with_reducible refine Kd.C_drew ?_)))
       (case side2 => exact (Kd.R_reads' HO_7.out).2.1)
       rintro e w' ⟨rfl,⟨nd,rfl⟩⟩
       refine ⟨_,rfl,?_⟩
       refine hK.out _ _ ⟨(blk_cell BK112.out 0).trans rfl,(blk_cell BK112.out 1).trans rfl⟩ (fun hHeld => ?_)
       clear hK K
       refine norm_ (a':=?_) ?_ ?_
       rotate_left
       ·
        show Act.put _ (some 30) _ = _
        simp only [Act.put,List.setIfInBounds_toArray,List.set_cons_zero,List.set_cons_succ,i64_w,i32_w]
        rfl
       refine one_ (i:=9) (N:=some 31) #[true,true,true,true,true,true,true,true,true,true,false,false,false] rfl rfl (one_of HT_.out (by kernel_rfl)) (by decide) (fun K hK => ?_)
       refine goes_ Tryd.func63 (by kernel_rfl) rfl #[.int .u8 t113,.int .u8 t114] (by rfl) rfl rfl (by (try simp only [List.map_toArray,List.map_cons,List.map_nil]);first|done|rfl|(simp only [List.length_drop,List.length_take];rfl)) ?_
       with_reducible refine (tern_And1.calls k1 t113 t114 t115 _ A19.out).mono ?_
       rintro e w' ⟨rfl,⟨nd,rfl⟩⟩
       refine ⟨_,rfl,?_⟩
       refine hK.out _ _ ⟨(blk_cell BK112.out 0).trans rfl,(blk_cell BK112.out 1).trans rfl⟩ (fun hHeld => ?_)
       clear hK K
       refine norm_ (a':=?_) ?_ ?_
       rotate_left
       ·
        show Act.put _ (some 31) _ = _
        simp only [Act.put,List.setIfInBounds_toArray,List.set_cons_zero,List.set_cons_succ,i64_w,i32_w]
        rfl
       refine one_ (i:=10) (N:=some 32) #[true,true,true,true,true,true,true,true,true,true,true,false,false] rfl rfl (one_of HT_.out (by kernel_rfl)) (by decide) (fun K hK => ?_)
       refine value_ (w1:=?_) (v:=?_) (by rfl) rfl ?_ ?_
       rotate_left 2
       ·
        go_simp
        constructor
        ·
         rfl
        ·
         rfl
       refine hK.out _ _ ⟨(blk_cell (blk_alloc BK112.out _) 0).trans rfl,(blk_cell (blk_alloc BK112.out _) 1).trans rfl⟩ (fun hHeld => ?_)
       clear hK K
       refine norm_ (a':=?_) ?_ ?_
       rotate_left
       ·
        show Act.put _ (some 32) _ = _
        simp only [Act.put,List.setIfInBounds_toArray,List.set_cons_zero,List.set_cons_succ,i64_w,i32_w]
        rfl
       refine one_ (i:=11) (N:=some 33) #[true,true,true,true,true,true,true,true,true,true,true,true,false] rfl rfl (one_of HT_.out (by kernel_rfl)) (by decide) (fun K hK => ?_)
       refine Kd.R_append_step (Kd.int .u8) (w0:=w) w.heap.size (by rfl) (.tmp 22) (.tmp 32) 27 5 (.int .u8 0) 1 rfl Tryd.underlying27 info5 rfl (by decide) (by omega) (.slice Ao26 x7_1.length co26) x7_1 t115 [.int .u8 t115] (fun k_ => (w.heap.size ≤ k_)) (fun _ => False) rfl rfl ?aP (fun _ hk => hk.elim) ?aF ?aO ?aB ?aS ?aL ?_
       (case aP => exact rfl)
       (case aB => exact (by repeat (first|(with_reducible first|exact HB.out|apply below_alloc|apply pw_below_drewN|apply below_drew1|refine below_set ?_ GE101.out|refine below_set ?_ GE112.out)|exact HB.out)))
       (case aF => exact (fun k_ hk => (Nat.le_trans (below_size (by repeat (first|(with_reducible first|exact HB.out|apply below_alloc|apply pw_below_drewN|apply below_drew1|refine below_set ?_ GE101.out|refine below_set ?_ GE112.out)|exact HB.out))) hk)))
       (case aO => exact (by (with_reducible repeat (first|apply Kd.R_alloc|apply Kd.R_drewN|apply Kd.R_drew));exact HO_7.out))
       (case aS => exact (below_size (by repeat (first|(with_reducible first|exact HB.out|apply below_alloc|apply pw_below_drewN|apply below_drew1|refine below_set ?_ GE101.out|refine below_set ?_ GE112.out)|exact HB.out))))
       (case aL => have:=LMc20.out;omega)
       intro v117 w27 ho hb hg hat
       rw [← Ny116.out] at ho
       have n0_:=Aside0.mk (blk_grown (g:=gb101) (o:=.cells #[.int .i64 a0_0,.slice A0_1 l0_1.length c0_1,.slice (some ad111) l0_2.length c0_2,.slice A0_3 l0_3.length c0_3,.slice A0_4 l0_4.length c0_4,.slice A0_5 l0_5.length c0_5] 26 (0,0)) (by (with_reducible repeat (first|refine blk_drewN ?_ _|refine blk_drew ?_|refine blk_alloc ?_ _));exact BK101.out) hg (Kd.R_ne HO_7.out BK101.out (by decide)))
       have n1_:=Aside0.mk (blk_grown (g:=gb112) (o:=.cells #[.int .u32 ((rd_T84 l0_2 x18_1).f0),.int .u32 ((rd_T84 l0_2 x18_1).f1)] 84 (0,0)) (by (with_reducible repeat (first|refine blk_drewN ?_ _|refine blk_drew ?_|refine blk_alloc ?_ _));exact BK112.out) hg (Kd.R_ne HO_7.out BK112.out (by decide)))
       have n2_:=Aside0.mk (hb)
       have n3_:=Aside0.mk (ho)
       clear BK101
       clear BK112
       clear HB
       clear HO_7
       have BK101:=n0_
       have BK112:=n1_
       have HB:=n2_
       have HO118:=n3_
       clear n0_ n1_ n2_ n3_
       clear ho hb hg hat
       refine hK.out _ _ ⟨(blk_cell BK112.out 0).trans rfl,(blk_cell BK112.out 1).trans rfl⟩ (fun hHeld => ?_)
       clear hK K
       refine norm_ (a':=?_) ?_ ?_
       rotate_left
       ·
        show Act.put _ (some 33) _ = _
        simp only [Act.put,List.setIfInBounds_toArray,List.set_cons_zero,List.set_cons_succ,i64_w,i32_w]
        rfl
       refine pure_ (i:=12) (N:=some 7) (v:=?_) (a':=?_) #[true,true,true,true,true,true,true,true,true,true,true,true,true] rfl rfl (any_of HT_.out (by kernel_rfl)) (fun _ _ _ h => h) (Or.inl ⟨by rfl,?_⟩) ?_ ?_
       rotate_left
       ·
        intro w'
        go_simp
        with_reducible rfl
       rotate_left
       ·
        simp only [Act.put,List.setIfInBounds_toArray,List.set_cons_zero,List.set_cons_succ,i64_w,i32_w]
        rfl
       refine done_ (done_of HT_.out (by kernel_rfl)) ?_
       try go_wp2
       go_roundg k1
       case measure => have:=HK1.out;omega
       case rel => exact ⟨(y116),(wrap64 (x18_1 + 1)),(by first|rfl|(simp;done)|(simp [*];done)),H',⟨by have:=HK1.out;omega⟩,⟨by (with_reducible repeat (first|apply Kd.R_alloc|apply Kd.R_drewN|apply Kd.R_drew));exact HO118.out⟩,⟨by (with_reducible repeat (first|refine blk_drewN ?_ _|refine blk_drew ?_|refine blk_alloc ?_ _));exact BK101.out⟩,⟨by repeat (first|(with_reducible first|exact HB.out|apply below_alloc|apply pw_below_drewN|apply below_drew1|refine below_set ?_ GE101.out|refine below_set ?_ GE112.out)|exact HB.out)⟩⟩
      ·
       rw [if_neg c20] at H
       exact absurd H (by simp)
     ·
      rw [if_neg c16] at H
      exact absurd H (by simp)
    ·
     rw [if_neg c15] at H
     exact absurd H (by simp)
   ·
    rw [if_neg c14] at H
    have c14b0 : decide (x18_1 < (l0_2.length : Int)) = false:=decide_eq_false c14
    clear c14
    obtain rfl:=Option.some.inj H
    go_wp2
    go_ret
    exact ⟨_,by first|rfl|(simp [errW_none,errW_some] <;> rfl)|(simp [*,errW_none,errW_some] <;> rfl),by (with_reducible repeat (first|apply Kd.R_alloc|apply Kd.R_drewN|apply Kd.R_drew));exact HO_7.out,by repeat (first|(with_reducible first|exact HB.out|apply below_alloc|apply pw_below_drewN|apply below_drew1|refine below_set ?_ GE101.out)|exact HB.out)⟩

end Go.Proofs.YthpnooookkpkaaaDoor.F
/-! What a circuit does, in plain words: values, frames, runs; and that a run with less X is the same where it was known. -/
namespace Go.Proofs.YthpnooookkpkaaaDoor.F
def not1 (v : Int) : Int := if v > 1 then 2 else 1 - v
def and1 (a b : Int) : Int := if a = 0 ∨ b = 0 then 0 else if a = 1 ∧ b = 1 then 1 else 2
def at0 (l : List Int) (i : Nat) : Int := l.getD i 0
def val (vars : List Int) (lit : Int) : Int :=
  if vars.length ≤ (lit / 2).toNat ∨ at0 vars (lit / 2).toNat > 2 then 2 else if lit % 2 = 1 then not1 (at0 vars (lit / 2).toNat) else at0 vars (lit / 2).toNat
def gatesF (vars : List Int) : List S84 → List Int
  | [] => vars
  | g :: gs => gatesF (vars ++ [and1 (val vars g.f0) (val vars g.f1)]) gs
def frameF (G : List S84) (state inputs : List Int) : List Int := gatesF ([0] ++ inputs ++ state) G
def nextF (L : List S71) (vars : List Int) : List Int := L.map fun x => val vars x.f0
def framesF (L : List S71) (G : List S84) (state : List Int) : List (List Int) → List (List Int)
  | [] => []
  | i :: is => frameF G state i :: framesF L G (nextF L (frameF G state i)) is
/-- one value of many: 0 where one is 0, 1 where all are 1, else X -/
def andAll (l : List Int) : Int := l.foldl and1 1
/-- what the constraints and, in the last frame, the bad literal are -/
def askedF (K : List Int) (bad : Int) : List (List Int) → List Int
  | [] => []
  | [v] => K.map (val v) ++ [val v bad]
  | v :: vs => K.map (val v) ++ askedF K bad vs
def surelyF (L : List S71) (G : List S84) (K : List Int) (bad : Int) (state : List Int) (F : List (List Int)) : Int := andAll (askedF K bad (framesF L G state F))
def zeroed (l : List Int) : List Int := l.map fun x => if x = 2 then 0 else x

/-- a value that may be -/
def isV (v : Int) : Prop := v = 0 ∨ v = 1 ∨ v = 2
/-- b is what a may be: a itself where it is known; b is known -/
def Ref (a b : Int) : Prop := (b = 0 ∨ b = 1) ∧ (a = 2 ∨ a = b)
def RefL (l m : List Int) : Prop := l.length = m.length ∧ ∀ i, i < l.length → Ref (at0 l i) (at0 m i)
theorem at0_app {l m : List Int} {i : Nat} : at0 (l ++ m) i = if i < l.length then at0 l i else at0 m (i - l.length) := by
  unfold at0
  simp only [List.getD_eq_getElem?_getD, List.getElem?_append]
  split <;> rfl
theorem RefL.append {l m l' m' : List Int} (h : RefL l m) (h' : RefL l' m') : RefL (l ++ l') (m ++ m') := by
  refine ⟨by simp [h.1, h'.1], fun i hi => ?_⟩
  rw [List.length_append] at hi
  rw [at0_app, at0_app, ← h.1]
  split
  · exact h.2 i (by assumption)
  · exact h'.2 _ (by omega)
theorem RefL.nil : RefL [] [] := ⟨rfl, fun i hi => absurd hi (by simp)⟩
theorem RefL.one {a b : Int} (h : Ref a b) : RefL [a] [b] := ⟨rfl, fun i hi => by
  obtain rfl : i = 0 := by simp at hi; omega
  exact h⟩
theorem Ref.not1 {a b : Int} (h : Ref a b) : Ref (not1 a) (not1 b) := by
  obtain ⟨h1, h2⟩ := h
  unfold F.not1 Ref
  rcases h1 with rfl | rfl <;> rcases h2 with rfl | rfl <;> decide
theorem Ref.and1 {a b c d : Int} (h : Ref a b) (k : Ref c d) : Ref (and1 a c) (and1 b d) := by
  obtain ⟨h1, h2⟩ := h
  obtain ⟨k1, k2⟩ := k
  unfold F.and1 Ref
  rcases h1 with rfl | rfl <;> rcases h2 with rfl | rfl <;> rcases k1 with rfl | rfl <;> rcases k2 with rfl | rfl <;> decide
theorem Ref.le {a b : Int} (h : Ref a b) : ¬ a > 2 ∧ ¬ b > 2 := by
  obtain ⟨h1, h2⟩ := h
  omega
theorem RefL.val {l m : List Int} (h : RefL l m) {lit : Int} (hl : (lit / 2).toNat < l.length) : Ref (val l lit) (val m lit) := by
  have hr := h.2 _ hl
  have hm : (lit / 2).toNat < m.length := by rw [← h.1]; exact hl
  unfold F.val
  rw [if_neg (fun x => Or.elim x (by omega) hr.le.1), if_neg (fun x => Or.elim x (by omega) hr.le.2)]
  split
  · exact hr.not1
  · exact hr
theorem gatesF_len (gs : List S84) : ∀ vars, (gatesF vars gs).length = vars.length + gs.length := by
  induction gs with
  | nil => intro vars; rfl
  | cons g gs ih => intro vars; rw [gatesF, ih]; simp; omega
theorem RefL.gates {gs : List S84} : ∀ {l m : List Int}, RefL l m → (∀ i (h : i < gs.length), (gs[i].f0 / 2).toNat < l.length + i ∧ (gs[i].f1 / 2).toNat < l.length + i) → RefL (gatesF l gs) (gatesF m gs) := by
  induction gs with
  | nil => intro l m h _; exact h
  | cons g gs ih =>
    intro l m h hg
    have h0 := hg 0 (by simp)
    refine ih (h.append (RefL.one ((h.val h0.1).and1 (h.val h0.2)))) (fun i hi => ?_)
    have := hg (i + 1) (by simp; omega)
    simp only [List.length_append, List.length_singleton]
    exact ⟨by have := this.1; simp at this; omega, by have := this.2; simp at this; omega⟩
theorem RefL.map {α : Type} {f g : α → Int} {l : List α} (h : ∀ x ∈ l, Ref (f x) (g x)) : RefL (l.map f) (l.map g) := by
  refine ⟨by simp, fun i hi => ?_⟩
  simp at hi
  unfold at0
  simp only [List.getD_eq_getElem?_getD, List.getElem?_map, List.getElem?_eq_getElem hi, Option.map_some, Option.getD_some]
  exact h _ (List.getElem_mem hi)
/-- a circuit whose literals are of variables that are there -/
structure Lits (n : Nat) (L : List S71) (G : List S84) : Prop where
  gate : ∀ i (h : i < G.length), (G[i].f0 / 2).toNat < n + L.length + 1 + i ∧ (G[i].f1 / 2).toNat < n + L.length + 1 + i
  latch : ∀ x ∈ L, (x.f0 / 2).toNat ≤ n + L.length + G.length
theorem RefL.frame {n : Nat} {L : List S71} {G : List S84} (hc : Lits n L G) {s s' i i' : List Int} (hs : RefL s s') (hi : RefL i i') (ls : s.length = L.length) (li : i.length = n) :
    RefL (frameF G s i) (frameF G s' i') ∧ (frameF G s i).length = n + L.length + G.length + 1 := by
  constructor
  · refine RefL.gates (((RefL.one ⟨.inl rfl, .inr rfl⟩).append hi).append hs) (fun k hk => ?_)
    have := hc.gate k hk
    simp only [List.length_append, List.length_singleton]
    omega
  · unfold frameF
    rw [gatesF_len]
    simp only [List.length_append, List.length_singleton]
    omega
theorem RefL.next {n : Nat} {L : List S71} {G : List S84} (hc : Lits n L G) {v v' : List Int} (hv : RefL v v') (lv : v.length = n + L.length + G.length + 1) : RefL (nextF L v) (nextF L v') :=
  RefL.map fun x hx => hv.val (by have := hc.latch x hx; omega)
theorem nextF_len (L : List S71) (v : List Int) : (nextF L v).length = L.length := by simp [nextF]
theorem framesF_len (L : List S71) (G : List S84) : ∀ (F : List (List Int)) (s : List Int), (framesF L G s F).length = F.length := by
  intro F
  induction F with
  | nil => intro s; rfl
  | cons i F ih => intro s; simp [framesF, ih]
/-- lists of lists, each what the other may be -/
def RefLL (l m : List (List Int)) : Prop := l.length = m.length ∧ ∀ i (h : i < l.length) (h' : i < m.length), RefL l[i] m[i]
theorem RefLL.frames {n : Nat} {L : List S71} {G : List S84} (hc : Lits n L G) : ∀ {F F' : List (List Int)} {s s' : List Int}, RefLL F F' → RefL s s' → s.length = L.length → (∀ l ∈ F, l.length = n) →
    RefLL (framesF L G s F) (framesF L G s' F') ∧ ∀ v ∈ framesF L G s F, v.length = n + L.length + G.length + 1 := by
  intro F
  induction F with
  | nil =>
    intro F' s s' h _ _ _
    cases F' with
    | nil => exact ⟨⟨rfl, fun i h => absurd h (by simp [framesF])⟩, fun v hv => by simp [framesF] at hv⟩
    | cons a b => exact absurd h.1 (by simp)
  | cons i F ih =>
    intro F' s s' h hs ls hn
    cases F' with
    | nil => exact absurd h.1 (by simp)
    | cons i' F' =>
      have hi : RefL i i' := h.2 0 (by simp) (by simp)
      obtain ⟨h1, h2⟩ := RefL.frame hc hs hi ls (hn i (by simp))
      obtain ⟨h3, h4⟩ := ih (F' := F') (s := nextF L (frameF G s i)) (s' := nextF L (frameF G s' i')) ⟨by have := h.1; simpa using this, fun k hk hk' => h.2 (k + 1) (by simp; omega) (by simp; omega)⟩
        (RefL.next hc h1 h2) (nextF_len _ _) (fun l hl => hn l (by simp [hl]))
      refine ⟨⟨by simp [framesF, h3.1], fun k hk hk' => ?_⟩, fun v hv => ?_⟩
      · cases k with
        | zero => exact h1
        | succ k => exact h3.2 k (by simp [framesF] at hk; omega) (by simp [framesF] at hk'; omega)
      · simp only [framesF, List.mem_cons] at hv
        rcases hv with rfl | hv
        · exact h2
        · exact h4 v hv
theorem foldl_and1 {l m : List Int} : ∀ {a b : Int}, Ref a b → RefL l m → Ref (l.foldl and1 a) (m.foldl and1 b) := by
  induction l generalizing m with
  | nil =>
    intro a b h k
    cases m with
    | nil => exact h
    | cons x y => exact absurd k.1 (by simp)
  | cons x l ih =>
    intro a b h k
    cases m with
    | nil => exact absurd k.1 (by simp)
    | cons y m =>
      have h0 : Ref x y := k.2 0 (by simp)
      show Ref (l.foldl F.and1 (F.and1 a x)) (m.foldl F.and1 (F.and1 b y))
      exact ih (h.and1 h0) ⟨by have := k.1; simpa using this, fun i hi => k.2 (i + 1) (by simp; omega)⟩
theorem RefL.asked {K : List Int} {bad : Int} {N : Nat} (hK : ∀ k ∈ K, (k / 2).toNat < N) (hb : (bad / 2).toNat < N) : ∀ {l m : List (List Int)}, RefLL l m → (∀ v ∈ l, v.length = N) → RefL (askedF K bad l) (askedF K bad m) := by
  intro l
  induction l with
  | nil =>
    intro m h _
    cases m with
    | nil => exact RefL.nil
    | cons a b => exact absurd h.1 (by simp)
  | cons v l ih =>
    intro m h hN
    cases m with
    | nil => exact absurd h.1 (by simp)
    | cons v' m =>
      have h0 : RefL v v' := h.2 0 (by simp) (by simp)
      have hv := hN v (by simp)
      have hk : RefL (K.map (F.val v)) (K.map (F.val v')) := RefL.map fun k hk => h0.val (by rw [hv]; exact hK k hk)
      have ht : RefLL l m := ⟨by have := h.1; simpa using this, fun k hk hk' => h.2 (k + 1) (by simp; omega) (by simp; omega)⟩
      cases l with
      | nil =>
        cases m with
        | nil => exact hk.append (RefL.one (h0.val (by rw [hv]; exact hb)))
        | cons a b => exact absurd ht.1 (by simp)
      | cons u l =>
        cases m with
        | nil => exact absurd ht.1 (by simp)
        | cons u' m => exact hk.append (ih ht (fun v hv => hN v (by simp [hv])))
/-- what surely is, is so in each filling; what surely is not, is not -/
theorem surelyF_ref {n : Nat} {L : List S71} {G : List S84} (hc : Lits n L G) {K : List Int} {bad : Int} (hK : ∀ k ∈ K, (k / 2).toNat < n + L.length + G.length + 1) (hb : (bad / 2).toNat < n + L.length + G.length + 1)
    {F F' : List (List Int)} {s s' : List Int} (hF : RefLL F F') (hs : RefL s s') (ls : s.length = L.length) (hn : ∀ l ∈ F, l.length = n) : Ref (surelyF L G K bad s F) (surelyF L G K bad s' F') := by
  obtain ⟨h1, h2⟩ := RefLL.frames hc hF hs ls hn
  exact foldl_and1 ⟨.inr rfl, .inr rfl⟩ (RefL.asked hK hb h1 h2)
end Go.Proofs.YthpnooookkpkaaaDoor.F
namespace Go.Proofs.YthpnooookkpkaaaDoor.F
open Go.RowKit Go.Proofs.YthpnooookkpkaaaDoorW.PrintWords Go.Proofs.YthpnooookkpkaaaDoorW.PrintLast Go.Proofs.YthpnooookkpkaaaDoorW.PrintMore
/-- a part of a list put in the place of another -/
def splice {α : Type} (l : List α) (o : Nat) (seg : List α) : List α := l.take o ++ seg ++ l.drop (o + seg.length)
theorem splice_cons {α : Type} (l : List α) (o : Nat) (v : α) (r : List α) (h : o < l.length) : splice (l.set o v) (o + 1) r = splice l o (v :: r) := by
  unfold splice
  have h1 : (l.set o v).take (o + 1) = l.take o ++ [v] := by
    rw [List.take_succ_eq_append_getElem (by simpa using h), List.take_set_of_le (Nat.le_refl _), List.getElem_set_self]
  have h2 : (l.set o v).drop (o + 1 + r.length) = l.drop (o + (v :: r).length) := by
    rw [List.drop_set_of_lt (by omega), List.length_cons]
    congr 1
    omega
  rw [h1, h2]
  simp
theorem blk_setCells {t g : Nat} (vs : List Value) : ∀ {w : World} {o : Nat} {vals : List Value}, w.heap[g]? = some (.cells vals.toArray t (0, 0)) → o + vs.length ≤ vals.length →
    (w.setCells g o vs).heap[g]? = some (.cells (splice vals o vs).toArray t (0, 0)) := by
  induction vs with
  | nil =>
    intro w o vals h _
    have : splice vals o [] = vals := by simp [splice]
    rw [this]
    exact h
  | cons v r ih =>
    intro w o vals h hl
    rw [List.length_cons] at hl
    have h1 := blk_set h o v
    rw [List.setIfInBounds_toArray] at h1
    have h2 := ih (o := o + 1) h1 (by rw [List.length_set]; omega)
    rw [splice_cons _ _ _ _ (by omega)] at h2
    exact h2
theorem below_setCells {B : Nat} {a : World} (b : Nat) (hb : B ≤ b) : ∀ (vs : List Value) (o : Nat) {w : World}, Below B a w → Below B a (w.setCells b o vs)
  | [], _, _, h => h
  | v :: r, o, _, h => below_setCells b hb r (o + 1) (h.setCell (p := ⟨b, o, none⟩) hb v)
/-- copy(d, s) into a row of bytes of one's own, from o on -/
theorem copy_run (W : World) (h o L C cs : Nat) (d src : Option Addr) (seg vals : List Int) (hb : W.heap[h]? = some (.cells (vals.map (Value.int .u8)).toArray 5 (0, 0))) (ho : o + seg.length ≤ vals.length) (hL : seg.length ≤ L)
    (hd : 0 < seg.length → d = some ⟨h, o, none⟩) (hs : 0 < seg.length → ∃ ad, src = some ad ∧ ∀ i, i < seg.length → W.cell? (ad.add i) = some (.int .u8 (seg.getD i 0))) :
    ∃ W', (Builtin.copy_ #[27, 27] 3 #[.slice d L C, .slice src seg.length cs]).run Tryd.prog W = .ok (.int .i64 (seg.length : Int)) W' ∧
      W'.heap[h]? = some (.cells ((splice vals o seg).map (Value.int .u8)).toArray 5 (0, 0)) ∧ ∀ (B : Nat) (a : World), B ≤ h → Below B a W → Below B a W' := by
  have hz : (Tryd.prog.info? 5).map (·.size) = some 1 := by kernel_rfl
  rcases Nat.eq_zero_or_pos seg.length with h0 | h0
  · obtain rfl : seg = [] := List.length_eq_zero_iff.1 h0
    refine ⟨W, ?_, ?_, fun _ _ _ hh => hh⟩
    · exact run_copy_none (P := Tryd.prog) W 27 27 3 5 d src L C 0 cs Tryd.underlying27 hz (by simp)
    · have : splice vals o [] = vals := by simp [splice]
      rw [this]
      exact hb
  · obtain rfl := hd h0
    obtain ⟨ad, rfl, hc⟩ := hs h0
    have hr := run_copy_cells (P := Tryd.prog) W 27 27 3 5 h o L C ad seg.length cs (seg.map (Value.int .u8)) Tryd.underlying27 hz (by rw [List.length_map]; exact (Nat.min_eq_left hL).symm)
      (fun j v hj => by
        rw [List.getElem?_map] at hj
        obtain ⟨x, hx, rfl⟩ := Option.map_eq_some_iff.1 hj
        have hjl := (List.getElem?_eq_some_iff.1 hx).1
        have := hc j hjl
        rw [List.getD_eq_getElem?_getD, hx] at this
        exact this)
      (fun j hj => by
        rw [List.length_map] at hj
        rw [blk_cell hb]
        simp
        omega)
      (fun j _ => blk_frozen hb _)
      (fun v hv => by obtain ⟨x, _, rfl⟩ := List.mem_map.1 hv; rfl)
    rw [List.length_map] at hr
    refine ⟨_, hr, ?_, fun B a hB hh => below_setCells h hB _ _ hh⟩
    have h2 := blk_setCells (seg.map (Value.int .u8)) (o := o) hb (by simpa using ho)
    have h3 : splice (vals.map (Value.int .u8)) o (seg.map (Value.int .u8)) = (splice vals o seg).map (Value.int .u8) := by
      unfold splice
      simp
    rw [h3] at h2
    exact h2
/-- the new slice, filled up to s -/
def bufL (l : List Int) (s : Nat) : List Int := zeroed (l.take s) ++ List.replicate (l.length - s) 0
theorem bufL_len (l : List Int) (s : Nat) (h : s ≤ l.length) : (bufL l s).length = l.length := by
  unfold bufL zeroed
  simp
  omega
theorem zeroed_app (l m : List Int) : zeroed (l ++ m) = zeroed l ++ zeroed m := by simp [zeroed]
theorem zeroed_len (l : List Int) : (zeroed l).length = l.length := by simp [zeroed]
theorem zeroed_same {l : List Int} (h : ∀ x ∈ l, x ≠ 2) : zeroed l = l := by
  unfold zeroed
  conv => rhs; rw [← List.map_id l]
  exact List.map_congr_left fun x hx => by rw [if_neg (h x hx)]; rfl
theorem splice_mid {α : Type} (a b c seg : List α) (h : seg.length = b.length) : splice (a ++ (b ++ c)) a.length seg = a ++ (seg ++ c) := by
  unfold splice
  rw [List.take_left, h, ← List.append_assoc a b c, ← List.length_append, List.drop_left]
  simp
theorem rep_split (n k : Nat) (h : k ≤ n) : (List.replicate n (0 : Int)) = List.replicate k 0 ++ List.replicate (n - k) 0 := by
  rw [List.replicate_append_replicate]
  congr 1
  omega
/-- one X more -/
theorem buf_step (l : List Int) (s k : Nat) (hk : s + k < l.length) (hx : l[s + k]? = some 2) (hn : ∀ i, i < k → l[s + i]? ≠ some 2) :
    splice (splice (bufL l s) s ((l.drop s).take k)) (s + k) [0] = bufL l (s + k + 1) ∧ (splice (bufL l s) s ((l.drop s).take k)).length = l.length := by
  have hlen : ((l.drop s).take k).length = k := by simp; omega
  have hz : (zeroed (l.take s)).length = s := by rw [zeroed_len]; simp; omega
  have h1 : splice (bufL l s) s ((l.drop s).take k) = zeroed (l.take s) ++ ((l.drop s).take k ++ List.replicate (l.length - s - k) 0) := by
    unfold bufL
    rw [rep_split (l.length - s) k (by omega)]
    have := splice_mid (zeroed (l.take s)) (List.replicate k 0) (List.replicate (l.length - s - k) 0) ((l.drop s).take k) (by rw [hlen]; simp)
    rwa [hz] at this
  have h2 : splice (zeroed (l.take s) ++ ((l.drop s).take k ++ List.replicate (l.length - s - k) 0)) (s + k) [0] = zeroed (l.take s) ++ (l.drop s).take k ++ ([0] ++ List.replicate (l.length - s - k - 1) 0) := by
    rw [rep_split (l.length - s - k) 1 (by omega), ← List.append_assoc]
    have := splice_mid (zeroed (l.take s) ++ (l.drop s).take k) (List.replicate 1 0) (List.replicate (l.length - s - k - 1) 0) [0] (by simp)
    rwa [List.length_append, hz, hlen] at this
  refine ⟨?_, ?_⟩
  · rw [h1, h2]
    unfold bufL
    have ht : l.take (s + k + 1) = l.take s ++ (l.drop s).take k ++ [2] := by
      rw [List.take_add_one, hx, List.take_add]
      rfl
    have hs : zeroed ((l.drop s).take k) = (l.drop s).take k := by
      refine zeroed_same fun x hxm e => ?_
      obtain ⟨i, hi, rfl⟩ := List.getElem_of_mem hxm
      rw [hlen] at hi
      refine hn i hi ?_
      rw [List.getElem_take, List.getElem_drop] at e
      rw [List.getElem?_eq_getElem (by omega), e]
    rw [ht, zeroed_app, zeroed_app, hs]
    have h0 : zeroed [2] = [0] := rfl
    rw [h0, List.append_assoc _ [0]]
    congr 2
    congr 1
    omega
  · rw [h1]
    simp only [List.length_append, hz, hlen, List.length_replicate]
    omega
/-- the rest -/
theorem buf_end (l : List Int) (s : Nat) (h : s ≤ l.length) (hn : (l.drop s).count 2 = 0) : splice (bufL l s) s (l.drop s) = zeroed l := by
  have hz : (zeroed (l.take s)).length = s := by rw [zeroed_len]; simp; omega
  have h1 := splice_mid (zeroed (l.take s)) (List.replicate (l.length - s) 0) [] (l.drop s) (by simp)
  rw [hz] at h1
  unfold bufL
  rw [List.append_nil] at h1
  rw [h1, List.append_nil]
  have hs : zeroed (l.drop s) = l.drop s := zeroed_same fun x hx e => by
    subst e
    exact absurd hn (Nat.pos_iff_ne_zero.1 (List.count_pos_iff.2 hx))
  conv => rhs; rw [← List.take_append_drop s l, zeroed_app, hs]
end Go.Proofs.YthpnooookkpkaaaDoor.F
