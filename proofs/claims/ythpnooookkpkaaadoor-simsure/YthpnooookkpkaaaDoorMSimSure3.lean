/- Texts of this session for the claim of SimSure: functions of the program as plain Lean functions, that the machine's calls come to them, and plain facts of these. -/
import Derived.RangeFuncNested
import Derived.RangeFuncBound
import Derived.RangeFuncCalls
import Derived.RangeFuncLeaves
import Derived.Shelf.Abstract
namespace Go.Proofs.YthpnooookkpkaaaDoor.F
open Go.RowKit

/-- The rounds of a loop over an iterator, where the element that comes can be read in memory (Rd), made since the elder world W0, and can be read so still behind the round; T: what it is, behind those that have come. -/
def Rounds {α : Type} (G : Fence) (m : Nat) (P : Program) (l : Nat) (encs : α → Array Value) (Rd : α → Nat → World → Prop) (T : List α → α → Prop) (B : Nat) (J Jx : List α → World → Prop) : Prop :=
  ∀ (pre : List α) (x : α) (W0 W : World), T pre x → J pre W0 → Below W0.heap.size W0 W → Rd x W0.heap.size W → YieldAt G m P l (encs x) W fun e W' =>
    (e = .returned (.bool true) ∧ J (pre ++ [x]) W' ∧ Below B W W' ∧ Rd x W0.heap.size W') ∨ (e = .returned (.bool false) ∧ Jx (pre ++ [x]) W')

/-- What an iterator owes: all of S comes, or a beginning that Sp tells of, if a round has said 'no more'. -/
def Iterates {α : Type} (G : Fence) (m : Nat) (P : Program) (g : Nat) (lb : Array Value) (encs : α → Array Value) (Rd : α → Nat → World → Prop) (T : List α → α → Prop) (B : Nat) (S Sp : List α → Prop) (w : World) : Prop :=
  ∀ (l : Nat) (J Jx : List α → World → Prop) (W : World), Below w.heap.size w W → AbidesFrom W.heap.size J → AbidesFrom W.heap.size Jx →
    Rounds G (m - 1) P l encs Rd T B J Jx → J [] W →
    CallsIn G m P g (#[.func (.yield l) #[] #[]] ++ lb) W fun e W' => (∃ v, e = .returned v) ∧ ((∃ xs, S xs ∧ J xs W') ∨ (∃ pre, Sp pre ∧ Jx pre W'))

/-- How a round's body is left: at its end, or by a break. -/
def RoundEnds {α : Type} (D B m : Nat) (Rd : α → Nat → World → Prop) (I : List α → World → Prop) (Ix : Nat → List α → World → Prop) (pre : List α) (x : α) (W : World) : Exit → Act → World → Prop
  | .normal, _, W' => KeepsFrom D W W' ∧ Below B W W' ∧ Rd x m W' ∧ I (pre ++ [x]) W'
  | .exit id, _, W' => KeepsFrom D W W' ∧ Ix id (pre ++ [x]) W'
  | _, _, _ => False

theorem blk_from {A B : World} {k : Nat} {o : Obj} (h : Below A.heap.size A B) (hk : A.heap[k]? = some o) : B.heap[k]? = some o := (h.block k (Array.getElem?_eq_some_iff.1 hk).1).trans hk
theorem wpIn_over {G : Fence} {n : Nat} {P : Program} {α : Type} {g : Operand} {ps : Array Tmp} {assign body : Code} {Q : Exit → Act → World → Prop} {a : Act} {w : World}
    (hro : G.round = none) (h1 : 1 ≤ n) {gf : Nat} {lb : Array Value} (hg : a.eval g = .func (.func gf) #[] lb) (hFg : G.fn gf) (eg : ∀ args w, (callFunc gf args).run P w = .ok (.enter gf args) w)
    {encs : α → Array Value} {Rd : α → Nat → World → Prop} {T : List α → α → Prop} {B : Nat} {S Sp : List α → Prop} {w0 : World} (hit : Iterates G (n - 1) P gf lb encs Rd T B S Sp w0) (hB : B ≤ w.heap.size) (hb0 : Below w0.heap.size w0 w) (hps : ∀ x, (encs x).size = ps.size)
    (hRd : ∀ m, OwnFrom w.heap.size (fun x => Rd x m)) (I : List α → World → Prop) (Ix : Nat → List α → World → Prop) (hI : OwnFrom w.heap.size I) (hIx : ∀ c, OwnFrom w.heap.size (Ix c)) (h0 : I [] w) (a₁ : α → Act)
    (hassign : ∀ (l : Nat) (x : α) (W : World) (K : Act → World → Prop), K (a₁ x) W →
      assign.wpIn (G.inRound l) (n - 1 - 1) P (Exit.then K (fun _ _ _ => False)) { tmps := (ps.zip (encs x)).foldl (fun t (p, v) => t.setIfInBounds p v) a.tmps, defers := [] } W)
    (hbody : ∀ (l : Nat) (pre : List α) (x : α) (W0 W : World), T pre x → I pre W0 → Below W0.heap.size W0 W → Rd x W0.heap.size W → body.wpIn (G.inRound l) (n - 1 - 1) P (RoundEnds w.heap.size B W0.heap.size Rd I Ix pre x W) (a₁ x) W)
    (hdone : ∀ (D : Nat) (xs : List α) (W : World), w.heap.size ≤ D → S xs → I xs W → W.heap[D]? = some (.deferred (some [])) → Q .normal { a with defers := { target := .collected D, args := #[] } :: a.defers } W)
    (hstop : ∀ (D : Nat) (id : Nat) (pre : List α) (W : World), w.heap.size ≤ D → Sp pre → Ix id pre W → W.heap[D]? = some (.deferred (some [])) → (Code.exit id).wpIn G n P Q { a with defers := { target := .collected D, args := #[] } :: a.defers } W) :
    (Code.rangeFunc g ps assign body).wpIn G n P Q a w := by
  refine wpIn_rangeFunc fun fn hfn => ?_
  obtain ⟨rc, hrc⟩ : ∃ rc : LoopState → Option Code → Loop, rc = fun s j => { state := s, pending := j, fn, tmps := a.tmps, params := ps, assign, body, defers := w.heap.size } := ⟨_, rfl⟩
  obtain ⟨V, hV⟩ : ∃ V, V = (w.alloc (.deferred (some []))).alloc (.loop (rc .ready none)) := ⟨_, rfl⟩
  have vL : V.heap[w.heap.size + 1]? = some (.loop (rc .ready none)) := by
    have h := World.alloc_heap_new (w.alloc (.deferred (some []))) (.loop (rc .ready none))
    rw [World.size_alloc] at h
    rw [hV]; exact h
  have vD : V.heap[w.heap.size]? = some (.deferred (some [])) := by
    rw [hV]; exact (Below.heap_alloc _ _ _ (by simp)).trans (World.alloc_heap_new w _)
  have vS : w.heap.size ≤ V.heap.size := by rw [hV]; simp; omega
  have keep : ∀ {X Y : World} {row : Option Nat} {k : Nat} {o : Obj}, X.grownBy Y row → (∀ r, row = some r → V.heap.size ≤ r ∧ ∃ o : Obj, X.heap[r]? = some o ∧ o.isWalk = true) → X.heap[k]? = some o → o.isWalk = false → Y.heap[k]? = some o := by
    intro X Y row k o hgr hr hk ho
    refine (hgr.block k (Array.getElem?_eq_some_iff.1 hk).1 (fun e => ?_)).trans hk
    obtain ⟨_, o', h1, h2⟩ := hr k e.symm
    rw [hk] at h1
    obtain rfl := Option.some.inj h1
    rw [ho] at h2
    exact Bool.noConfusion h2
  have own : ∀ {β : Type} {K : β → World → Prop}, OwnFrom w.heap.size K → ∀ (s : β) (X Y : World) (row : Option Nat), K s X → X.grownBy Y row → (∀ r, row = some r → V.heap.size ≤ r ∧ ∃ o : Obj, X.heap[r]? = some o ∧ o.isWalk = true) → K s Y :=
    fun hK s X Y row hs hgr hr => hK s X Y row hs hgr fun r e => by
      obtain ⟨h1, o, h2, h3⟩ := hr r e
      exact ⟨Nat.le_trans vS h1, o, h2, Obj.not_cells_of_walk h3⟩
  rw [hro]
  refine ⟨w.heap.size + 1, [{ target := .collected w.heap.size, args := #[] }], V, { target := .fn (.func gf) lb, args := #[.func (.yield (w.heap.size + 1)) #[] #[]] }, V, gf,
    #[.func (.yield (w.heap.size + 1)) #[] #[]] ++ lb, V, ?_, ?_, ?_, ?_, fun _ => h1, ?_⟩
  · rw [hV, hrc]; exact run_enterLoop_outer _ _ _ _ _
  · simp only [resolve, hg]
    simp [go_sem]
  · intro f' hf'; simp [Target.leads] at hf'; subst hf'; exact hFg
  · simp [invoke, go_sem, eg]
  have turn : ∀ {X : World} (s : LoopState) (j s' j'), X.heap[w.heap.size + 1]? = some (.loop (rc s j)) → X.heap[w.heap.size]? = some (.deferred (some [])) →
      (X.putObj (w.heap.size + 1) (.loop (rc s' j'))).heap[w.heap.size + 1]? = some (.loop (rc s' j')) ∧ (X.putObj (w.heap.size + 1) (.loop (rc s' j'))).heap[w.heap.size]? = some (.deferred (some [])) :=
    fun s j s' j' hl hd => ⟨World.putObj_heap_same (Array.getElem?_eq_some_iff.1 hl).1, (World.putObj_heap_other (by omega)).trans hd⟩
  have below : ∀ {X : World} {o : Obj} (o' : Obj), X.heap[w.heap.size + 1]? = some o → Below B X (X.putObj (w.heap.size + 1) o') := fun {X o} o' hl =>
    (Below.refl B X).grown (grownBy_putObj' X _ o') (by have := (Array.getElem?_eq_some_iff.1 hl).1; omega) (fun k e => by cases e; omega)
  have jump : ∀ {X Y : World} (j : Option Code), KeepsFrom w.heap.size X Y → X.heap[w.heap.size + 1]? = some (.loop (rc .busy none)) → X.heap[w.heap.size]? = some (.deferred (some [])) →
      (Instr.endRound (w.heap.size + 1) j).run P Y = .ok (.bool j.isNone) (Y.putObj (w.heap.size + 1) (.loop (rc (if j.isNone then .ready else .done) j))) ∧
      Y.heap[w.heap.size + 1]? = some (.loop (rc .busy none)) ∧
      (Y.putObj (w.heap.size + 1) (.loop (rc (if j.isNone then .ready else .done) j))).heap[w.heap.size + 1]? = some (.loop (rc (if j.isNone then .ready else .done) j)) ∧
      (Y.putObj (w.heap.size + 1) (.loop (rc (if j.isNone then .ready else .done) j))).heap[w.heap.size]? = some (.deferred (some [])) := by
    intro X Y j hk hl hd
    have hl' := hk.same _ _ (by omega) hl rfl
    have hd' := hk.same _ _ (Nat.le_refl _) hd rfl
    have hr := run_endRound (P := P) j hl'
    rw [hrc] at hr
    have ht := turn _ _ (if j.isNone then .ready else .done) j hl' hd'
    exact ⟨by rw [hrc]; exact hr, hl', ht⟩
  refine (hit (w.heap.size + 1)
    (fun pre X => I pre X ∧ X.heap[w.heap.size + 1]? = some (.loop (rc .ready none)) ∧ X.heap[w.heap.size]? = some (.deferred (some [])))
    (fun pre X => ∃ id, Ix id pre X ∧ X.heap[w.heap.size + 1]? = some (.loop (rc .done (some (.exit id)))) ∧ X.heap[w.heap.size]? = some (.deferred (some [])))
    V (by rw [hV]; exact hb0.trans ((((Below.refl _ w).alloc (Nat.le_refl _) _).alloc (by simp) _).mono hb0.size))
    (fun s X Y row h hgr hr => ⟨own hI s X Y row h.1 hgr hr, keep hgr hr h.2.1 rfl, keep hgr hr h.2.2 rfl⟩)
    (fun s X Y row h hgr hr => by
      obtain ⟨id, h1, h2, h3⟩ := h
      exact ⟨id, own (hIx id) s X Y row h1 hgr hr, keep hgr hr h2 rfl, keep hgr hr h3 rfl⟩)
    ?_ ⟨by rw [hV]; exact hI.alloc _ (hI.alloc _ h0), vL, vD⟩).mono ?_
  · rintro pre x X0 X hT ⟨hi, hl0, hd0⟩ hX hx
    have hl := blk_from hX hl0
    have hd := blk_from hX hd0
    have hy := run_yield (P := P) (args := encs x) hl (by rw [hrc]; exact hps x)
    rw [hrc] at hy
    refine ⟨fn, _, assign, body, hy, roundIn_of_wpIn hfn (hassign _ x X _ ⟨_, run_beginRound hl (by rw [hrc]), ?_⟩)⟩
    have hrb : ({ rc .ready none with state := .busy } : Loop) = rc .busy none := by rw [hrc]
    rw [hrb]
    obtain ⟨hl2, hd2⟩ := turn _ _ .busy none hl hd
    have hX2 : Below (X0.putObj (w.heap.size + 1) (.loop (rc .busy none))).heap.size (X0.putObj (w.heap.size + 1) (.loop (rc .busy none))) (X.putObj (w.heap.size + 1) (.loop (rc .busy none))) := by
      refine ⟨hX.os, hX.tape, hX.output, by simpa using hX.size, fun k hk => ?_⟩
      rw [World.putObj_size] at hk
      by_cases e : k = w.heap.size + 1
      · subst e
        rw [World.putObj_heap_same hk, World.putObj_heap_same (Nat.lt_of_lt_of_le hk hX.size)]
      · rw [World.putObj_heap_other e, World.putObj_heap_other e]
        exact hX.block k hk
    have hb := hbody (w.heap.size + 1) pre x _ _ hT (hI.putObj _ hi (by omega) hl0 rfl) hX2 (by rw [World.putObj_size]; exact (hRd _).putObj _ hx (by omega) hl rfl)
    rw [World.putObj_size] at hb
    refine wpIn_mono hb ?_
    rintro e act Y hp
    cases e with
    | normal =>
      obtain ⟨hk, hb, hx', hi'⟩ := hp
      obtain ⟨hr, hl3, hl4, hd4⟩ := jump none hk hl2 hd2
      exact ⟨_, _, hr, .inl ⟨rfl, ⟨hI.putObj _ hi' (by omega) hl3 rfl, hl4, hd4⟩, ((below _ hl).trans hb).trans (below _ hl3), (hRd _).putObj _ hx' (by omega) hl3 rfl⟩⟩
    | exit id =>
      obtain ⟨hk, hi'⟩ := hp
      obtain ⟨hr, hl3, hl4, hd4⟩ := jump (some (.exit id)) hk hl2 hd2
      exact ⟨_, _, hr, .inr ⟨rfl, id, (hIx id).putObj _ hi' (by omega) hl3 rfl, hl4, hd4⟩⟩
    | ret => exact hp.elim
    | goto t => exact hp.elim
    | panic c => exact hp.elim
    | outgrown => exact hp.elim
  · rintro e X ⟨⟨v, rfl⟩, h⟩
    rcases h with ⟨xs, hS, hi, hl, hd⟩ | ⟨pre, hS, id, hi, hl, hd⟩
    · have hr := run_endLoop (P := P) hl (by rw [hrc]; simp)
      rw [hrc] at hr
      exact ⟨none, _, hr, hdone _ xs _ (Nat.le_refl _) hS (hI.putObj _ hi (by omega) hl rfl) ((World.putObj_heap_other (by omega)).trans hd)⟩
    · have hr := run_endLoop (P := P) hl (by rw [hrc]; simp)
      rw [hrc] at hr
      exact ⟨some (.exit id), _, hr, hstop _ id pre _ (Nat.le_refl _) hS ((hIx id).putObj _ hi (by omega) hl rfl) ((World.putObj_heap_other (by omega)).trans hd)⟩
end Go.Proofs.YthpnooookkpkaaaDoor.F
