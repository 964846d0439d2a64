/- Texts of this session for the claim of SimSure: functions of the program as plain Lean functions, that the machine's calls come to them, and plain facts of these. -/
import Derived.Test.YthpnooookkpkaaaDoorMSimSure0
import Derived.Deep.Slices
import Derived.ChangeArms
namespace Go.Proofs.YthpnooookkpkaaaDoor.F
open Go.ChangeShapes Go.WideShapes Go.RowKit Go.Proofs.YthpnooookkpkaaaDoorW.PrintWords Go.Proofs.YthpnooookkpkaaaDoorW.PrintLast Go.Proofs.YthpnooookkpkaaaDoorW.PrintMore
section
variable {H : Type} {enc : TypeId × Value → H} {P : Program} {w : World} {base : Nat} {spare : Nat → Bool} {held : Bool}
/-- a slice's elements, whatever they are, as a list that can be read -/
theorem C_of_slice {α : Type} {t e fuel : Nat} {cs : List Value} {x : DataW H × List MemPlace} (d : Kd α) (Q : α → Prop) (z : α)
    (ht : P.underlying t = some (.slice e)) (hc : P.cellsOf e = d.sz) (h : DataW.trod enc P w base spare held fuel t cs = some x)
    (he : ∀ (n : Nat) (c : List Value) (y : DataW H × List MemPlace), c.length = d.sz → DataW.trod enc P w base spare held n e c = some y → ∃ p, d.K w p c ∧ Q p) :
    ∃ (A : Option Addr) (c : Nat) (l : List α), cs = [.slice A l.length c] ∧ l.length ≤ c ∧ d.C w A l.length l ∧ ∀ p ∈ l, Q p := by
  rcases Go.Deep.open_slice ht h with ⟨rfl, _⟩ | ⟨a, len, cap, m, n, D, Pl, rfl, _, hl, hm, hmm, _, hx⟩
  · exact ⟨none, 0, [], rfl, Nat.le_refl _, Kd.C_nil d w, by simp⟩
  · have hlm : len ≤ m := by rw [hmm]; split <;> omega
    have each : ∀ i, i < len → ∃ q : α × List Value, w.cells? base (a.add (i * d.sz)) d.sz = some q.2 ∧ d.K w q.1 q.2 ∧ Q q.1 := by
      intro i hi
      obtain ⟨cs', h1, h2⟩ := hx i (by omega)
      rw [hc] at h1
      obtain ⟨_, hlen, _⟩ := World.cells?_some h1
      obtain ⟨p, h3, h4⟩ := he n cs' _ hlen h2
      exact ⟨(p, cs'), h1, h3, h4⟩
    have : Inhabited (α × List Value) := ⟨(z, [])⟩
    obtain ⟨q, hq⟩ := Go.Deep.choose_lt each
    have hlen : ((List.range len).map fun i => (q i).1).length = len := by simp
    refine ⟨some a, cap, (List.range len).map fun i => (q i).1, by rw [hlen], by rw [hlen]; exact hl, ⟨rfl, by rw [hlen]; unfold maxLen at hm; omega, fun _ => ⟨a, rfl, fun j p hj => ?_⟩⟩, fun p hp => ?_⟩
    · have hj' : j < len := by
        have := (List.getElem?_eq_some_iff.mp hj).1
        rwa [hlen] at this
      obtain ⟨h1, h2, _⟩ := hq j hj'
      obtain ⟨_, h3, h4⟩ := World.cells?_some h1
      rw [List.getElem?_map, List.getElem?_range hj'] at hj
      obtain rfl := Option.some.inj hj
      refine ⟨(q j).2, h3, h2, fun i u hu => ?_⟩
      have hi : i < d.sz := by
        have := (List.getElem?_eq_some_iff.mp hu).1
        omega
      have h5 := h4 i hi
      rw [Go.Deep.add_add] at h5
      exact h5.trans hu
    · obtain ⟨i, hi, rfl⟩ := List.mem_map.1 hp
      exact (hq i (List.mem_range.1 hi)).2.2
/-- a field of one cell -/
theorem field_of {t fuel : Nat} {cs : List Value} {x : DataW H × List MemPlace} {fs : Array Field} (ht : P.underlying t = some (.struct fs)) (h : DataW.trod enc P w base spare held fuel t cs = some x)
    (hlen : cs.length = fs.size) (i : Nat) (f : Field) (hf : fs[i]? = some f) (ho : f.offset = i) (hc : P.cellsOf f.type = 1) :
    ∃ v n y, cs[i]? = some v ∧ DataW.trod enc P w base spare held n f.type [v] = some y := by
  obtain ⟨xs, n, _, _, _, hxl, hx⟩ := DataW.trod_struct ht h
  have hi : i < fs.size := (Array.getElem?_eq_some_iff.mp hf).1
  have h1 := hx i f hf
  rw [ho, hc, List.getElem?_eq_getElem (by omega)] at h1
  have h2 : (cs.drop i).take 1 = [cs[i]'(by omega)] := by
    rw [List.drop_eq_getElem_cons (by omega)]
    rfl
  rw [h2] at h1
  exact ⟨_, n, _, List.getElem?_eq_getElem (by omega), h1⟩
end
end Go.Proofs.YthpnooookkpkaaaDoor.F
