/- Texts of this session for the claim of SimSure: functions of the program as plain Lean functions, that the machine's calls come to them, and plain facts of these. -/
import Derived.Test.YthpnooookkpkaaaDoorMSimSure2
import Derived.Shelf.Bytes.SlCountOne
import Derived.Shelf.Bytes.SlIndexAt
namespace Go.Proofs.YthpnooookkpkaaaDoor.F
open Go.Shelf Go.RowKit Go.Proofs.YthpnooookkpkaaaDoorW.PrintWords Go.Proofs.YthpnooookkpkaaaDoorW.PrintLast Go.Proofs.YthpnooookkpkaaaDoorW.PrintMore
set_option maxRecDepth 100000 in
/-- bytes.Count of one byte -/
theorem count_c (A : Option Addr) (l : List Int) (c : Nat) (p : Addr) (d : Nat) (cv : Int) (w : World) (hr : Kd.C (Kd.int .u8) w A l.length l) (hp : w.cell? p = some (.int .u8 cv)) :
    Calls Tryd.prog 152 #[.slice A l.length c, .slice (some p) 1 d] w fun e w' => e = .returned (.int .i64 (Lib.countByte (Lib.bytesOf l) cv.toNat.toUInt8)) ∧ w' = w := by
  have hrun : (Extern.BytealgCount.count #[.slice A l.length c, .int .u8 cv]).run Tryd.prog w = .ok (.int .i64 (Lib.countByte (Lib.bytesOf l) cv.toNat.toUInt8)) w := by
    rcases Nat.eq_zero_or_pos l.length with h0 | h0
    · have hl : l = [] := List.length_eq_zero_iff.1 h0
      subst hl
      cases A with
      | none => exact Lib.run_countNil _ _ _ _
      | some a => exact Lib.run_countAt _ a _ _ _ rfl (fun i hi => absurd hi (Nat.not_lt_zero _)) _
    · obtain ⟨ad, rfl, hc⟩ := u8_cells hr h0
      exact Lib.run_countAt _ ad _ _ _ rfl (fun i hi => by have := hc i hi; simpa [rd] using this) _
  clear hr
  go_enter Tryd.func152, Tryd.ntmps152
  go_wp2
  rw [run_callFunc_extern Tryd.func165 (by kernel_rfl) (by kernel_rfl) (by kernel_rfl) (e := Extern.BytealgCount.count) (by kernel_rfl), hrun]
  simp only [Result.andThen]
  rw [Oper.upon_value]
  go_wp2
  go_ret
  exact ⟨rfl, rfl⟩
set_option maxRecDepth 100000 in
/-- bytes.Index of one byte -/
theorem index_c (A : Option Addr) (l : List Int) (c : Nat) (p : Addr) (d : Nat) (cv : Int) (w : World) (hc : 0 < l.length → ∃ ad, A = some ad ∧ ∀ i, i < l.length → w.cell? (ad.add i) = some (.int .u8 (l.getD i 0))) (hpos : 0 < l.length) (hp : w.cell? p = some (.int .u8 cv)) :
    Calls Tryd.prog 153 #[.slice A l.length c, .slice (some p) 1 d] w fun e w' => e = .returned (.int .i64 (Lib.indexByte (Lib.bytesOf l) cv.toNat.toUInt8)) ∧ w' = w := by
  obtain ⟨ad, rfl, hcc⟩ := hc hpos
  have hrun : (Extern.BytealgIndexByte.indexByte #[.slice (some ad) l.length c, .int .u8 cv]).run Tryd.prog w = .ok (.int .i64 (Lib.indexByte (Lib.bytesOf l) cv.toNat.toUInt8)) w := Lib.run_indexByteAt _ ad _ _ _ rfl hcc _
  have h166 : Calls Tryd.prog 166 #[.slice (some ad) l.length c, .int .u8 cv] w fun e w' => e = .returned (.int .i64 (Lib.indexByte (Lib.bytesOf l) cv.toNat.toUInt8)) ∧ w' = w := by
    go_enter Tryd.func166, Tryd.ntmps166
    go_wp2
    rw [run_callFunc_extern Tryd.func186 (by kernel_rfl) (by kernel_rfl) (by kernel_rfl) (e := Extern.BytealgIndexByte.indexByte) (by kernel_rfl), hrun]
    simp only [Result.andThen]
    rw [Oper.upon_value]
    go_wp2
    go_ret
    exact ⟨rfl, rfl⟩
  have H := Aside0.mk h166
  clear hc hcc hrun h166
  go_enter Tryd.func153, Tryd.ntmps153
  go_wp2_with fail
  refine H.out.mono ?_
  rintro e w' ⟨rfl, rfl⟩
  go_wp2_with fail
  go_ret
  exact ⟨rfl, rfl⟩
theorem byte_eq {x y : Int} (hx : 0 ≤ x ∧ x < 256) (hy : 0 ≤ y ∧ y < 256) : (UInt8.ofNat x.toNat = UInt8.ofNat y.toNat) ↔ x = y := by
  constructor
  · intro h
    have h1 := congrArg UInt8.toNat h
    simp only [UInt8.toNat_ofNat'] at h1
    omega
  · intro h; rw [h]
/-- where the next X is -/
theorem index_of {l : List Int} (hl : ∀ x ∈ l, 0 ≤ x ∧ x < 256) (h : 2 ∈ l) : ∃ k : Nat, Lib.indexByte (Lib.bytesOf l) (2 : Int).toNat.toUInt8 = k ∧ k < l.length ∧ l[k]? = some 2 ∧ ∀ i, i < k → l[i]? ≠ some 2 := by
  induction l with
  | nil => simp at h
  | cons x l ih =>
    have hx := hl x (by simp)
    have hb : (UInt8.ofNat x.toNat == (2 : Int).toNat.toUInt8) = decide (x = 2) := by
      have := byte_eq hx (show (0 : Int) ≤ 2 ∧ (2 : Int) < 256 by decide)
      rw [Bool.eq_iff_iff, beq_iff_eq, decide_eq_true_iff]
      exact this
    show ∃ k : Nat, (if (UInt8.ofNat x.toNat == (2 : Int).toNat.toUInt8) = true then 0 else if (Lib.indexByte (Lib.bytesOf l) (2 : Int).toNat.toUInt8 == -1) = true then -1 else Lib.indexByte (Lib.bytesOf l) (2 : Int).toNat.toUInt8 + 1) = (k : Int) ∧ _
    rw [hb]
    by_cases h2 : x = 2
    · exact ⟨0, by simp [h2], by simp, by simp [h2], fun i hi => absurd hi (Nat.not_lt_zero _)⟩
    · obtain ⟨k, e, hk, hg, hn⟩ := ih (fun y hy => hl y (by simp [hy])) (by simpa [Ne.symm h2] using h)
      refine ⟨k + 1, ?_, by simp; omega, by simpa using hg, fun i hi => ?_⟩
      · rw [decide_eq_false h2, if_neg (by decide), e, if_neg (by simp)]
        simp
      · cases i with
        | zero => simpa using h2
        | succ i => simpa using hn i (by omega)
theorem count_of {l : List Int} (hl : ∀ x ∈ l, 0 ≤ x ∧ x < 256) : Lib.countByte (Lib.bytesOf l) (2 : Int).toNat.toUInt8 = l.count 2 := by
  unfold Lib.countByte Lib.bytesOf
  induction l with
  | nil => rfl
  | cons x l ih =>
    have hx := hl x (by simp)
    rw [List.map_cons, List.count_cons, List.count_cons, ih (fun y hy => hl y (by simp [hy]))]
    congr 1
    have := byte_eq hx (show (0 : Int) ≤ 2 ∧ (2 : Int) < 256 by decide)
    by_cases h2 : x = 2
    · subst h2; rfl
    · rw [if_neg, if_neg (by simpa using h2)]
      simp only [beq_iff_eq]
      exact fun e => h2 (this.1 e)
end Go.Proofs.YthpnooookkpkaaaDoor.F
