/- SuspectRanks: for every input the call returns true, and each argument reads behind it as before. No condition. -/
import Derived.Test.YthpnooookkpkaaaMSuspectRanks0
import Derived.Deep.Slices
import Derived.ChangeArms
import Derived.Test.YthpnooookkpkaaaRows
import Derived.WalkKit
import Derived.ProofKit
import Derived.OpenShut
import Derived.ShutString
import Derived.ChangeOld
import Derived.Below
import Derived.SizedLaws
import Derived.Lib.SmallJoins
import Derived.Test.YthpnooookkpkaaaWSized
namespace Go.Proofs.Ythpnooookkpkaaa.F
open Go.Shelf Go.RowKit Go.Lib Go.Sort Go.Maps Go.Proofs.YthpnooookkpkaaaW.PrintWords Go.Proofs.YthpnooookkpkaaaW.PrintLast Go.Proofs.YthpnooookkpkaaaW.PrintMore
attribute [local go_sem] max2_int min2_int max_two min_two max_three min_three max_four min_four

theorem add0 (a : Addr) : a.add 0 = a := by cases a; rfl
theorem owns_gr {W w : World} {b n : Nat} {D : DataW Unit} (h : W.ownsMap Try.prog 46 (plainElem Try.prog 3) b n D) (g : Gr W w) : w.ownsMap Try.prog 46 (plainElem Try.prog 3) b n D := by
  obtain ⟨es, cl, hb, r⟩ := h
  exact ⟨es, cl, (g.below.block b (Array.getElem?_eq_some_iff.mp hb).1).trans hb, r⟩
theorem Gr.cell' {W w : World} (h : Gr W w) {a : Addr} {v : Value} (hc : W.cell? a = some v) : w.cell? a = some v := by
  refine h.cell hc ?_
  rcases Nat.lt_or_ge a.block W.heap.size with h1 | h1
  · exact h1
  · rw [World.cell?, Array.getElem?_eq_none h1] at hc
    simp at hc
set_option maxRecDepth 100000 in
set_option maxHeartbeats 8000000 in
theorem SuspectRanks_c (A : Option Addr) (l : List S46) (c : Nat) (F P : Int) (byRate : Bool) (w : World) (hr : Kd.C k46 w A l.length l) (hwf : ∀ x ∈ l, wfS x) :
    Calls Try.prog 7 #[.slice A l.length c, .int .i64 F, .int .i64 P, .bool byRate] w fun e w' => e = .returned (.bool true) ∧ RowKit.Below w.heap.size w w' := by
  have hmm := @run_makeMap Try.prog
  have HLIV := Aside0.mk lives33_c
  have HR := Aside0.mk hr
  have HWF := Aside0.mk hwf
  clear hr hwf
  by_cases h200 : (200 : Int) < (l.length : Int)
  · go_enter Try.func7, Try.ntmps7
    go_wp2_with fail
    refine (HLIV.out _).mono ?_
    rintro e w1 ⟨rfl, hb⟩
    have HB := Aside0.mk hb
    clear hb
    go_wp2_with fail
    go_ret
    exact ⟨rfl, HB.out⟩
  · have hl : l.length ≤ 200 := by omega
    have HRK := Aside0.mk (Rank_c A l c F P byRate w HR.out (by omega) (fun x hx => (HWF.out x hx).1))
    go_enter Try.func7, Try.ntmps7
    go_wp2_with fail
    refine HRK.out.mono ?_
    rintro e w1 ⟨hb, ⟨hn, rfl⟩ | ⟨hok, A', c', l', hlc, hcm, hC, rfl, hrk⟩⟩
    · have HB := Aside0.mk hb
      clear hb hn HRK
      go_wp2_with fail
      refine (HLIV.out _).mono ?_
      rintro e w2 ⟨rfl, hb2⟩
      have HB2 := Aside0.mk (below_step HB.out hb2)
      clear hb2
      go_wp2_with fail
      go_ret
      exact ⟨rfl, HB2.out⟩
    · have HB := Aside0.mk hb
      have HOK := Aside0.mk hok
      have HC := Aside0.mk hC
      have HRD := Aside0.mk hrk
      obtain ⟨hlen, hgd, hpw, hpm⟩ := ranked_good hok hrk
      have HGD := Aside0.mk hgd
      have HPW := Aside0.mk hpw
      have HPM := Aside0.mk hpm
      clear hb hok hC hrk hgd hpw hpm HRK
      rw [hlen] at hlc HC ⊢
      go_wp2_with fail
      obtain ⟨wo, hwo⟩ : ∃ wo : World, wo = w1 := ⟨_, rfl⟩
      subst hwo
      go_loopg [49] l.length (fun gg s49 wr => ∃ (kk : Nat) (D : DataW Unit), kk ≤ l.length ∧ l.length - kk ≤ gg ∧ s49 = .int .i64 kk ∧ Aside0 (wr.ownsMap Try.prog 46 (plainElem Try.prog 3) wo.heap.size kk D) ∧ Aside0 (ToldE (SeenE l kk) D) ∧ Aside0 (RowKit.Below wo.heap.size wo wr))
      case atStart => exact ⟨0, .map [], by omega, by omega, rfl, ⟨World.ownsMap_made _ _ _ _⟩, ⟨ToldE.start l⟩, ⟨(RowKit.Below.refl _ _).alloc (Nat.le_refl _) _⟩⟩
      case round =>
        obtain ⟨kk, D, hkk, hgg, rfl, HO, HT, HB1⟩ := hrel
        by_cases hlt : kk < l.length
        · have hltz : (kk : Int) < (l.length : Int) := by omega
          obtain ⟨ad, rfl, h0, h1, h2⟩ := at_T46 (Kd.C_below HR.out (below_step HB.out HB1.out)) (kk : Int) (by omega) (by omega)
          rw [Int.toNat_natCast] at h0 h1 h2
          have hx := HWF.out _ (show rd_T46 l kk ∈ l by rw [rd_mem l kk hlt]; exact List.getElem_mem hlt)
          have hns : ¬ SeenE l kk (rd_T46 l kk) := fun ⟨j, hj, he⟩ => (HOK.out.2 kk hlt).2 j hj (by rw [he])
          have HTS := Aside0.mk (HT.out.tell HO.out.isMap hx)
          have HLEN := Aside0.mk (show kk < maxLen by unfold maxLen; omega)
          obtain ⟨cc, st, we, hat, _, hlk, hme, hge, hlk2, hst⟩ := entry_law (w := (wr.alloc (Obj.cells #[.int .u32 (rd_T46 l kk).f0, .int .i64 (rd_T46 l kk).f1, .int .i64 (rd_T46 l kk).f2] 46)).drew) law46 Try.underlying53 Try.underlying3 zero3 (HO.out.alloc _).drew HLEN.out (kf_key hx)
          obtain rfl := HT.out.out hx hat hns
          obtain ⟨wf2, hes, hown2, hg2⟩ := hst 1 (by decide)
          have HOW := Aside0.mk hown2
          have HG2 := Aside0.mk hg2
          unfold vS at hlk hme hlk2
          clear hat hst hown2 hg2 hns hx hge
          generalize rd_T46 l kk = x at *
          obtain ⟨v, f, p⟩ := x
          simp only at h0 h1 h2 hlk hme hlk2 hes HOW HG2
          go_wp2_with fail
          have hone : IntKind.i64.wrap 1 = 1 := by decide
          go_region_with (fail)
          all_goals go_wp2_with fail
          all_goals go_roundg (l.length - (kk + 1))
          all_goals first
            | omega
            | (exact ⟨kk + 1, _, by omega, by omega, by go_num, HOW, HTS, ⟨RowKit.Below.grown (HB1.out.alloc HB1.out.size _).drew HG2.out (by have := HB1.out.size; simp; omega) (fun j hj => by cases hj; exact Nat.le_refl _)⟩⟩)
        · obtain rfl : kk = l.length := by omega
          have hltz : ¬ ((l.length : Nat) : Int) < ((l.length : Nat) : Int) := by omega
          have HTL := Aside0.mk (show ToldE (LeftE l' 0) D by rw [← funext (fun x => propext (left_of_perm HPM.out x))]; exact HT.out)
          clear HT
          go_wp2_with fail
          obtain ⟨wp, hwp⟩ : ∃ wp : World, wp = wr := ⟨_, rfl⟩
          subst hwp
          go_loopg [62] l.length (fun gg s62 wr => ∃ (kk : Nat) (D : DataW Unit), kk ≤ l.length ∧ l.length - kk ≤ gg ∧ s62 = .int .i64 kk ∧ Aside0 (wr.ownsMap Try.prog 46 (plainElem Try.prog 3) wo.heap.size (l.length + kk) D) ∧ Aside0 (ToldE (LeftE l' kk) D) ∧ Aside0 (RowKit.Below wo.heap.size wo wr))
          case atStart => exact ⟨0, D, by omega, by omega, rfl, HO, HTL, HB1⟩
          case round =>
            clear HO HTL HB1
            obtain ⟨kk, D, hkk, hgg, rfl, HO, HT, HB1⟩ := hrel
            by_cases hlt : kk < l.length
            · have hltz : (kk : Int) < (l.length : Int) := by omega
              obtain ⟨ad, rfl, h0, h1, h2⟩ := at_T46 (Kd.C_below HC.out (HB1.out.mono (Nat.le_refl _))) (kk : Int) (by omega) (by omega)
              rw [Int.toNat_natCast] at h0 h1 h2
              have hltl : kk < l'.length := by omega
              have hx := HWF.out _ (show rd_T46 l' kk ∈ l by rw [rd_mem l' kk hltl]; exact HPM.out.subset (List.getElem_mem hltl))
              have hin : LeftE l' kk (rd_T46 l' kk) := ⟨kk, Nat.le_refl _, hltl, rfl⟩
              have hnot : ¬ LeftE l' (kk + 1) (rd_T46 l' kk) := fun ⟨j, hj, hjl, he⟩ => by
                have hp := HPW.out
                rw [List.pairwise_iff_getElem] at hp
                have := hp kk j hltl hjl (by omega)
                rw [rd_mem l' j hjl, rd_mem l' kk hltl] at he
                exact this (by rw [he])
              have HTS := Aside0.mk (HT.out.strike HO.out.isMap hx hnot)
              have HLEN := Aside0.mk (show l.length + kk < maxLen by unfold maxLen; omega)
              have HK := Aside0.mk (kf_key hx)
              have HIN := Aside0.mk (fun (c : Int) hat => HT.out.in (c := c) hx hat hin)
              clear hx hin hnot
              have htop := fun hF h1 h2 => rank_top HOK.out HRD.out hltl hF h1 h2
              rw [← rd_mem l' kk hltl, ← rd_mem l' 0 (by omega)] at htop
              have hnx : ∀ j : Nat, (hj : kk = j + 1) → 0 ≤ mOf byRate F P (toT (rd_T46 l' (j : Int))) (toT (rd_T46 l' (kk : Int))) ∧ (mOf byRate F P (toT (rd_T46 l' (j : Int))) (toT (rd_T46 l' (kk : Int))) = 0 → (rd_T46 l' (j : Int)).f0 < (rd_T46 l' (kk : Int)).f0) := by
                intro j hj
                have h := rank_next HOK.out HRD.out (show j < kk by omega) hltl
                rwa [← rd_mem l' kk hltl, ← rd_mem l' j (by omega)] at h
              have HNX0 := Aside0.mk hnx
              have HTP := Aside0.mk htop
              clear hnx htop
              generalize rd_T46 l' (kk : Int) = x at *
              generalize hzz : rd_T46 l' ((0 : Nat) : Int) = z at *
              have HZ := Aside0.mk hzz
              clear hzz
              obtain ⟨xv, xf, xp⟩ := x
              obtain ⟨zv, zf, zp⟩ := z
              simp only at h0 h1 h2
              unfold vS at HK
              by_cases hk0 : kk = 0
              · have hkz : decide ((0 : Int) < (kk : Int)) = false := decide_eq_false (by omega)
                have hkn : decide (0 < kk) = false := decide_eq_false (by omega)
                clear hk0 HNX0
                go_wp2_with (first
                  | (at_lookup; refine wpList_lookup_own_int (H := Unit) _ rfl _ _ 53 rfl 46 3 .i64 law46 Try.underlying53 Try.underlying3 (zero3 _) wo.heap.size _ D rfl (HO.out.alloc _) _ _ rfl HK.out ?_; intro c hat hwc; obtain rfl := HIN.out c hat; clear hat hwc)
                  | (at_mapUpdate; refine wpList_mapUpdate_own (H := Unit) _ rfl _ _ _ 53 rfl 46 3 law46 Try.underlying53 (plainElem Try.prog 3) wo.heap.size _ D rfl (HO.out.alloc _) HLEN.out _ _ _ rfl rfl HK.out (.lit (.int .i64 0)) [] (plainElem_int Try.underlying3 rfl) ?_; intro w1 hown1 hgrow1; have HO1 := Aside0.mk hown1; have HB2 := Aside0.mk (RowKit.Below.grown (HB1.out.alloc HB1.out.size _) hgrow1 (by have := HB1.out.size; simp; omega) (fun j hj => by cases hj; exact Nat.le_refl _)); have HGR := Aside0.mk hgrow1; clear hown1 hgrow1; rename World => w1))
                have hbx : w1.heap[wr.heap.size]? = some (.cells #[.int .u32 xv, .int .i64 xf, .int .i64 xp] 46 (0, 0)) := by
                  have hmb : wo.heap.size < wr.heap.size := by
                    obtain ⟨es, cl, hb, _⟩ := HO.out
                    exact (Array.getElem?_eq_some_iff.mp hb).1
                  refine (HGR.out.block wr.heap.size (by simp) (by simp; omega)).trans ?_
                  exact blk_new wr _
                have HBX := Aside0.mk hbx
                clear hbx h0 h1 h2
                have x0 : w1.cell? ⟨wr.heap.size, 0, none⟩ = some (.int .u32 xv) := (blk_cell HBX.out 0).trans rfl
                have x1 : w1.cell? ⟨wr.heap.size, 1, none⟩ = some (.int .i64 xf) := (blk_cell HBX.out 1).trans rfl
                have x2 : w1.cell? ⟨wr.heap.size, 2, none⟩ = some (.int .i64 xp) := (blk_cell HBX.out 2).trans rfl
                have hN0 := fun W => Near_c (zv, zf, zp) (xv, xf, xp) W
                have hR0 := fun W => Rate_c (zv, zf, zp) (xv, xf, xp) F P W
                have hw1 : wth F = F := wth_id ⟨HOK.out.1.1, HOK.out.1.2.1⟩
                have hw2 : wth P = P := wth_id ⟨HOK.out.1.2.2.1, HOK.out.1.2.2.2⟩
                simp only [encS, hw1, hw2] at hN0 hR0
                have HN0 := Aside0.mk hN0
                have HR0 := Aside0.mk hR0
                clear hN0 hR0 hw1 hw2
                cases byRate
                · skip
                  by_cases hxf : xf = F
                  · have ef : (xf == F) = true := by simp [hxf]
                    by_cases hxp : xp = 0
                    · have ep : (xp == 0) = true := by simp [hxp]
                      by_cases hF : 0 < F
                      · have eF : decide (0 < F) = true := decide_eq_true hF
                        have hcall : nearC (zv, zf, zp) (xv, xf, xp) = 0 := by
                          have := HTP.out hF hxf hxp
                          simpa [mOf, toT] using this
                        have HC1 := Aside0.mk (fun W => by
                          have h := HN0.out W
                          rw [hcall] at h
                          exact h)
                        clear hcall
                        obtain ⟨ad2, hA2, z0, z1, z2⟩ := at_T46 (Kd.C_below HC.out HB2.out) ((0 : Nat) : Int) (by omega) (by omega)
                        injection hA2 with hA2
                        subst hA2
                        rw [Int.toNat_natCast, HZ.out, Nat.zero_mul, add0] at z0 z1 z2
                        simp only at z0 z1 z2
                        have h0l : (0 : Int) < (l.length : Int) := by omega
                        have h0n : 0 < l.length := by omega
                        have hnt : (!true) = false := rfl
                        clear hxf hxp hF
                        refine wp_region_held_drew (S := fun W => Gr w1 W ∧ W.cell? ad = some (.int .u32 zv) ∧ W.cell? ⟨ad.block, ad.off + 1, none⟩ = some (.int .i64 zf) ∧ W.cell? ⟨ad.block, ad.off + 2, none⟩ = some (.int .i64 zp) ∧ W.cell? ⟨wr.heap.size, 0, none⟩ = some (.int .u32 xv) ∧ W.cell? ⟨wr.heap.size, 1, none⟩ = some (.int .i64 xf) ∧ W.cell? ⟨wr.heap.size, 2, none⟩ = some (.int .i64 xp)) (by kernel_rfl) (by first | (refine ⟨(Gr.refl _).drew, ?_, ?_, ?_, ?_, ?_, ?_⟩ <;> (simp; assumption)) | (refine ⟨((Gr.refl _).drewN _).drew, ?_, ?_, ?_, ?_, ?_, ?_⟩ <;> (simp; assumption))) (fun hHeld => ?_)
                        refine wpAnyH_take (i := 0) (v := ?_) rfl (by kernel_rfl) (by kernel_rfl) (by kernel_rfl) (fun _ _ _ h => h) (Or.inl ⟨by rfl, ?_⟩) (by assumption) ?_
                        rotate_left
                        · intro w hSw
                          go_simp
                          try with_reducible rfl
                        simp only [List.getElem_toArray, List.getElem_cons_zero, Act.put, List.setIfInBounds_toArray, List.set_cons_zero, List.set_cons_succ]
                        refine wpAnyH_take (i := 1) (v := ?_) rfl (by kernel_rfl) (by kernel_rfl) (by kernel_rfl) (fun _ _ _ h => h) (Or.inl ⟨by rfl, ?_⟩) (by assumption) ?_
                        rotate_left
                        · intro w hSw
                          go_simp
                          try with_reducible rfl
                        simp only [List.getElem_toArray, List.getElem_cons_succ, List.getElem_cons_zero, Act.put, List.setIfInBounds_toArray, List.set_cons_zero, List.set_cons_succ]
                        refine wpAnyH_take (i := 2) (v := ?_) rfl (by kernel_rfl) (by kernel_rfl) (by kernel_rfl) (fun _ _ _ h => h) (Or.inl ⟨by rfl, ?_⟩) (by assumption) ?_
                        rotate_left
                        · intro w hSw
                          go_simp
                          try with_reducible rfl
                        simp only [List.getElem_toArray, List.getElem_cons_succ, List.getElem_cons_zero, Act.put, List.setIfInBounds_toArray, List.set_cons_zero, List.set_cons_succ]
                        refine wpAnyH_take (i := 3) (v := ?_) rfl (by kernel_rfl) (by kernel_rfl) (by kernel_rfl) (fun _ _ _ h => h) (Or.inl ⟨by rfl, ?_⟩) (by assumption) ?_
                        rotate_left
                        · intro w hSw
                          go_simp
                          try with_reducible rfl
                        simp only [List.getElem_toArray, List.getElem_cons_succ, List.getElem_cons_zero, Act.put, List.setIfInBounds_toArray, List.set_cons_zero, List.set_cons_succ]
                        refine wpAnyH_take (i := 4) (v := ?_) rfl (by kernel_rfl) (by kernel_rfl) (by kernel_rfl) (fun _ _ _ h => h) (Or.inl ⟨by rfl, ?_⟩) (by assumption) ?_
                        rotate_left
                        · intro w hSw
                          go_simp
                          try with_reducible rfl
                        simp only [List.getElem_toArray, List.getElem_cons_succ, List.getElem_cons_zero, Act.put, List.setIfInBounds_toArray, List.set_cons_zero, List.set_cons_succ]
                        refine wpAnyH_take (i := 5) (v := ?_) rfl (by kernel_rfl) (by kernel_rfl) (by kernel_rfl) (fun _ _ _ h => h) (Or.inl ⟨by rfl, ?_⟩) (by assumption) ?_
                        rotate_left
                        · intro w hSw
                          go_simp
                          try with_reducible rfl
                        simp only [List.getElem_toArray, List.getElem_cons_succ, List.getElem_cons_zero, Act.put, List.setIfInBounds_toArray, List.set_cons_zero, List.set_cons_succ]
                        refine wpAnyH_take (i := 6) (v := ?_) rfl (by kernel_rfl) (by kernel_rfl) (by kernel_rfl) (fun _ _ _ h => h) (Or.inl ⟨by rfl, ?_⟩) (by assumption) ?_
                        rotate_left
                        · intro w hSw
                          go_simp
                          try with_reducible rfl
                        simp only [List.getElem_toArray, List.getElem_cons_succ, List.getElem_cons_zero, Act.put, List.setIfInBounds_toArray, List.set_cons_zero, List.set_cons_succ]
                        refine wpAnyH_take (i := 7) (v := ?_) rfl (by kernel_rfl) (by kernel_rfl) (by kernel_rfl) (fun _ _ _ h => h) (Or.inl ⟨by rfl, ?_⟩) (by assumption) ?_
                        rotate_left
                        · intro w hSw
                          go_simp
                          try with_reducible rfl
                        simp only [List.getElem_toArray, List.getElem_cons_succ, List.getElem_cons_zero, Act.put, List.setIfInBounds_toArray, List.set_cons_zero, List.set_cons_succ]
                        refine wpAnyH_take (i := 8) (v := ?_) rfl (by kernel_rfl) (by kernel_rfl) (by kernel_rfl) (fun _ _ _ h => h) (Or.inl ⟨by rfl, ?_⟩) (by assumption) ?_
                        rotate_left
                        · intro w hSw
                          go_simp
                          try with_reducible rfl
                        simp only [List.getElem_toArray, List.getElem_cons_succ, List.getElem_cons_zero, Act.put, List.setIfInBounds_toArray, List.set_cons_zero, List.set_cons_succ]
                        refine wpAnyH_take (i := 9) (v := ?_) rfl (by kernel_rfl) (by kernel_rfl) (by kernel_rfl) (fun _ _ _ h => h) (Or.inl ⟨by rfl, ?_⟩) (by assumption) ?_
                        rotate_left
                        · intro w hSw
                          go_simp
                          try with_reducible rfl
                        simp only [List.getElem_toArray, List.getElem_cons_succ, List.getElem_cons_zero, Act.put, List.setIfInBounds_toArray, List.set_cons_zero, List.set_cons_succ]
                        refine wpAnyH_take (i := 10) (v := ?_) rfl (by kernel_rfl) (by kernel_rfl) (by kernel_rfl) (fun _ _ _ h => h) (Or.inl ⟨by rfl, ?_⟩) (by assumption) ?_
                        rotate_left
                        · intro w hSw
                          go_simp
                          try with_reducible rfl
                        simp only [List.getElem_toArray, List.getElem_cons_succ, List.getElem_cons_zero, Act.put, List.setIfInBounds_toArray, List.set_cons_zero, List.set_cons_succ]
                        refine wpAnyH_take (i := 11) (v := ?_) rfl (by kernel_rfl) (by kernel_rfl) (by kernel_rfl) (fun _ _ _ h => h) (Or.inl ⟨by rfl, ?_⟩) (by assumption) ?_
                        rotate_left
                        · intro w hSw
                          go_simp
                          try with_reducible rfl
                        simp only [List.getElem_toArray, List.getElem_cons_succ, List.getElem_cons_zero, Act.put, List.setIfInBounds_toArray, List.set_cons_zero, List.set_cons_succ]
                        refine wpAnyH_take (i := 12) (v := ?_) rfl (by kernel_rfl) (by kernel_rfl) (by kernel_rfl) (fun _ _ _ h => h) (Or.inl ⟨by rfl, ?_⟩) (by assumption) ?_
                        rotate_left
                        · intro w hSw
                          go_simp
                          try with_reducible rfl
                        simp only [List.getElem_toArray, List.getElem_cons_succ, List.getElem_cons_zero, Act.put, List.setIfInBounds_toArray, List.set_cons_zero, List.set_cons_succ]
                        refine wpAnyH_take (i := 13) (v := ?_) rfl (by kernel_rfl) (by kernel_rfl) (by kernel_rfl) (fun _ _ _ h => h) (Or.inl ⟨by rfl, ?_⟩) (by assumption) ?_
                        rotate_left
                        · intro w hSw
                          go_simp
                          try with_reducible rfl
                        simp only [List.getElem_toArray, List.getElem_cons_succ, List.getElem_cons_zero, Act.put, List.setIfInBounds_toArray, List.set_cons_zero, List.set_cons_succ]
                        refine wpAnyH_take (i := 14) (v := ?_) rfl (by kernel_rfl) (by kernel_rfl) (by kernel_rfl) (fun _ _ _ h => h) (Or.inl ⟨by rfl, ?_⟩) (by assumption) ?_
                        rotate_left
                        · intro w hSw
                          go_simp
                          try with_reducible rfl
                        simp only [List.getElem_toArray, List.getElem_cons_succ, List.getElem_cons_zero, Act.put, List.setIfInBounds_toArray, List.set_cons_zero, List.set_cons_succ]
                        refine wpAnyH_take (i := 15) (v := ?_) rfl (by kernel_rfl) (by kernel_rfl) (by kernel_rfl) (fun _ _ _ h => h) (Or.inl ⟨by rfl, ?_⟩) (by assumption) ?_
                        rotate_left
                        · intro w hSw
                          go_simp
                          try with_reducible rfl
                        simp only [List.getElem_toArray, List.getElem_cons_succ, List.getElem_cons_zero, Act.put, List.setIfInBounds_toArray, List.set_cons_zero, List.set_cons_succ]
                        refine wpAnyH_take (i := 16) (v := ?_) rfl (by kernel_rfl) (by kernel_rfl) (by kernel_rfl) (fun _ _ _ h => h) (Or.inl ⟨by rfl, ?_⟩) (by assumption) ?_
                        rotate_left
                        · intro w hSw
                          go_simp
                          try with_reducible rfl
                        simp only [List.getElem_toArray, List.getElem_cons_succ, List.getElem_cons_zero, Act.put, List.setIfInBounds_toArray, List.set_cons_zero, List.set_cons_succ]
                        refine wpAnyH_take (i := 17) (v := ?_) rfl (by kernel_rfl) (by kernel_rfl) (by kernel_rfl) (fun _ _ _ h => h) (Or.inl ⟨by rfl, ?_⟩) (by assumption) ?_
                        rotate_left
                        · intro w hSw
                          go_simp
                          try with_reducible rfl
                        simp only [List.getElem_toArray, List.getElem_cons_succ, List.getElem_cons_zero, Act.put, List.setIfInBounds_toArray, List.set_cons_zero, List.set_cons_succ]
                        refine wpAnyH_take (i := 18) (v := ?_) rfl (by kernel_rfl) (by kernel_rfl) (by kernel_rfl) (fun _ _ _ h => h) (Or.inl ⟨by rfl, ?_⟩) (by assumption) ?_
                        rotate_left
                        · intro w hSw
                          go_simp
                          try with_reducible rfl
                        simp only [List.getElem_toArray, List.getElem_cons_succ, List.getElem_cons_zero, Act.put, List.setIfInBounds_toArray, List.set_cons_zero, List.set_cons_succ]
                        refine wpAnyH_take (i := 19) (v := ?_) rfl (by kernel_rfl) (by kernel_rfl) (by kernel_rfl) (fun _ _ _ h => h) (Or.inl ⟨by rfl, ?_⟩) (by assumption) ?_
                        rotate_left
                        · intro w hSw
                          go_simp
                          try with_reducible rfl
                        simp only [List.getElem_toArray, List.getElem_cons_succ, List.getElem_cons_zero, Act.put, List.setIfInBounds_toArray, List.set_cons_zero, List.set_cons_succ]
                        refine wpAnyH_take (i := 20) (v := ?_) rfl (by kernel_rfl) (by kernel_rfl) (by kernel_rfl) (fun _ _ _ h => h) (Or.inl ⟨by rfl, ?_⟩) (by assumption) ?_
                        rotate_left
                        · intro w hSw
                          go_simp
                          try with_reducible rfl
                        simp only [List.getElem_toArray, List.getElem_cons_succ, List.getElem_cons_zero, Act.put, List.setIfInBounds_toArray, List.set_cons_zero, List.set_cons_succ]
                        refine wpAnyH_ready (rs := [21]) (by kernel_rfl) (by simp) ?_
                        refine AllReadyH.cons rfl (fun K hK => ?_) AllReadyH.nil
                        go_simp
                        go_at_call 32
                        refine (HC1.out _).mono ?_
                        rintro e w9 ⟨rfl, hg⟩
                        have hS := (show (fun W => Gr w1 W ∧ W.cell? ad = some (.int .u32 zv) ∧ W.cell? ⟨ad.block, ad.off + 1, none⟩ = some (.int .i64 zf) ∧ W.cell? ⟨ad.block, ad.off + 2, none⟩ = some (.int .i64 zp) ∧ W.cell? ⟨wr.heap.size, 0, none⟩ = some (.int .u32 xv) ∧ W.cell? ⟨wr.heap.size, 1, none⟩ = some (.int .i64 xf) ∧ W.cell? ⟨wr.heap.size, 2, none⟩ = some (.int .i64 xp)) w9 from ⟨(by first | exact (Gr.refl _).drew.trans hg | exact ((Gr.refl _).drewN _).drew.trans hg), hg.cell' (by simp; assumption), hg.cell' (by simp; assumption), hg.cell' (by simp; assumption), hg.cell' (by simp; assumption), hg.cell' (by simp; assumption), hg.cell' (by simp; assumption)⟩)
                        have HG9 := Aside0.mk hS.1
                        clear hg hHeld
                        go_wp2_with fail
                        refine hK.out _ _ hS (fun hHeld => ?_)
                        clear hK K hS
                        refine wpAnyH_take (i := 22) (v := ?_) rfl (by kernel_rfl) (by kernel_rfl) (by kernel_rfl) (fun _ _ _ h => h) (Or.inl ⟨by rfl, ?_⟩) (by assumption) ?_
                        rotate_left
                        · intro w hSw
                          go_simp
                          try with_reducible rfl
                        simp only [List.getElem_toArray, List.getElem_cons_succ, List.getElem_cons_zero, Act.put, List.setIfInBounds_toArray, List.set_cons_zero, List.set_cons_succ]
                        refine wpAnyH_take (i := 23) (v := ?_) rfl (by kernel_rfl) (by kernel_rfl) (by kernel_rfl) (fun _ _ _ h => h) (Or.inl ⟨by rfl, ?_⟩) (by assumption) ?_
                        rotate_left
                        · intro w hSw
                          go_simp
                          try with_reducible rfl
                        simp only [List.getElem_toArray, List.getElem_cons_succ, List.getElem_cons_zero, Act.put, List.setIfInBounds_toArray, List.set_cons_zero, List.set_cons_succ]
                        refine wpAnyH_take (i := 24) (v := ?_) rfl (by kernel_rfl) (by kernel_rfl) (by kernel_rfl) (fun _ _ _ h => h) (Or.inl ⟨by rfl, ?_⟩) (by assumption) ?_
                        rotate_left
                        · intro w hSw
                          go_simp
                          try with_reducible rfl
                        simp only [List.getElem_toArray, List.getElem_cons_succ, List.getElem_cons_zero, Act.put, List.setIfInBounds_toArray, List.set_cons_zero, List.set_cons_succ]
                        refine wpAnyH_take (i := 25) (v := ?_) rfl (by kernel_rfl) (by kernel_rfl) (by kernel_rfl) (fun _ _ _ h => h) (Or.inl ⟨by rfl, ?_⟩) (by assumption) ?_
                        rotate_left
                        · intro w hSw
                          go_simp
                          try with_reducible rfl
                        simp only [List.getElem_toArray, List.getElem_cons_succ, List.getElem_cons_zero, Act.put, List.setIfInBounds_toArray, List.set_cons_zero, List.set_cons_succ]
                        refine wpAnyH_take (i := 26) (v := ?_) rfl (by kernel_rfl) (by kernel_rfl) (by kernel_rfl) (fun _ _ _ h => h) (Or.inl ⟨by rfl, ?_⟩) (by assumption) ?_
                        rotate_left
                        · intro w hSw
                          go_simp
                          try with_reducible rfl
                        simp only [List.getElem_toArray, List.getElem_cons_succ, List.getElem_cons_zero, Act.put, List.setIfInBounds_toArray, List.set_cons_zero, List.set_cons_succ]
                        refine wpAnyH_take (i := 27) (v := _) rfl (by kernel_rfl) (by kernel_rfl) (by kernel_rfl) (fun _ _ _ h => h) (Or.inr ⟨by rfl, rfl⟩) (by assumption) ?_
                        simp only [List.getElem_toArray, List.getElem_cons_succ, List.getElem_cons_zero, Act.put, List.setIfInBounds_toArray, List.set_cons_zero, List.set_cons_succ]
                        refine wpAnyH_take (i := 28) (v := _) rfl (by kernel_rfl) (by kernel_rfl) (by kernel_rfl) (fun _ _ _ h => h) (Or.inr ⟨by rfl, rfl⟩) (by assumption) ?_
                        simp only [List.getElem_toArray, List.getElem_cons_succ, List.getElem_cons_zero, Act.put, List.setIfInBounds_toArray, List.set_cons_zero, List.set_cons_succ]
                        refine wpAnyH_take (i := 29) (v := _) rfl (by kernel_rfl) (by kernel_rfl) (by kernel_rfl) (fun _ _ _ h => h) (Or.inr ⟨by rfl, rfl⟩) (by assumption) ?_
                        simp only [List.getElem_toArray, List.getElem_cons_succ, List.getElem_cons_zero, Act.put, List.setIfInBounds_toArray, List.set_cons_zero, List.set_cons_succ]
                        refine wpAnyH_take (i := 30) (v := _) rfl (by kernel_rfl) (by kernel_rfl) (by kernel_rfl) (fun _ _ _ h => h) (Or.inr ⟨by rfl, rfl⟩) (by assumption) ?_
                        simp only [List.getElem_toArray, List.getElem_cons_succ, List.getElem_cons_zero, Act.put, List.setIfInBounds_toArray, List.set_cons_zero, List.set_cons_succ]
                        refine wpAnyH_take (i := 31) (v := _) rfl (by kernel_rfl) (by kernel_rfl) (by kernel_rfl) (fun _ _ _ h => h) (Or.inr ⟨by rfl, rfl⟩) (by assumption) ?_
                        simp only [List.getElem_toArray, List.getElem_cons_succ, List.getElem_cons_zero, Act.put, List.setIfInBounds_toArray, List.set_cons_zero, List.set_cons_succ]
                        refine wpAnyH_take (i := 32) (v := _) rfl (by kernel_rfl) (by kernel_rfl) (by kernel_rfl) (fun _ _ _ h => h) (Or.inr ⟨by rfl, rfl⟩) (by assumption) ?_
                        simp only [List.getElem_toArray, List.getElem_cons_succ, List.getElem_cons_zero, Act.put, List.setIfInBounds_toArray, List.set_cons_zero, List.set_cons_succ]
                        refine wpAnyH_take (i := 33) (v := _) rfl (by kernel_rfl) (by kernel_rfl) (by kernel_rfl) (fun _ _ _ h => h) (Or.inr ⟨by rfl, rfl⟩) (by assumption) ?_
                        simp only [List.getElem_toArray, List.getElem_cons_succ, List.getElem_cons_zero, Act.put, List.setIfInBounds_toArray, List.set_cons_zero, List.set_cons_succ]
                        refine wpAnyH_take (i := 34) (v := _) rfl (by kernel_rfl) (by kernel_rfl) (by kernel_rfl) (fun _ _ _ h => h) (Or.inr ⟨by rfl, rfl⟩) (by assumption) ?_
                        simp only [List.getElem_toArray, List.getElem_cons_succ, List.getElem_cons_zero, Act.put, List.setIfInBounds_toArray, List.set_cons_zero, List.set_cons_succ]
                        refine wpAnyH_take (i := 35) (v := ?_) rfl (by kernel_rfl) (by kernel_rfl) (by kernel_rfl) (fun _ _ _ h => h) (Or.inl ⟨by rfl, ?_⟩) (by assumption) ?_
                        rotate_left
                        · intro w hSw
                          go_simp
                          try with_reducible rfl
                        simp only [List.getElem_toArray, List.getElem_cons_succ, List.getElem_cons_zero, Act.put, List.setIfInBounds_toArray, List.set_cons_zero, List.set_cons_succ]
                        refine wpAnyH_take (i := 36) (v := ?_) rfl (by kernel_rfl) (by kernel_rfl) (by kernel_rfl) (fun _ _ _ h => h) (Or.inl ⟨by rfl, ?_⟩) (by assumption) ?_
                        rotate_left
                        · intro w hSw
                          go_simp
                          try with_reducible rfl
                        simp only [List.getElem_toArray, List.getElem_cons_succ, List.getElem_cons_zero, Act.put, List.setIfInBounds_toArray, List.set_cons_zero, List.set_cons_succ]
                        refine wpAnyH_take (i := 37) (v := ?_) rfl (by kernel_rfl) (by kernel_rfl) (by kernel_rfl) (fun _ _ _ h => h) (Or.inl ⟨by rfl, ?_⟩) (by assumption) ?_
                        rotate_left
                        · intro w hSw
                          go_simp
                          try with_reducible rfl
                        simp only [List.getElem_toArray, List.getElem_cons_succ, List.getElem_cons_zero, Act.put, List.setIfInBounds_toArray, List.set_cons_zero, List.set_cons_succ]
                        refine wpAnyH_done (by kernel_rfl) ?_ _
                        have HB9 := Aside0.mk ((HB2.out).trans (HG9.out.below.mono (HB2.out).size))
                        go_wp2_with fail
                        go_roundg (l.length - (kk + 1))
                        case measure => omega
                        case rel => exact ⟨kk + 1, _, by omega, by omega, by go_num, ⟨owns_gr HO1.out (by first | exact (((Gr.refl w1)).trans HG9.out) | exact (((Gr.refl w1)).trans HG9.out).drewN _)⟩, HTS, ⟨by first | exact HB9.out | exact pw_below_drewN HB9.out _⟩⟩
                      · have eF : decide (0 < F) = false := decide_eq_false hF
                        clear hxf hxp hF
                        go_quiet (fail)
                        go_wp2_with fail
                        go_roundg (l.length - (kk + 1))
                        case measure => omega
                        case rel => exact ⟨kk + 1, _, by omega, by omega, by go_num, ⟨owns_gr HO1.out (by first | exact (Gr.refl w1) | exact (Gr.refl w1).drewN _)⟩, HTS, ⟨by first | exact HB2.out | exact pw_below_drewN HB2.out _⟩⟩
                    · have ep : (xp == 0) = false := by simp [hxp]
                      clear hxf hxp
                      go_quiet (fail)
                      go_wp2_with fail
                      go_roundg (l.length - (kk + 1))
                      case measure => omega
                      case rel => exact ⟨kk + 1, _, by omega, by omega, by go_num, ⟨owns_gr HO1.out (by first | exact (Gr.refl w1) | exact (Gr.refl w1).drewN _)⟩, HTS, ⟨by first | exact HB2.out | exact pw_below_drewN HB2.out _⟩⟩
                  · have ef : (xf == F) = false := by simp [hxf]
                    clear hxf
                    go_quiet (fail)
                    go_wp2_with fail
                    go_roundg (l.length - (kk + 1))
                    case measure => omega
                    case rel => exact ⟨kk + 1, _, by omega, by omega, by go_num, ⟨owns_gr HO1.out (by first | exact (Gr.refl w1) | exact (Gr.refl w1).drewN _)⟩, HTS, ⟨by first | exact HB2.out | exact pw_below_drewN HB2.out _⟩⟩
                · skip
                  by_cases hxf : xf = F
                  · have ef : (xf == F) = true := by simp [hxf]
                    by_cases hxp : xp = 0
                    · have ep : (xp == 0) = true := by simp [hxp]
                      by_cases hF : 0 < F
                      · have eF : decide (0 < F) = true := decide_eq_true hF
                        have hcall : rateC F P (zv, zf, zp) (xv, xf, xp) = 0 := by
                          have := HTP.out hF hxf hxp
                          simpa [mOf, toT] using this
                        have HC1 := Aside0.mk (fun W => by
                          have h := HR0.out W
                          rw [hcall] at h
                          exact h)
                        clear hcall
                        obtain ⟨ad2, hA2, z0, z1, z2⟩ := at_T46 (Kd.C_below HC.out HB2.out) ((0 : Nat) : Int) (by omega) (by omega)
                        injection hA2 with hA2
                        subst hA2
                        rw [Int.toNat_natCast, HZ.out, Nat.zero_mul, add0] at z0 z1 z2
                        simp only at z0 z1 z2
                        have h0l : (0 : Int) < (l.length : Int) := by omega
                        have h0n : 0 < l.length := by omega
                        have hnt : (!true) = false := rfl
                        clear hxf hxp hF
                        refine wp_region_held_drew (S := fun W => Gr w1 W ∧ W.cell? ad = some (.int .u32 zv) ∧ W.cell? ⟨ad.block, ad.off + 1, none⟩ = some (.int .i64 zf) ∧ W.cell? ⟨ad.block, ad.off + 2, none⟩ = some (.int .i64 zp) ∧ W.cell? ⟨wr.heap.size, 0, none⟩ = some (.int .u32 xv) ∧ W.cell? ⟨wr.heap.size, 1, none⟩ = some (.int .i64 xf) ∧ W.cell? ⟨wr.heap.size, 2, none⟩ = some (.int .i64 xp)) (by kernel_rfl) (by first | (refine ⟨(Gr.refl _).drew, ?_, ?_, ?_, ?_, ?_, ?_⟩ <;> (simp; assumption)) | (refine ⟨((Gr.refl _).drewN _).drew, ?_, ?_, ?_, ?_, ?_, ?_⟩ <;> (simp; assumption))) (fun hHeld => ?_)
                        refine wpAnyH_take (i := 0) (v := ?_) rfl (by kernel_rfl) (by kernel_rfl) (by kernel_rfl) (fun _ _ _ h => h) (Or.inl ⟨by rfl, ?_⟩) (by assumption) ?_
                        rotate_left
                        · intro w hSw
                          go_simp
                          try with_reducible rfl
                        simp only [List.getElem_toArray, List.getElem_cons_zero, Act.put, List.setIfInBounds_toArray, List.set_cons_zero, List.set_cons_succ]
                        refine wpAnyH_take (i := 1) (v := ?_) rfl (by kernel_rfl) (by kernel_rfl) (by kernel_rfl) (fun _ _ _ h => h) (Or.inl ⟨by rfl, ?_⟩) (by assumption) ?_
                        rotate_left
                        · intro w hSw
                          go_simp
                          try with_reducible rfl
                        simp only [List.getElem_toArray, List.getElem_cons_succ, List.getElem_cons_zero, Act.put, List.setIfInBounds_toArray, List.set_cons_zero, List.set_cons_succ]
                        refine wpAnyH_take (i := 2) (v := ?_) rfl (by kernel_rfl) (by kernel_rfl) (by kernel_rfl) (fun _ _ _ h => h) (Or.inl ⟨by rfl, ?_⟩) (by assumption) ?_
                        rotate_left
                        · intro w hSw
                          go_simp
                          try with_reducible rfl
                        simp only [List.getElem_toArray, List.getElem_cons_succ, List.getElem_cons_zero, Act.put, List.setIfInBounds_toArray, List.set_cons_zero, List.set_cons_succ]
                        refine wpAnyH_take (i := 3) (v := ?_) rfl (by kernel_rfl) (by kernel_rfl) (by kernel_rfl) (fun _ _ _ h => h) (Or.inl ⟨by rfl, ?_⟩) (by assumption) ?_
                        rotate_left
                        · intro w hSw
                          go_simp
                          try with_reducible rfl
                        simp only [List.getElem_toArray, List.getElem_cons_succ, List.getElem_cons_zero, Act.put, List.setIfInBounds_toArray, List.set_cons_zero, List.set_cons_succ]
                        refine wpAnyH_take (i := 4) (v := ?_) rfl (by kernel_rfl) (by kernel_rfl) (by kernel_rfl) (fun _ _ _ h => h) (Or.inl ⟨by rfl, ?_⟩) (by assumption) ?_
                        rotate_left
                        · intro w hSw
                          go_simp
                          try with_reducible rfl
                        simp only [List.getElem_toArray, List.getElem_cons_succ, List.getElem_cons_zero, Act.put, List.setIfInBounds_toArray, List.set_cons_zero, List.set_cons_succ]
                        refine wpAnyH_take (i := 5) (v := ?_) rfl (by kernel_rfl) (by kernel_rfl) (by kernel_rfl) (fun _ _ _ h => h) (Or.inl ⟨by rfl, ?_⟩) (by assumption) ?_
                        rotate_left
                        · intro w hSw
                          go_simp
                          try with_reducible rfl
                        simp only [List.getElem_toArray, List.getElem_cons_succ, List.getElem_cons_zero, Act.put, List.setIfInBounds_toArray, List.set_cons_zero, List.set_cons_succ]
                        refine wpAnyH_take (i := 6) (v := ?_) rfl (by kernel_rfl) (by kernel_rfl) (by kernel_rfl) (fun _ _ _ h => h) (Or.inl ⟨by rfl, ?_⟩) (by assumption) ?_
                        rotate_left
                        · intro w hSw
                          go_simp
                          try with_reducible rfl
                        simp only [List.getElem_toArray, List.getElem_cons_succ, List.getElem_cons_zero, Act.put, List.setIfInBounds_toArray, List.set_cons_zero, List.set_cons_succ]
                        refine wpAnyH_take (i := 7) (v := ?_) rfl (by kernel_rfl) (by kernel_rfl) (by kernel_rfl) (fun _ _ _ h => h) (Or.inl ⟨by rfl, ?_⟩) (by assumption) ?_
                        rotate_left
                        · intro w hSw
                          go_simp
                          try with_reducible rfl
                        simp only [List.getElem_toArray, List.getElem_cons_succ, List.getElem_cons_zero, Act.put, List.setIfInBounds_toArray, List.set_cons_zero, List.set_cons_succ]
                        refine wpAnyH_take (i := 8) (v := ?_) rfl (by kernel_rfl) (by kernel_rfl) (by kernel_rfl) (fun _ _ _ h => h) (Or.inl ⟨by rfl, ?_⟩) (by assumption) ?_
                        rotate_left
                        · intro w hSw
                          go_simp
                          try with_reducible rfl
                        simp only [List.getElem_toArray, List.getElem_cons_succ, List.getElem_cons_zero, Act.put, List.setIfInBounds_toArray, List.set_cons_zero, List.set_cons_succ]
                        refine wpAnyH_take (i := 9) (v := ?_) rfl (by kernel_rfl) (by kernel_rfl) (by kernel_rfl) (fun _ _ _ h => h) (Or.inl ⟨by rfl, ?_⟩) (by assumption) ?_
                        rotate_left
                        · intro w hSw
                          go_simp
                          try with_reducible rfl
                        simp only [List.getElem_toArray, List.getElem_cons_succ, List.getElem_cons_zero, Act.put, List.setIfInBounds_toArray, List.set_cons_zero, List.set_cons_succ]
                        refine wpAnyH_take (i := 10) (v := ?_) rfl (by kernel_rfl) (by kernel_rfl) (by kernel_rfl) (fun _ _ _ h => h) (Or.inl ⟨by rfl, ?_⟩) (by assumption) ?_
                        rotate_left
                        · intro w hSw
                          go_simp
                          try with_reducible rfl
                        simp only [List.getElem_toArray, List.getElem_cons_succ, List.getElem_cons_zero, Act.put, List.setIfInBounds_toArray, List.set_cons_zero, List.set_cons_succ]
                        refine wpAnyH_take (i := 11) (v := ?_) rfl (by kernel_rfl) (by kernel_rfl) (by kernel_rfl) (fun _ _ _ h => h) (Or.inl ⟨by rfl, ?_⟩) (by assumption) ?_
                        rotate_left
                        · intro w hSw
                          go_simp
                          try with_reducible rfl
                        simp only [List.getElem_toArray, List.getElem_cons_succ, List.getElem_cons_zero, Act.put, List.setIfInBounds_toArray, List.set_cons_zero, List.set_cons_succ]
                        refine wpAnyH_take (i := 12) (v := ?_) rfl (by kernel_rfl) (by kernel_rfl) (by kernel_rfl) (fun _ _ _ h => h) (Or.inl ⟨by rfl, ?_⟩) (by assumption) ?_
                        rotate_left
                        · intro w hSw
                          go_simp
                          try with_reducible rfl
                        simp only [List.getElem_toArray, List.getElem_cons_succ, List.getElem_cons_zero, Act.put, List.setIfInBounds_toArray, List.set_cons_zero, List.set_cons_succ]
                        refine wpAnyH_take (i := 13) (v := ?_) rfl (by kernel_rfl) (by kernel_rfl) (by kernel_rfl) (fun _ _ _ h => h) (Or.inl ⟨by rfl, ?_⟩) (by assumption) ?_
                        rotate_left
                        · intro w hSw
                          go_simp
                          try with_reducible rfl
                        simp only [List.getElem_toArray, List.getElem_cons_succ, List.getElem_cons_zero, Act.put, List.setIfInBounds_toArray, List.set_cons_zero, List.set_cons_succ]
                        refine wpAnyH_take (i := 14) (v := ?_) rfl (by kernel_rfl) (by kernel_rfl) (by kernel_rfl) (fun _ _ _ h => h) (Or.inl ⟨by rfl, ?_⟩) (by assumption) ?_
                        rotate_left
                        · intro w hSw
                          go_simp
                          try with_reducible rfl
                        simp only [List.getElem_toArray, List.getElem_cons_succ, List.getElem_cons_zero, Act.put, List.setIfInBounds_toArray, List.set_cons_zero, List.set_cons_succ]
                        refine wpAnyH_take (i := 15) (v := ?_) rfl (by kernel_rfl) (by kernel_rfl) (by kernel_rfl) (fun _ _ _ h => h) (Or.inl ⟨by rfl, ?_⟩) (by assumption) ?_
                        rotate_left
                        · intro w hSw
                          go_simp
                          try with_reducible rfl
                        simp only [List.getElem_toArray, List.getElem_cons_succ, List.getElem_cons_zero, Act.put, List.setIfInBounds_toArray, List.set_cons_zero, List.set_cons_succ]
                        refine wpAnyH_take (i := 16) (v := ?_) rfl (by kernel_rfl) (by kernel_rfl) (by kernel_rfl) (fun _ _ _ h => h) (Or.inl ⟨by rfl, ?_⟩) (by assumption) ?_
                        rotate_left
                        · intro w hSw
                          go_simp
                          try with_reducible rfl
                        simp only [List.getElem_toArray, List.getElem_cons_succ, List.getElem_cons_zero, Act.put, List.setIfInBounds_toArray, List.set_cons_zero, List.set_cons_succ]
                        refine wpAnyH_take (i := 17) (v := _) rfl (by kernel_rfl) (by kernel_rfl) (by kernel_rfl) (fun _ _ _ h => h) (Or.inr ⟨by rfl, rfl⟩) (by assumption) ?_
                        simp only [List.getElem_toArray, List.getElem_cons_succ, List.getElem_cons_zero, Act.put, List.setIfInBounds_toArray, List.set_cons_zero, List.set_cons_succ]
                        refine wpAnyH_take (i := 18) (v := _) rfl (by kernel_rfl) (by kernel_rfl) (by kernel_rfl) (fun _ _ _ h => h) (Or.inr ⟨by rfl, rfl⟩) (by assumption) ?_
                        simp only [List.getElem_toArray, List.getElem_cons_succ, List.getElem_cons_zero, Act.put, List.setIfInBounds_toArray, List.set_cons_zero, List.set_cons_succ]
                        refine wpAnyH_take (i := 19) (v := _) rfl (by kernel_rfl) (by kernel_rfl) (by kernel_rfl) (fun _ _ _ h => h) (Or.inr ⟨by rfl, rfl⟩) (by assumption) ?_
                        simp only [List.getElem_toArray, List.getElem_cons_succ, List.getElem_cons_zero, Act.put, List.setIfInBounds_toArray, List.set_cons_zero, List.set_cons_succ]
                        refine wpAnyH_take (i := 20) (v := _) rfl (by kernel_rfl) (by kernel_rfl) (by kernel_rfl) (fun _ _ _ h => h) (Or.inr ⟨by rfl, rfl⟩) (by assumption) ?_
                        simp only [List.getElem_toArray, List.getElem_cons_succ, List.getElem_cons_zero, Act.put, List.setIfInBounds_toArray, List.set_cons_zero, List.set_cons_succ]
                        refine wpAnyH_take (i := 21) (v := _) rfl (by kernel_rfl) (by kernel_rfl) (by kernel_rfl) (fun _ _ _ h => h) (Or.inr ⟨by rfl, rfl⟩) (by assumption) ?_
                        simp only [List.getElem_toArray, List.getElem_cons_succ, List.getElem_cons_zero, Act.put, List.setIfInBounds_toArray, List.set_cons_zero, List.set_cons_succ]
                        refine wpAnyH_take (i := 22) (v := _) rfl (by kernel_rfl) (by kernel_rfl) (by kernel_rfl) (fun _ _ _ h => h) (Or.inr ⟨by rfl, rfl⟩) (by assumption) ?_
                        simp only [List.getElem_toArray, List.getElem_cons_succ, List.getElem_cons_zero, Act.put, List.setIfInBounds_toArray, List.set_cons_zero, List.set_cons_succ]
                        refine wpAnyH_take (i := 23) (v := ?_) rfl (by kernel_rfl) (by kernel_rfl) (by kernel_rfl) (fun _ _ _ h => h) (Or.inl ⟨by rfl, ?_⟩) (by assumption) ?_
                        rotate_left
                        · intro w hSw
                          go_simp
                          try with_reducible rfl
                        simp only [List.getElem_toArray, List.getElem_cons_succ, List.getElem_cons_zero, Act.put, List.setIfInBounds_toArray, List.set_cons_zero, List.set_cons_succ]
                        refine wpAnyH_take (i := 24) (v := ?_) rfl (by kernel_rfl) (by kernel_rfl) (by kernel_rfl) (fun _ _ _ h => h) (Or.inl ⟨by rfl, ?_⟩) (by assumption) ?_
                        rotate_left
                        · intro w hSw
                          go_simp
                          try with_reducible rfl
                        simp only [List.getElem_toArray, List.getElem_cons_succ, List.getElem_cons_zero, Act.put, List.setIfInBounds_toArray, List.set_cons_zero, List.set_cons_succ]
                        refine wpAnyH_take (i := 25) (v := ?_) rfl (by kernel_rfl) (by kernel_rfl) (by kernel_rfl) (fun _ _ _ h => h) (Or.inl ⟨by rfl, ?_⟩) (by assumption) ?_
                        rotate_left
                        · intro w hSw
                          go_simp
                          try with_reducible rfl
                        simp only [List.getElem_toArray, List.getElem_cons_succ, List.getElem_cons_zero, Act.put, List.setIfInBounds_toArray, List.set_cons_zero, List.set_cons_succ]
                        refine wpAnyH_take (i := 26) (v := ?_) rfl (by kernel_rfl) (by kernel_rfl) (by kernel_rfl) (fun _ _ _ h => h) (Or.inl ⟨by rfl, ?_⟩) (by assumption) ?_
                        rotate_left
                        · intro w hSw
                          go_simp
                          try with_reducible rfl
                        simp only [List.getElem_toArray, List.getElem_cons_succ, List.getElem_cons_zero, Act.put, List.setIfInBounds_toArray, List.set_cons_zero, List.set_cons_succ]
                        refine wpAnyH_take (i := 27) (v := ?_) rfl (by kernel_rfl) (by kernel_rfl) (by kernel_rfl) (fun _ _ _ h => h) (Or.inl ⟨by rfl, ?_⟩) (by assumption) ?_
                        rotate_left
                        · intro w hSw
                          go_simp
                          try with_reducible rfl
                        simp only [List.getElem_toArray, List.getElem_cons_succ, List.getElem_cons_zero, Act.put, List.setIfInBounds_toArray, List.set_cons_zero, List.set_cons_succ]
                        refine wpAnyH_take (i := 28) (v := ?_) rfl (by kernel_rfl) (by kernel_rfl) (by kernel_rfl) (fun _ _ _ h => h) (Or.inl ⟨by rfl, ?_⟩) (by assumption) ?_
                        rotate_left
                        · intro w hSw
                          go_simp
                          try with_reducible rfl
                        simp only [List.getElem_toArray, List.getElem_cons_succ, List.getElem_cons_zero, Act.put, List.setIfInBounds_toArray, List.set_cons_zero, List.set_cons_succ]
                        refine wpAnyH_take (i := 29) (v := ?_) rfl (by kernel_rfl) (by kernel_rfl) (by kernel_rfl) (fun _ _ _ h => h) (Or.inl ⟨by rfl, ?_⟩) (by assumption) ?_
                        rotate_left
                        · intro w hSw
                          go_simp
                          try with_reducible rfl
                        simp only [List.getElem_toArray, List.getElem_cons_succ, List.getElem_cons_zero, Act.put, List.setIfInBounds_toArray, List.set_cons_zero, List.set_cons_succ]
                        refine wpAnyH_take (i := 30) (v := ?_) rfl (by kernel_rfl) (by kernel_rfl) (by kernel_rfl) (fun _ _ _ h => h) (Or.inl ⟨by rfl, ?_⟩) (by assumption) ?_
                        rotate_left
                        · intro w hSw
                          go_simp
                          try with_reducible rfl
                        simp only [List.getElem_toArray, List.getElem_cons_succ, List.getElem_cons_zero, Act.put, List.setIfInBounds_toArray, List.set_cons_zero, List.set_cons_succ]
                        refine wpAnyH_take (i := 31) (v := ?_) rfl (by kernel_rfl) (by kernel_rfl) (by kernel_rfl) (fun _ _ _ h => h) (Or.inl ⟨by rfl, ?_⟩) (by assumption) ?_
                        rotate_left
                        · intro w hSw
                          go_simp
                          try with_reducible rfl
                        simp only [List.getElem_toArray, List.getElem_cons_succ, List.getElem_cons_zero, Act.put, List.setIfInBounds_toArray, List.set_cons_zero, List.set_cons_succ]
                        refine wpAnyH_take (i := 32) (v := ?_) rfl (by kernel_rfl) (by kernel_rfl) (by kernel_rfl) (fun _ _ _ h => h) (Or.inl ⟨by rfl, ?_⟩) (by assumption) ?_
                        rotate_left
                        · intro w hSw
                          go_simp
                          try with_reducible rfl
                        simp only [List.getElem_toArray, List.getElem_cons_succ, List.getElem_cons_zero, Act.put, List.setIfInBounds_toArray, List.set_cons_zero, List.set_cons_succ]
                        refine wpAnyH_ready (rs := [33]) (by kernel_rfl) (by simp) ?_
                        refine AllReadyH.cons rfl (fun K hK => ?_) AllReadyH.nil
                        go_simp
                        go_at_call 33
                        refine (HC1.out _).mono ?_
                        rintro e w9 ⟨rfl, hg⟩
                        have hS := (show (fun W => Gr w1 W ∧ W.cell? ad = some (.int .u32 zv) ∧ W.cell? ⟨ad.block, ad.off + 1, none⟩ = some (.int .i64 zf) ∧ W.cell? ⟨ad.block, ad.off + 2, none⟩ = some (.int .i64 zp) ∧ W.cell? ⟨wr.heap.size, 0, none⟩ = some (.int .u32 xv) ∧ W.cell? ⟨wr.heap.size, 1, none⟩ = some (.int .i64 xf) ∧ W.cell? ⟨wr.heap.size, 2, none⟩ = some (.int .i64 xp)) w9 from ⟨(by first | exact (Gr.refl _).drew.trans hg | exact ((Gr.refl _).drewN _).drew.trans hg), hg.cell' (by simp; assumption), hg.cell' (by simp; assumption), hg.cell' (by simp; assumption), hg.cell' (by simp; assumption), hg.cell' (by simp; assumption), hg.cell' (by simp; assumption)⟩)
                        have HG9 := Aside0.mk hS.1
                        clear hg hHeld
                        go_wp2_with fail
                        refine hK.out _ _ hS (fun hHeld => ?_)
                        clear hK K hS
                        refine wpAnyH_take (i := 34) (v := ?_) rfl (by kernel_rfl) (by kernel_rfl) (by kernel_rfl) (fun _ _ _ h => h) (Or.inl ⟨by rfl, ?_⟩) (by assumption) ?_
                        rotate_left
                        · intro w hSw
                          go_simp
                          try with_reducible rfl
                        simp only [List.getElem_toArray, List.getElem_cons_succ, List.getElem_cons_zero, Act.put, List.setIfInBounds_toArray, List.set_cons_zero, List.set_cons_succ]
                        refine wpAnyH_take (i := 35) (v := ?_) rfl (by kernel_rfl) (by kernel_rfl) (by kernel_rfl) (fun _ _ _ h => h) (Or.inl ⟨by rfl, ?_⟩) (by assumption) ?_
                        rotate_left
                        · intro w hSw
                          go_simp
                          try with_reducible rfl
                        simp only [List.getElem_toArray, List.getElem_cons_succ, List.getElem_cons_zero, Act.put, List.setIfInBounds_toArray, List.set_cons_zero, List.set_cons_succ]
                        refine wpAnyH_take (i := 36) (v := ?_) rfl (by kernel_rfl) (by kernel_rfl) (by kernel_rfl) (fun _ _ _ h => h) (Or.inl ⟨by rfl, ?_⟩) (by assumption) ?_
                        rotate_left
                        · intro w hSw
                          go_simp
                          try with_reducible rfl
                        simp only [List.getElem_toArray, List.getElem_cons_succ, List.getElem_cons_zero, Act.put, List.setIfInBounds_toArray, List.set_cons_zero, List.set_cons_succ]
                        refine wpAnyH_take (i := 37) (v := ?_) rfl (by kernel_rfl) (by kernel_rfl) (by kernel_rfl) (fun _ _ _ h => h) (Or.inl ⟨by rfl, ?_⟩) (by assumption) ?_
                        rotate_left
                        · intro w hSw
                          go_simp
                          try with_reducible rfl
                        simp only [List.getElem_toArray, List.getElem_cons_succ, List.getElem_cons_zero, Act.put, List.setIfInBounds_toArray, List.set_cons_zero, List.set_cons_succ]
                        refine wpAnyH_done (by kernel_rfl) ?_ _
                        have HB9 := Aside0.mk ((HB2.out).trans (HG9.out.below.mono (HB2.out).size))
                        go_wp2_with fail
                        go_roundg (l.length - (kk + 1))
                        case measure => omega
                        case rel => exact ⟨kk + 1, _, by omega, by omega, by go_num, ⟨owns_gr HO1.out (by first | exact (((Gr.refl w1)).trans HG9.out) | exact (((Gr.refl w1)).trans HG9.out).drewN _)⟩, HTS, ⟨by first | exact HB9.out | exact pw_below_drewN HB9.out _⟩⟩
                      · have eF : decide (0 < F) = false := decide_eq_false hF
                        clear hxf hxp hF
                        go_quiet (fail)
                        go_wp2_with fail
                        go_roundg (l.length - (kk + 1))
                        case measure => omega
                        case rel => exact ⟨kk + 1, _, by omega, by omega, by go_num, ⟨owns_gr HO1.out (by first | exact (Gr.refl w1) | exact (Gr.refl w1).drewN _)⟩, HTS, ⟨by first | exact HB2.out | exact pw_below_drewN HB2.out _⟩⟩
                    · have ep : (xp == 0) = false := by simp [hxp]
                      clear hxf hxp
                      go_quiet (fail)
                      go_wp2_with fail
                      go_roundg (l.length - (kk + 1))
                      case measure => omega
                      case rel => exact ⟨kk + 1, _, by omega, by omega, by go_num, ⟨owns_gr HO1.out (by first | exact (Gr.refl w1) | exact (Gr.refl w1).drewN _)⟩, HTS, ⟨by first | exact HB2.out | exact pw_below_drewN HB2.out _⟩⟩
                  · have ef : (xf == F) = false := by simp [hxf]
                    clear hxf
                    go_quiet (fail)
                    go_wp2_with fail
                    go_roundg (l.length - (kk + 1))
                    case measure => omega
                    case rel => exact ⟨kk + 1, _, by omega, by omega, by go_num, ⟨owns_gr HO1.out (by first | exact (Gr.refl w1) | exact (Gr.refl w1).drewN _)⟩, HTS, ⟨by first | exact HB2.out | exact pw_below_drewN HB2.out _⟩⟩
              · obtain ⟨j, rfl⟩ : ∃ j, kk = j + 1 := ⟨kk - 1, by omega⟩
                have hjz : (0 : Int) < ((j + 1 : Nat) : Int) := by omega
                have hnx := HNX0.out j rfl
                generalize hyy : rd_T46 l' (j : Int) = y at *
                have HNX := Aside0.mk hnx
                have HY := Aside0.mk hyy
                clear hyy hnx HNX0
                obtain ⟨yv, yf, yp⟩ := y
                go_wp2_with (first
                  | (at_lookup; refine wpList_lookup_own_int (H := Unit) _ rfl _ _ 53 rfl 46 3 .i64 law46 Try.underlying53 Try.underlying3 (zero3 _) wo.heap.size _ D rfl (HO.out.alloc _) _ _ rfl HK.out ?_; intro c hat hwc; obtain rfl := HIN.out c hat; clear hat hwc)
                  | (at_mapUpdate; refine wpList_mapUpdate_own (H := Unit) _ rfl _ _ _ 53 rfl 46 3 law46 Try.underlying53 (plainElem Try.prog 3) wo.heap.size _ D rfl (HO.out.alloc _) HLEN.out _ _ _ rfl rfl HK.out (.lit (.int .i64 0)) [] (plainElem_int Try.underlying3 rfl) ?_; intro w1 hown1 hgrow1; have HO1 := Aside0.mk hown1; have HB2 := Aside0.mk (RowKit.Below.grown (HB1.out.alloc HB1.out.size _) hgrow1 (by have := HB1.out.size; simp; omega) (fun j hj => by cases hj; exact Nat.le_refl _)); have HGR := Aside0.mk hgrow1; clear hown1 hgrow1; rename World => w1))
                have hbx : w1.heap[wr.heap.size]? = some (.cells #[.int .u32 xv, .int .i64 xf, .int .i64 xp] 46 (0, 0)) := by
                  have hmb : wo.heap.size < wr.heap.size := by
                    obtain ⟨es, cl, hb, _⟩ := HO.out
                    exact (Array.getElem?_eq_some_iff.mp hb).1
                  refine (HGR.out.block wr.heap.size (by simp) (by simp; omega)).trans ?_
                  exact blk_new wr _
                have HBX := Aside0.mk hbx
                clear hbx h0 h1 h2
                have x0 : w1.cell? ⟨wr.heap.size, 0, none⟩ = some (.int .u32 xv) := (blk_cell HBX.out 0).trans rfl
                have x1 : w1.cell? ⟨wr.heap.size, 1, none⟩ = some (.int .i64 xf) := (blk_cell HBX.out 1).trans rfl
                have x2 : w1.cell? ⟨wr.heap.size, 2, none⟩ = some (.int .i64 xp) := (blk_cell HBX.out 2).trans rfl
                have hN0 := fun W => Near_c (zv, zf, zp) (xv, xf, xp) W
                have hR0 := fun W => Rate_c (zv, zf, zp) (xv, xf, xp) F P W
                have hw1 : wth F = F := wth_id ⟨HOK.out.1.1, HOK.out.1.2.1⟩
                have hw2 : wth P = P := wth_id ⟨HOK.out.1.2.2.1, HOK.out.1.2.2.2⟩
                simp only [encS, hw1, hw2] at hN0 hR0
                have HN0 := Aside0.mk hN0
                have HR0 := Aside0.mk hR0
                clear hN0 hR0 hw1 hw2
                obtain ⟨ad', hA', g0, g1, g2⟩ := at_T46 (Kd.C_below HC.out HB2.out) (j : Int) (by omega) (by omega)
                injection hA' with hA'
                subst hA'
                rw [Int.toNat_natCast, HY.out] at g0 g1 g2
                simp only at g0 g1 g2
                have hjl : (j : Int) < (l.length : Int) := by omega
                have hjw : IntKind.i64.wrap (j : Int) = j := wrap64 _ (by omega)
                have hjj : (j : Int) + 1 - 1 = j := by omega
                have hN := fun W => Near_c (yv, yf, yp) (xv, xf, xp) W
                have hRt := fun W => Rate_c (yv, yf, yp) (xv, xf, xp) F P W
                have hw1 : wth F = F := wth_id ⟨HOK.out.1.1, HOK.out.1.2.1⟩
                have hw2 : wth P = P := wth_id ⟨HOK.out.1.2.2.1, HOK.out.1.2.2.2⟩
                simp only [encS, hw1, hw2] at hN hRt
                have HN := Aside0.mk hN
                have HRt := Aside0.mk hRt
                clear hN hRt hw1 hw2
                (first | (go_region_held3 (fun W => Gr w1 W ∧ W.cell? (ad.add (j * 3)) = some (.int .u32 yv) ∧ W.cell? ⟨(ad.add (j * 3)).block, (ad.add (j * 3)).off + 1, none⟩ = some (.int .i64 yf) ∧ W.cell? ⟨(ad.add (j * 3)).block, (ad.add (j * 3)).off + 2, none⟩ = some (.int .i64 yp) ∧ W.cell? ⟨wr.heap.size, 0, none⟩ = some (.int .u32 xv) ∧ W.cell? ⟨wr.heap.size, 1, none⟩ = some (.int .i64 xf) ∧ W.cell? ⟨wr.heap.size, 2, none⟩ = some (.int .i64 xp)) (first | (refine ⟨(Gr.refl _).drew, ?_, ?_, ?_, ?_, ?_, ?_⟩ <;> (simp; assumption)) | (refine ⟨((Gr.refl _).drewN _).drew, ?_, ?_, ?_, ?_, ?_, ?_⟩ <;> (simp; assumption)) | exact hS)
                  (first | (go_at_call 32; refine (HN.out _).mono ?_; rintro e w2 ⟨rfl, hg⟩; have hS := (show (fun W => Gr w1 W ∧ W.cell? (ad.add (j * 3)) = some (.int .u32 yv) ∧ W.cell? ⟨(ad.add (j * 3)).block, (ad.add (j * 3)).off + 1, none⟩ = some (.int .i64 yf) ∧ W.cell? ⟨(ad.add (j * 3)).block, (ad.add (j * 3)).off + 2, none⟩ = some (.int .i64 yp) ∧ W.cell? ⟨wr.heap.size, 0, none⟩ = some (.int .u32 xv) ∧ W.cell? ⟨wr.heap.size, 1, none⟩ = some (.int .i64 xf) ∧ W.cell? ⟨wr.heap.size, 2, none⟩ = some (.int .i64 xp)) w2 from ⟨(by first | exact (Gr.refl _).drew.trans hg | exact ((Gr.refl _).drewN _).drew.trans hg), hg.cell' (by simp; assumption), hg.cell' (by simp; assumption), hg.cell' (by simp; assumption), hg.cell' (by simp; assumption), hg.cell' (by simp; assumption), hg.cell' (by simp; assumption)⟩); have HG2 := Aside0.mk hS.1; clear hg))) | fail)
                cases byRate
                · skip
                  have hnx := HNX.out
                  simp only [mOf, Bool.false_eq_true, if_false, toT] at hnx
                  generalize nearC (yv, yf, yp) (xv, xf, xp) = m at *
                  have HB3 := Aside0.mk (HB2.out.trans (HG2.out.below.mono HB2.out.size))
                  have HBX2 := Aside0.mk ((HG2.out.below.block _ (by simpa using (Array.getElem?_eq_some_iff.mp HBX.out).1)).trans HBX.out)
                  clear g0 g1 g2 x0 x1 x2
                  have x0 : w2.cell? ⟨wr.heap.size, 0, none⟩ = some (.int .u32 xv) := (blk_cell HBX2.out 0).trans rfl
                  have x1 : w2.cell? ⟨wr.heap.size, 1, none⟩ = some (.int .i64 xf) := (blk_cell HBX2.out 1).trans rfl
                  have x2 : w2.cell? ⟨wr.heap.size, 2, none⟩ = some (.int .i64 xp) := (blk_cell HBX2.out 2).trans rfl
                  obtain ⟨ad', hA', g0, g1, g2⟩ := at_T46 (Kd.C_below HC.out HB3.out) (j : Int) (by omega) (by omega)
                  injection hA' with hA'
                  subst hA'
                  rw [Int.toNat_natCast, HY.out] at g0 g1 g2
                  simp only at g0 g1 g2
                  have hm0 : decide (m < 0) = false := decide_eq_false (by omega)
                  have hmy : (m == 0) = false ∨ ((m == 0) = true ∧ decide (xv ≤ yv) = false) := by
                    by_cases h : m = 0
                    · exact .inr ⟨by simp [h], decide_eq_false (by have := hnx.2 h; omega)⟩
                    · exact .inl (by simp [h])
                  clear hnx
                  rcases hmy with hmy | ⟨hmy, hmz⟩
                  · go_wp2_with fail
                    go_quiet (fail)
                    go_wp2_with fail
                    by_cases hxf : xf = F
                    · have ef : (xf == F) = true := by simp [hxf]
                      by_cases hxp : xp = 0
                      · have ep : (xp == 0) = true := by simp [hxp]
                        by_cases hF : 0 < F
                        · have eF : decide (0 < F) = true := decide_eq_true hF
                          have hcall : nearC (zv, zf, zp) (xv, xf, xp) = 0 := by
                            have := HTP.out hF hxf hxp
                            simpa [mOf, toT] using this
                          have HC1 := Aside0.mk (fun W => by
                            have h := HN0.out W
                            rw [hcall] at h
                            exact h)
                          clear hcall
                          obtain ⟨ad2, hA2, z0, z1, z2⟩ := at_T46 (Kd.C_below HC.out HB3.out) ((0 : Nat) : Int) (by omega) (by omega)
                          injection hA2 with hA2
                          subst hA2
                          rw [Int.toNat_natCast, HZ.out, Nat.zero_mul, add0] at z0 z1 z2
                          simp only at z0 z1 z2
                          have h0l : (0 : Int) < (l.length : Int) := by omega
                          have h0n : 0 < l.length := by omega
                          have hnt : (!true) = false := rfl
                          clear hxf hxp hF
                          refine wp_region_held_drew (S := fun W => Gr w2 W ∧ W.cell? ad = some (.int .u32 zv) ∧ W.cell? ⟨ad.block, ad.off + 1, none⟩ = some (.int .i64 zf) ∧ W.cell? ⟨ad.block, ad.off + 2, none⟩ = some (.int .i64 zp) ∧ W.cell? ⟨wr.heap.size, 0, none⟩ = some (.int .u32 xv) ∧ W.cell? ⟨wr.heap.size, 1, none⟩ = some (.int .i64 xf) ∧ W.cell? ⟨wr.heap.size, 2, none⟩ = some (.int .i64 xp)) (by kernel_rfl) (by first | (refine ⟨(Gr.refl _).drew, ?_, ?_, ?_, ?_, ?_, ?_⟩ <;> (simp; assumption)) | (refine ⟨((Gr.refl _).drewN _).drew, ?_, ?_, ?_, ?_, ?_, ?_⟩ <;> (simp; assumption))) (fun hHeld => ?_)
                          refine wpAnyH_take (i := 0) (v := ?_) rfl (by kernel_rfl) (by kernel_rfl) (by kernel_rfl) (fun _ _ _ h => h) (Or.inl ⟨by rfl, ?_⟩) (by assumption) ?_
                          rotate_left
                          · intro w hSw
                            go_simp
                            try with_reducible rfl
                          simp only [List.getElem_toArray, List.getElem_cons_zero, Act.put, List.setIfInBounds_toArray, List.set_cons_zero, List.set_cons_succ]
                          refine wpAnyH_take (i := 1) (v := ?_) rfl (by kernel_rfl) (by kernel_rfl) (by kernel_rfl) (fun _ _ _ h => h) (Or.inl ⟨by rfl, ?_⟩) (by assumption) ?_
                          rotate_left
                          · intro w hSw
                            go_simp
                            try with_reducible rfl
                          simp only [List.getElem_toArray, List.getElem_cons_succ, List.getElem_cons_zero, Act.put, List.setIfInBounds_toArray, List.set_cons_zero, List.set_cons_succ]
                          refine wpAnyH_take (i := 2) (v := ?_) rfl (by kernel_rfl) (by kernel_rfl) (by kernel_rfl) (fun _ _ _ h => h) (Or.inl ⟨by rfl, ?_⟩) (by assumption) ?_
                          rotate_left
                          · intro w hSw
                            go_simp
                            try with_reducible rfl
                          simp only [List.getElem_toArray, List.getElem_cons_succ, List.getElem_cons_zero, Act.put, List.setIfInBounds_toArray, List.set_cons_zero, List.set_cons_succ]
                          refine wpAnyH_take (i := 3) (v := ?_) rfl (by kernel_rfl) (by kernel_rfl) (by kernel_rfl) (fun _ _ _ h => h) (Or.inl ⟨by rfl, ?_⟩) (by assumption) ?_
                          rotate_left
                          · intro w hSw
                            go_simp
                            try with_reducible rfl
                          simp only [List.getElem_toArray, List.getElem_cons_succ, List.getElem_cons_zero, Act.put, List.setIfInBounds_toArray, List.set_cons_zero, List.set_cons_succ]
                          refine wpAnyH_take (i := 4) (v := ?_) rfl (by kernel_rfl) (by kernel_rfl) (by kernel_rfl) (fun _ _ _ h => h) (Or.inl ⟨by rfl, ?_⟩) (by assumption) ?_
                          rotate_left
                          · intro w hSw
                            go_simp
                            try with_reducible rfl
                          simp only [List.getElem_toArray, List.getElem_cons_succ, List.getElem_cons_zero, Act.put, List.setIfInBounds_toArray, List.set_cons_zero, List.set_cons_succ]
                          refine wpAnyH_take (i := 5) (v := ?_) rfl (by kernel_rfl) (by kernel_rfl) (by kernel_rfl) (fun _ _ _ h => h) (Or.inl ⟨by rfl, ?_⟩) (by assumption) ?_
                          rotate_left
                          · intro w hSw
                            go_simp
                            try with_reducible rfl
                          simp only [List.getElem_toArray, List.getElem_cons_succ, List.getElem_cons_zero, Act.put, List.setIfInBounds_toArray, List.set_cons_zero, List.set_cons_succ]
                          refine wpAnyH_take (i := 6) (v := ?_) rfl (by kernel_rfl) (by kernel_rfl) (by kernel_rfl) (fun _ _ _ h => h) (Or.inl ⟨by rfl, ?_⟩) (by assumption) ?_
                          rotate_left
                          · intro w hSw
                            go_simp
                            try with_reducible rfl
                          simp only [List.getElem_toArray, List.getElem_cons_succ, List.getElem_cons_zero, Act.put, List.setIfInBounds_toArray, List.set_cons_zero, List.set_cons_succ]
                          refine wpAnyH_take (i := 7) (v := ?_) rfl (by kernel_rfl) (by kernel_rfl) (by kernel_rfl) (fun _ _ _ h => h) (Or.inl ⟨by rfl, ?_⟩) (by assumption) ?_
                          rotate_left
                          · intro w hSw
                            go_simp
                            try with_reducible rfl
                          simp only [List.getElem_toArray, List.getElem_cons_succ, List.getElem_cons_zero, Act.put, List.setIfInBounds_toArray, List.set_cons_zero, List.set_cons_succ]
                          refine wpAnyH_take (i := 8) (v := ?_) rfl (by kernel_rfl) (by kernel_rfl) (by kernel_rfl) (fun _ _ _ h => h) (Or.inl ⟨by rfl, ?_⟩) (by assumption) ?_
                          rotate_left
                          · intro w hSw
                            go_simp
                            try with_reducible rfl
                          simp only [List.getElem_toArray, List.getElem_cons_succ, List.getElem_cons_zero, Act.put, List.setIfInBounds_toArray, List.set_cons_zero, List.set_cons_succ]
                          refine wpAnyH_take (i := 9) (v := ?_) rfl (by kernel_rfl) (by kernel_rfl) (by kernel_rfl) (fun _ _ _ h => h) (Or.inl ⟨by rfl, ?_⟩) (by assumption) ?_
                          rotate_left
                          · intro w hSw
                            go_simp
                            try with_reducible rfl
                          simp only [List.getElem_toArray, List.getElem_cons_succ, List.getElem_cons_zero, Act.put, List.setIfInBounds_toArray, List.set_cons_zero, List.set_cons_succ]
                          refine wpAnyH_take (i := 10) (v := ?_) rfl (by kernel_rfl) (by kernel_rfl) (by kernel_rfl) (fun _ _ _ h => h) (Or.inl ⟨by rfl, ?_⟩) (by assumption) ?_
                          rotate_left
                          · intro w hSw
                            go_simp
                            try with_reducible rfl
                          simp only [List.getElem_toArray, List.getElem_cons_succ, List.getElem_cons_zero, Act.put, List.setIfInBounds_toArray, List.set_cons_zero, List.set_cons_succ]
                          refine wpAnyH_take (i := 11) (v := ?_) rfl (by kernel_rfl) (by kernel_rfl) (by kernel_rfl) (fun _ _ _ h => h) (Or.inl ⟨by rfl, ?_⟩) (by assumption) ?_
                          rotate_left
                          · intro w hSw
                            go_simp
                            try with_reducible rfl
                          simp only [List.getElem_toArray, List.getElem_cons_succ, List.getElem_cons_zero, Act.put, List.setIfInBounds_toArray, List.set_cons_zero, List.set_cons_succ]
                          refine wpAnyH_take (i := 12) (v := ?_) rfl (by kernel_rfl) (by kernel_rfl) (by kernel_rfl) (fun _ _ _ h => h) (Or.inl ⟨by rfl, ?_⟩) (by assumption) ?_
                          rotate_left
                          · intro w hSw
                            go_simp
                            try with_reducible rfl
                          simp only [List.getElem_toArray, List.getElem_cons_succ, List.getElem_cons_zero, Act.put, List.setIfInBounds_toArray, List.set_cons_zero, List.set_cons_succ]
                          refine wpAnyH_take (i := 13) (v := ?_) rfl (by kernel_rfl) (by kernel_rfl) (by kernel_rfl) (fun _ _ _ h => h) (Or.inl ⟨by rfl, ?_⟩) (by assumption) ?_
                          rotate_left
                          · intro w hSw
                            go_simp
                            try with_reducible rfl
                          simp only [List.getElem_toArray, List.getElem_cons_succ, List.getElem_cons_zero, Act.put, List.setIfInBounds_toArray, List.set_cons_zero, List.set_cons_succ]
                          refine wpAnyH_take (i := 14) (v := ?_) rfl (by kernel_rfl) (by kernel_rfl) (by kernel_rfl) (fun _ _ _ h => h) (Or.inl ⟨by rfl, ?_⟩) (by assumption) ?_
                          rotate_left
                          · intro w hSw
                            go_simp
                            try with_reducible rfl
                          simp only [List.getElem_toArray, List.getElem_cons_succ, List.getElem_cons_zero, Act.put, List.setIfInBounds_toArray, List.set_cons_zero, List.set_cons_succ]
                          refine wpAnyH_take (i := 15) (v := ?_) rfl (by kernel_rfl) (by kernel_rfl) (by kernel_rfl) (fun _ _ _ h => h) (Or.inl ⟨by rfl, ?_⟩) (by assumption) ?_
                          rotate_left
                          · intro w hSw
                            go_simp
                            try with_reducible rfl
                          simp only [List.getElem_toArray, List.getElem_cons_succ, List.getElem_cons_zero, Act.put, List.setIfInBounds_toArray, List.set_cons_zero, List.set_cons_succ]
                          refine wpAnyH_take (i := 16) (v := ?_) rfl (by kernel_rfl) (by kernel_rfl) (by kernel_rfl) (fun _ _ _ h => h) (Or.inl ⟨by rfl, ?_⟩) (by assumption) ?_
                          rotate_left
                          · intro w hSw
                            go_simp
                            try with_reducible rfl
                          simp only [List.getElem_toArray, List.getElem_cons_succ, List.getElem_cons_zero, Act.put, List.setIfInBounds_toArray, List.set_cons_zero, List.set_cons_succ]
                          refine wpAnyH_take (i := 17) (v := ?_) rfl (by kernel_rfl) (by kernel_rfl) (by kernel_rfl) (fun _ _ _ h => h) (Or.inl ⟨by rfl, ?_⟩) (by assumption) ?_
                          rotate_left
                          · intro w hSw
                            go_simp
                            try with_reducible rfl
                          simp only [List.getElem_toArray, List.getElem_cons_succ, List.getElem_cons_zero, Act.put, List.setIfInBounds_toArray, List.set_cons_zero, List.set_cons_succ]
                          refine wpAnyH_take (i := 18) (v := ?_) rfl (by kernel_rfl) (by kernel_rfl) (by kernel_rfl) (fun _ _ _ h => h) (Or.inl ⟨by rfl, ?_⟩) (by assumption) ?_
                          rotate_left
                          · intro w hSw
                            go_simp
                            try with_reducible rfl
                          simp only [List.getElem_toArray, List.getElem_cons_succ, List.getElem_cons_zero, Act.put, List.setIfInBounds_toArray, List.set_cons_zero, List.set_cons_succ]
                          refine wpAnyH_take (i := 19) (v := ?_) rfl (by kernel_rfl) (by kernel_rfl) (by kernel_rfl) (fun _ _ _ h => h) (Or.inl ⟨by rfl, ?_⟩) (by assumption) ?_
                          rotate_left
                          · intro w hSw
                            go_simp
                            try with_reducible rfl
                          simp only [List.getElem_toArray, List.getElem_cons_succ, List.getElem_cons_zero, Act.put, List.setIfInBounds_toArray, List.set_cons_zero, List.set_cons_succ]
                          refine wpAnyH_take (i := 20) (v := ?_) rfl (by kernel_rfl) (by kernel_rfl) (by kernel_rfl) (fun _ _ _ h => h) (Or.inl ⟨by rfl, ?_⟩) (by assumption) ?_
                          rotate_left
                          · intro w hSw
                            go_simp
                            try with_reducible rfl
                          simp only [List.getElem_toArray, List.getElem_cons_succ, List.getElem_cons_zero, Act.put, List.setIfInBounds_toArray, List.set_cons_zero, List.set_cons_succ]
                          refine wpAnyH_ready (rs := [21]) (by kernel_rfl) (by simp) ?_
                          refine AllReadyH.cons rfl (fun K hK => ?_) AllReadyH.nil
                          go_simp
                          go_at_call 32
                          refine (HC1.out _).mono ?_
                          rintro e w9 ⟨rfl, hg⟩
                          have hS := (show (fun W => Gr w2 W ∧ W.cell? ad = some (.int .u32 zv) ∧ W.cell? ⟨ad.block, ad.off + 1, none⟩ = some (.int .i64 zf) ∧ W.cell? ⟨ad.block, ad.off + 2, none⟩ = some (.int .i64 zp) ∧ W.cell? ⟨wr.heap.size, 0, none⟩ = some (.int .u32 xv) ∧ W.cell? ⟨wr.heap.size, 1, none⟩ = some (.int .i64 xf) ∧ W.cell? ⟨wr.heap.size, 2, none⟩ = some (.int .i64 xp)) w9 from ⟨(by first | exact (Gr.refl _).drew.trans hg | exact ((Gr.refl _).drewN _).drew.trans hg), hg.cell' (by simp; assumption), hg.cell' (by simp; assumption), hg.cell' (by simp; assumption), hg.cell' (by simp; assumption), hg.cell' (by simp; assumption), hg.cell' (by simp; assumption)⟩)
                          have HG9 := Aside0.mk hS.1
                          clear hg hHeld
                          go_wp2_with fail
                          refine hK.out _ _ hS (fun hHeld => ?_)
                          clear hK K hS
                          refine wpAnyH_take (i := 22) (v := ?_) rfl (by kernel_rfl) (by kernel_rfl) (by kernel_rfl) (fun _ _ _ h => h) (Or.inl ⟨by rfl, ?_⟩) (by assumption) ?_
                          rotate_left
                          · intro w hSw
                            go_simp
                            try with_reducible rfl
                          simp only [List.getElem_toArray, List.getElem_cons_succ, List.getElem_cons_zero, Act.put, List.setIfInBounds_toArray, List.set_cons_zero, List.set_cons_succ]
                          refine wpAnyH_take (i := 23) (v := ?_) rfl (by kernel_rfl) (by kernel_rfl) (by kernel_rfl) (fun _ _ _ h => h) (Or.inl ⟨by rfl, ?_⟩) (by assumption) ?_
                          rotate_left
                          · intro w hSw
                            go_simp
                            try with_reducible rfl
                          simp only [List.getElem_toArray, List.getElem_cons_succ, List.getElem_cons_zero, Act.put, List.setIfInBounds_toArray, List.set_cons_zero, List.set_cons_succ]
                          refine wpAnyH_take (i := 24) (v := ?_) rfl (by kernel_rfl) (by kernel_rfl) (by kernel_rfl) (fun _ _ _ h => h) (Or.inl ⟨by rfl, ?_⟩) (by assumption) ?_
                          rotate_left
                          · intro w hSw
                            go_simp
                            try with_reducible rfl
                          simp only [List.getElem_toArray, List.getElem_cons_succ, List.getElem_cons_zero, Act.put, List.setIfInBounds_toArray, List.set_cons_zero, List.set_cons_succ]
                          refine wpAnyH_take (i := 25) (v := ?_) rfl (by kernel_rfl) (by kernel_rfl) (by kernel_rfl) (fun _ _ _ h => h) (Or.inl ⟨by rfl, ?_⟩) (by assumption) ?_
                          rotate_left
                          · intro w hSw
                            go_simp
                            try with_reducible rfl
                          simp only [List.getElem_toArray, List.getElem_cons_succ, List.getElem_cons_zero, Act.put, List.setIfInBounds_toArray, List.set_cons_zero, List.set_cons_succ]
                          refine wpAnyH_take (i := 26) (v := ?_) rfl (by kernel_rfl) (by kernel_rfl) (by kernel_rfl) (fun _ _ _ h => h) (Or.inl ⟨by rfl, ?_⟩) (by assumption) ?_
                          rotate_left
                          · intro w hSw
                            go_simp
                            try with_reducible rfl
                          simp only [List.getElem_toArray, List.getElem_cons_succ, List.getElem_cons_zero, Act.put, List.setIfInBounds_toArray, List.set_cons_zero, List.set_cons_succ]
                          refine wpAnyH_take (i := 27) (v := _) rfl (by kernel_rfl) (by kernel_rfl) (by kernel_rfl) (fun _ _ _ h => h) (Or.inr ⟨by rfl, rfl⟩) (by assumption) ?_
                          simp only [List.getElem_toArray, List.getElem_cons_succ, List.getElem_cons_zero, Act.put, List.setIfInBounds_toArray, List.set_cons_zero, List.set_cons_succ]
                          refine wpAnyH_take (i := 28) (v := _) rfl (by kernel_rfl) (by kernel_rfl) (by kernel_rfl) (fun _ _ _ h => h) (Or.inr ⟨by rfl, rfl⟩) (by assumption) ?_
                          simp only [List.getElem_toArray, List.getElem_cons_succ, List.getElem_cons_zero, Act.put, List.setIfInBounds_toArray, List.set_cons_zero, List.set_cons_succ]
                          refine wpAnyH_take (i := 29) (v := _) rfl (by kernel_rfl) (by kernel_rfl) (by kernel_rfl) (fun _ _ _ h => h) (Or.inr ⟨by rfl, rfl⟩) (by assumption) ?_
                          simp only [List.getElem_toArray, List.getElem_cons_succ, List.getElem_cons_zero, Act.put, List.setIfInBounds_toArray, List.set_cons_zero, List.set_cons_succ]
                          refine wpAnyH_take (i := 30) (v := _) rfl (by kernel_rfl) (by kernel_rfl) (by kernel_rfl) (fun _ _ _ h => h) (Or.inr ⟨by rfl, rfl⟩) (by assumption) ?_
                          simp only [List.getElem_toArray, List.getElem_cons_succ, List.getElem_cons_zero, Act.put, List.setIfInBounds_toArray, List.set_cons_zero, List.set_cons_succ]
                          refine wpAnyH_take (i := 31) (v := _) rfl (by kernel_rfl) (by kernel_rfl) (by kernel_rfl) (fun _ _ _ h => h) (Or.inr ⟨by rfl, rfl⟩) (by assumption) ?_
                          simp only [List.getElem_toArray, List.getElem_cons_succ, List.getElem_cons_zero, Act.put, List.setIfInBounds_toArray, List.set_cons_zero, List.set_cons_succ]
                          refine wpAnyH_take (i := 32) (v := _) rfl (by kernel_rfl) (by kernel_rfl) (by kernel_rfl) (fun _ _ _ h => h) (Or.inr ⟨by rfl, rfl⟩) (by assumption) ?_
                          simp only [List.getElem_toArray, List.getElem_cons_succ, List.getElem_cons_zero, Act.put, List.setIfInBounds_toArray, List.set_cons_zero, List.set_cons_succ]
                          refine wpAnyH_take (i := 33) (v := _) rfl (by kernel_rfl) (by kernel_rfl) (by kernel_rfl) (fun _ _ _ h => h) (Or.inr ⟨by rfl, rfl⟩) (by assumption) ?_
                          simp only [List.getElem_toArray, List.getElem_cons_succ, List.getElem_cons_zero, Act.put, List.setIfInBounds_toArray, List.set_cons_zero, List.set_cons_succ]
                          refine wpAnyH_take (i := 34) (v := _) rfl (by kernel_rfl) (by kernel_rfl) (by kernel_rfl) (fun _ _ _ h => h) (Or.inr ⟨by rfl, rfl⟩) (by assumption) ?_
                          simp only [List.getElem_toArray, List.getElem_cons_succ, List.getElem_cons_zero, Act.put, List.setIfInBounds_toArray, List.set_cons_zero, List.set_cons_succ]
                          refine wpAnyH_take (i := 35) (v := ?_) rfl (by kernel_rfl) (by kernel_rfl) (by kernel_rfl) (fun _ _ _ h => h) (Or.inl ⟨by rfl, ?_⟩) (by assumption) ?_
                          rotate_left
                          · intro w hSw
                            go_simp
                            try with_reducible rfl
                          simp only [List.getElem_toArray, List.getElem_cons_succ, List.getElem_cons_zero, Act.put, List.setIfInBounds_toArray, List.set_cons_zero, List.set_cons_succ]
                          refine wpAnyH_take (i := 36) (v := ?_) rfl (by kernel_rfl) (by kernel_rfl) (by kernel_rfl) (fun _ _ _ h => h) (Or.inl ⟨by rfl, ?_⟩) (by assumption) ?_
                          rotate_left
                          · intro w hSw
                            go_simp
                            try with_reducible rfl
                          simp only [List.getElem_toArray, List.getElem_cons_succ, List.getElem_cons_zero, Act.put, List.setIfInBounds_toArray, List.set_cons_zero, List.set_cons_succ]
                          refine wpAnyH_take (i := 37) (v := ?_) rfl (by kernel_rfl) (by kernel_rfl) (by kernel_rfl) (fun _ _ _ h => h) (Or.inl ⟨by rfl, ?_⟩) (by assumption) ?_
                          rotate_left
                          · intro w hSw
                            go_simp
                            try with_reducible rfl
                          simp only [List.getElem_toArray, List.getElem_cons_succ, List.getElem_cons_zero, Act.put, List.setIfInBounds_toArray, List.set_cons_zero, List.set_cons_succ]
                          refine wpAnyH_done (by kernel_rfl) ?_ _
                          have HB9 := Aside0.mk ((HB3.out).trans (HG9.out.below.mono (HB3.out).size))
                          go_wp2_with fail
                          go_roundg (l.length - ((j + 1) + 1))
                          case measure => omega
                          case rel => exact ⟨(j + 1) + 1, _, by omega, by omega, by go_num, ⟨owns_gr HO1.out (by first | exact ((HG2.out).trans HG9.out) | exact ((HG2.out).trans HG9.out).drewN _)⟩, HTS, ⟨by first | exact HB9.out | exact pw_below_drewN HB9.out _⟩⟩
                        · have eF : decide (0 < F) = false := decide_eq_false hF
                          clear hxf hxp hF
                          go_quiet (fail)
                          go_wp2_with fail
                          go_roundg (l.length - ((j + 1) + 1))
                          case measure => omega
                          case rel => exact ⟨(j + 1) + 1, _, by omega, by omega, by go_num, ⟨owns_gr HO1.out (by first | exact HG2.out | exact HG2.out.drewN _)⟩, HTS, ⟨by first | exact HB3.out | exact pw_below_drewN HB3.out _⟩⟩
                      · have ep : (xp == 0) = false := by simp [hxp]
                        clear hxf hxp
                        go_quiet (fail)
                        go_wp2_with fail
                        go_roundg (l.length - ((j + 1) + 1))
                        case measure => omega
                        case rel => exact ⟨(j + 1) + 1, _, by omega, by omega, by go_num, ⟨owns_gr HO1.out (by first | exact HG2.out | exact HG2.out.drewN _)⟩, HTS, ⟨by first | exact HB3.out | exact pw_below_drewN HB3.out _⟩⟩
                    · have ef : (xf == F) = false := by simp [hxf]
                      clear hxf
                      go_quiet (fail)
                      go_wp2_with fail
                      go_roundg (l.length - ((j + 1) + 1))
                      case measure => omega
                      case rel => exact ⟨(j + 1) + 1, _, by omega, by omega, by go_num, ⟨owns_gr HO1.out (by first | exact HG2.out | exact HG2.out.drewN _)⟩, HTS, ⟨by first | exact HB3.out | exact pw_below_drewN HB3.out _⟩⟩
                  · go_wp2_with fail
                    go_quiet (fail)
                    go_wp2_with fail
                    by_cases hxf : xf = F
                    · have ef : (xf == F) = true := by simp [hxf]
                      by_cases hxp : xp = 0
                      · have ep : (xp == 0) = true := by simp [hxp]
                        by_cases hF : 0 < F
                        · have eF : decide (0 < F) = true := decide_eq_true hF
                          have hcall : nearC (zv, zf, zp) (xv, xf, xp) = 0 := by
                            have := HTP.out hF hxf hxp
                            simpa [mOf, toT] using this
                          have HC1 := Aside0.mk (fun W => by
                            have h := HN0.out W
                            rw [hcall] at h
                            exact h)
                          clear hcall
                          obtain ⟨ad2, hA2, z0, z1, z2⟩ := at_T46 (Kd.C_below HC.out HB3.out) ((0 : Nat) : Int) (by omega) (by omega)
                          injection hA2 with hA2
                          subst hA2
                          rw [Int.toNat_natCast, HZ.out, Nat.zero_mul, add0] at z0 z1 z2
                          simp only at z0 z1 z2
                          have h0l : (0 : Int) < (l.length : Int) := by omega
                          have h0n : 0 < l.length := by omega
                          have hnt : (!true) = false := rfl
                          clear hxf hxp hF
                          refine wp_region_held_drew (S := fun W => Gr w2 W ∧ W.cell? ad = some (.int .u32 zv) ∧ W.cell? ⟨ad.block, ad.off + 1, none⟩ = some (.int .i64 zf) ∧ W.cell? ⟨ad.block, ad.off + 2, none⟩ = some (.int .i64 zp) ∧ W.cell? ⟨wr.heap.size, 0, none⟩ = some (.int .u32 xv) ∧ W.cell? ⟨wr.heap.size, 1, none⟩ = some (.int .i64 xf) ∧ W.cell? ⟨wr.heap.size, 2, none⟩ = some (.int .i64 xp)) (by kernel_rfl) (by first | (refine ⟨(Gr.refl _).drew, ?_, ?_, ?_, ?_, ?_, ?_⟩ <;> (simp; assumption)) | (refine ⟨((Gr.refl _).drewN _).drew, ?_, ?_, ?_, ?_, ?_, ?_⟩ <;> (simp; assumption))) (fun hHeld => ?_)
                          refine wpAnyH_take (i := 0) (v := ?_) rfl (by kernel_rfl) (by kernel_rfl) (by kernel_rfl) (fun _ _ _ h => h) (Or.inl ⟨by rfl, ?_⟩) (by assumption) ?_
                          rotate_left
                          · intro w hSw
                            go_simp
                            try with_reducible rfl
                          simp only [List.getElem_toArray, List.getElem_cons_zero, Act.put, List.setIfInBounds_toArray, List.set_cons_zero, List.set_cons_succ]
                          refine wpAnyH_take (i := 1) (v := ?_) rfl (by kernel_rfl) (by kernel_rfl) (by kernel_rfl) (fun _ _ _ h => h) (Or.inl ⟨by rfl, ?_⟩) (by assumption) ?_
                          rotate_left
                          · intro w hSw
                            go_simp
                            try with_reducible rfl
                          simp only [List.getElem_toArray, List.getElem_cons_succ, List.getElem_cons_zero, Act.put, List.setIfInBounds_toArray, List.set_cons_zero, List.set_cons_succ]
                          refine wpAnyH_take (i := 2) (v := ?_) rfl (by kernel_rfl) (by kernel_rfl) (by kernel_rfl) (fun _ _ _ h => h) (Or.inl ⟨by rfl, ?_⟩) (by assumption) ?_
                          rotate_left
                          · intro w hSw
                            go_simp
                            try with_reducible rfl
                          simp only [List.getElem_toArray, List.getElem_cons_succ, List.getElem_cons_zero, Act.put, List.setIfInBounds_toArray, List.set_cons_zero, List.set_cons_succ]
                          refine wpAnyH_take (i := 3) (v := ?_) rfl (by kernel_rfl) (by kernel_rfl) (by kernel_rfl) (fun _ _ _ h => h) (Or.inl ⟨by rfl, ?_⟩) (by assumption) ?_
                          rotate_left
                          · intro w hSw
                            go_simp
                            try with_reducible rfl
                          simp only [List.getElem_toArray, List.getElem_cons_succ, List.getElem_cons_zero, Act.put, List.setIfInBounds_toArray, List.set_cons_zero, List.set_cons_succ]
                          refine wpAnyH_take (i := 4) (v := ?_) rfl (by kernel_rfl) (by kernel_rfl) (by kernel_rfl) (fun _ _ _ h => h) (Or.inl ⟨by rfl, ?_⟩) (by assumption) ?_
                          rotate_left
                          · intro w hSw
                            go_simp
                            try with_reducible rfl
                          simp only [List.getElem_toArray, List.getElem_cons_succ, List.getElem_cons_zero, Act.put, List.setIfInBounds_toArray, List.set_cons_zero, List.set_cons_succ]
                          refine wpAnyH_take (i := 5) (v := ?_) rfl (by kernel_rfl) (by kernel_rfl) (by kernel_rfl) (fun _ _ _ h => h) (Or.inl ⟨by rfl, ?_⟩) (by assumption) ?_
                          rotate_left
                          · intro w hSw
                            go_simp
                            try with_reducible rfl
                          simp only [List.getElem_toArray, List.getElem_cons_succ, List.getElem_cons_zero, Act.put, List.setIfInBounds_toArray, List.set_cons_zero, List.set_cons_succ]
                          refine wpAnyH_take (i := 6) (v := ?_) rfl (by kernel_rfl) (by kernel_rfl) (by kernel_rfl) (fun _ _ _ h => h) (Or.inl ⟨by rfl, ?_⟩) (by assumption) ?_
                          rotate_left
                          · intro w hSw
                            go_simp
                            try with_reducible rfl
                          simp only [List.getElem_toArray, List.getElem_cons_succ, List.getElem_cons_zero, Act.put, List.setIfInBounds_toArray, List.set_cons_zero, List.set_cons_succ]
                          refine wpAnyH_take (i := 7) (v := ?_) rfl (by kernel_rfl) (by kernel_rfl) (by kernel_rfl) (fun _ _ _ h => h) (Or.inl ⟨by rfl, ?_⟩) (by assumption) ?_
                          rotate_left
                          · intro w hSw
                            go_simp
                            try with_reducible rfl
                          simp only [List.getElem_toArray, List.getElem_cons_succ, List.getElem_cons_zero, Act.put, List.setIfInBounds_toArray, List.set_cons_zero, List.set_cons_succ]
                          refine wpAnyH_take (i := 8) (v := ?_) rfl (by kernel_rfl) (by kernel_rfl) (by kernel_rfl) (fun _ _ _ h => h) (Or.inl ⟨by rfl, ?_⟩) (by assumption) ?_
                          rotate_left
                          · intro w hSw
                            go_simp
                            try with_reducible rfl
                          simp only [List.getElem_toArray, List.getElem_cons_succ, List.getElem_cons_zero, Act.put, List.setIfInBounds_toArray, List.set_cons_zero, List.set_cons_succ]
                          refine wpAnyH_take (i := 9) (v := ?_) rfl (by kernel_rfl) (by kernel_rfl) (by kernel_rfl) (fun _ _ _ h => h) (Or.inl ⟨by rfl, ?_⟩) (by assumption) ?_
                          rotate_left
                          · intro w hSw
                            go_simp
                            try with_reducible rfl
                          simp only [List.getElem_toArray, List.getElem_cons_succ, List.getElem_cons_zero, Act.put, List.setIfInBounds_toArray, List.set_cons_zero, List.set_cons_succ]
                          refine wpAnyH_take (i := 10) (v := ?_) rfl (by kernel_rfl) (by kernel_rfl) (by kernel_rfl) (fun _ _ _ h => h) (Or.inl ⟨by rfl, ?_⟩) (by assumption) ?_
                          rotate_left
                          · intro w hSw
                            go_simp
                            try with_reducible rfl
                          simp only [List.getElem_toArray, List.getElem_cons_succ, List.getElem_cons_zero, Act.put, List.setIfInBounds_toArray, List.set_cons_zero, List.set_cons_succ]
                          refine wpAnyH_take (i := 11) (v := ?_) rfl (by kernel_rfl) (by kernel_rfl) (by kernel_rfl) (fun _ _ _ h => h) (Or.inl ⟨by rfl, ?_⟩) (by assumption) ?_
                          rotate_left
                          · intro w hSw
                            go_simp
                            try with_reducible rfl
                          simp only [List.getElem_toArray, List.getElem_cons_succ, List.getElem_cons_zero, Act.put, List.setIfInBounds_toArray, List.set_cons_zero, List.set_cons_succ]
                          refine wpAnyH_take (i := 12) (v := ?_) rfl (by kernel_rfl) (by kernel_rfl) (by kernel_rfl) (fun _ _ _ h => h) (Or.inl ⟨by rfl, ?_⟩) (by assumption) ?_
                          rotate_left
                          · intro w hSw
                            go_simp
                            try with_reducible rfl
                          simp only [List.getElem_toArray, List.getElem_cons_succ, List.getElem_cons_zero, Act.put, List.setIfInBounds_toArray, List.set_cons_zero, List.set_cons_succ]
                          refine wpAnyH_take (i := 13) (v := ?_) rfl (by kernel_rfl) (by kernel_rfl) (by kernel_rfl) (fun _ _ _ h => h) (Or.inl ⟨by rfl, ?_⟩) (by assumption) ?_
                          rotate_left
                          · intro w hSw
                            go_simp
                            try with_reducible rfl
                          simp only [List.getElem_toArray, List.getElem_cons_succ, List.getElem_cons_zero, Act.put, List.setIfInBounds_toArray, List.set_cons_zero, List.set_cons_succ]
                          refine wpAnyH_take (i := 14) (v := ?_) rfl (by kernel_rfl) (by kernel_rfl) (by kernel_rfl) (fun _ _ _ h => h) (Or.inl ⟨by rfl, ?_⟩) (by assumption) ?_
                          rotate_left
                          · intro w hSw
                            go_simp
                            try with_reducible rfl
                          simp only [List.getElem_toArray, List.getElem_cons_succ, List.getElem_cons_zero, Act.put, List.setIfInBounds_toArray, List.set_cons_zero, List.set_cons_succ]
                          refine wpAnyH_take (i := 15) (v := ?_) rfl (by kernel_rfl) (by kernel_rfl) (by kernel_rfl) (fun _ _ _ h => h) (Or.inl ⟨by rfl, ?_⟩) (by assumption) ?_
                          rotate_left
                          · intro w hSw
                            go_simp
                            try with_reducible rfl
                          simp only [List.getElem_toArray, List.getElem_cons_succ, List.getElem_cons_zero, Act.put, List.setIfInBounds_toArray, List.set_cons_zero, List.set_cons_succ]
                          refine wpAnyH_take (i := 16) (v := ?_) rfl (by kernel_rfl) (by kernel_rfl) (by kernel_rfl) (fun _ _ _ h => h) (Or.inl ⟨by rfl, ?_⟩) (by assumption) ?_
                          rotate_left
                          · intro w hSw
                            go_simp
                            try with_reducible rfl
                          simp only [List.getElem_toArray, List.getElem_cons_succ, List.getElem_cons_zero, Act.put, List.setIfInBounds_toArray, List.set_cons_zero, List.set_cons_succ]
                          refine wpAnyH_take (i := 17) (v := ?_) rfl (by kernel_rfl) (by kernel_rfl) (by kernel_rfl) (fun _ _ _ h => h) (Or.inl ⟨by rfl, ?_⟩) (by assumption) ?_
                          rotate_left
                          · intro w hSw
                            go_simp
                            try with_reducible rfl
                          simp only [List.getElem_toArray, List.getElem_cons_succ, List.getElem_cons_zero, Act.put, List.setIfInBounds_toArray, List.set_cons_zero, List.set_cons_succ]
                          refine wpAnyH_take (i := 18) (v := ?_) rfl (by kernel_rfl) (by kernel_rfl) (by kernel_rfl) (fun _ _ _ h => h) (Or.inl ⟨by rfl, ?_⟩) (by assumption) ?_
                          rotate_left
                          · intro w hSw
                            go_simp
                            try with_reducible rfl
                          simp only [List.getElem_toArray, List.getElem_cons_succ, List.getElem_cons_zero, Act.put, List.setIfInBounds_toArray, List.set_cons_zero, List.set_cons_succ]
                          refine wpAnyH_take (i := 19) (v := ?_) rfl (by kernel_rfl) (by kernel_rfl) (by kernel_rfl) (fun _ _ _ h => h) (Or.inl ⟨by rfl, ?_⟩) (by assumption) ?_
                          rotate_left
                          · intro w hSw
                            go_simp
                            try with_reducible rfl
                          simp only [List.getElem_toArray, List.getElem_cons_succ, List.getElem_cons_zero, Act.put, List.setIfInBounds_toArray, List.set_cons_zero, List.set_cons_succ]
                          refine wpAnyH_take (i := 20) (v := ?_) rfl (by kernel_rfl) (by kernel_rfl) (by kernel_rfl) (fun _ _ _ h => h) (Or.inl ⟨by rfl, ?_⟩) (by assumption) ?_
                          rotate_left
                          · intro w hSw
                            go_simp
                            try with_reducible rfl
                          simp only [List.getElem_toArray, List.getElem_cons_succ, List.getElem_cons_zero, Act.put, List.setIfInBounds_toArray, List.set_cons_zero, List.set_cons_succ]
                          refine wpAnyH_ready (rs := [21]) (by kernel_rfl) (by simp) ?_
                          refine AllReadyH.cons rfl (fun K hK => ?_) AllReadyH.nil
                          go_simp
                          go_at_call 32
                          refine (HC1.out _).mono ?_
                          rintro e w9 ⟨rfl, hg⟩
                          have hS := (show (fun W => Gr w2 W ∧ W.cell? ad = some (.int .u32 zv) ∧ W.cell? ⟨ad.block, ad.off + 1, none⟩ = some (.int .i64 zf) ∧ W.cell? ⟨ad.block, ad.off + 2, none⟩ = some (.int .i64 zp) ∧ W.cell? ⟨wr.heap.size, 0, none⟩ = some (.int .u32 xv) ∧ W.cell? ⟨wr.heap.size, 1, none⟩ = some (.int .i64 xf) ∧ W.cell? ⟨wr.heap.size, 2, none⟩ = some (.int .i64 xp)) w9 from ⟨(by first | exact (Gr.refl _).drew.trans hg | exact ((Gr.refl _).drewN _).drew.trans hg), hg.cell' (by simp; assumption), hg.cell' (by simp; assumption), hg.cell' (by simp; assumption), hg.cell' (by simp; assumption), hg.cell' (by simp; assumption), hg.cell' (by simp; assumption)⟩)
                          have HG9 := Aside0.mk hS.1
                          clear hg hHeld
                          go_wp2_with fail
                          refine hK.out _ _ hS (fun hHeld => ?_)
                          clear hK K hS
                          refine wpAnyH_take (i := 22) (v := ?_) rfl (by kernel_rfl) (by kernel_rfl) (by kernel_rfl) (fun _ _ _ h => h) (Or.inl ⟨by rfl, ?_⟩) (by assumption) ?_
                          rotate_left
                          · intro w hSw
                            go_simp
                            try with_reducible rfl
                          simp only [List.getElem_toArray, List.getElem_cons_succ, List.getElem_cons_zero, Act.put, List.setIfInBounds_toArray, List.set_cons_zero, List.set_cons_succ]
                          refine wpAnyH_take (i := 23) (v := ?_) rfl (by kernel_rfl) (by kernel_rfl) (by kernel_rfl) (fun _ _ _ h => h) (Or.inl ⟨by rfl, ?_⟩) (by assumption) ?_
                          rotate_left
                          · intro w hSw
                            go_simp
                            try with_reducible rfl
                          simp only [List.getElem_toArray, List.getElem_cons_succ, List.getElem_cons_zero, Act.put, List.setIfInBounds_toArray, List.set_cons_zero, List.set_cons_succ]
                          refine wpAnyH_take (i := 24) (v := ?_) rfl (by kernel_rfl) (by kernel_rfl) (by kernel_rfl) (fun _ _ _ h => h) (Or.inl ⟨by rfl, ?_⟩) (by assumption) ?_
                          rotate_left
                          · intro w hSw
                            go_simp
                            try with_reducible rfl
                          simp only [List.getElem_toArray, List.getElem_cons_succ, List.getElem_cons_zero, Act.put, List.setIfInBounds_toArray, List.set_cons_zero, List.set_cons_succ]
                          refine wpAnyH_take (i := 25) (v := ?_) rfl (by kernel_rfl) (by kernel_rfl) (by kernel_rfl) (fun _ _ _ h => h) (Or.inl ⟨by rfl, ?_⟩) (by assumption) ?_
                          rotate_left
                          · intro w hSw
                            go_simp
                            try with_reducible rfl
                          simp only [List.getElem_toArray, List.getElem_cons_succ, List.getElem_cons_zero, Act.put, List.setIfInBounds_toArray, List.set_cons_zero, List.set_cons_succ]
                          refine wpAnyH_take (i := 26) (v := ?_) rfl (by kernel_rfl) (by kernel_rfl) (by kernel_rfl) (fun _ _ _ h => h) (Or.inl ⟨by rfl, ?_⟩) (by assumption) ?_
                          rotate_left
                          · intro w hSw
                            go_simp
                            try with_reducible rfl
                          simp only [List.getElem_toArray, List.getElem_cons_succ, List.getElem_cons_zero, Act.put, List.setIfInBounds_toArray, List.set_cons_zero, List.set_cons_succ]
                          refine wpAnyH_take (i := 27) (v := _) rfl (by kernel_rfl) (by kernel_rfl) (by kernel_rfl) (fun _ _ _ h => h) (Or.inr ⟨by rfl, rfl⟩) (by assumption) ?_
                          simp only [List.getElem_toArray, List.getElem_cons_succ, List.getElem_cons_zero, Act.put, List.setIfInBounds_toArray, List.set_cons_zero, List.set_cons_succ]
                          refine wpAnyH_take (i := 28) (v := _) rfl (by kernel_rfl) (by kernel_rfl) (by kernel_rfl) (fun _ _ _ h => h) (Or.inr ⟨by rfl, rfl⟩) (by assumption) ?_
                          simp only [List.getElem_toArray, List.getElem_cons_succ, List.getElem_cons_zero, Act.put, List.setIfInBounds_toArray, List.set_cons_zero, List.set_cons_succ]
                          refine wpAnyH_take (i := 29) (v := _) rfl (by kernel_rfl) (by kernel_rfl) (by kernel_rfl) (fun _ _ _ h => h) (Or.inr ⟨by rfl, rfl⟩) (by assumption) ?_
                          simp only [List.getElem_toArray, List.getElem_cons_succ, List.getElem_cons_zero, Act.put, List.setIfInBounds_toArray, List.set_cons_zero, List.set_cons_succ]
                          refine wpAnyH_take (i := 30) (v := _) rfl (by kernel_rfl) (by kernel_rfl) (by kernel_rfl) (fun _ _ _ h => h) (Or.inr ⟨by rfl, rfl⟩) (by assumption) ?_
                          simp only [List.getElem_toArray, List.getElem_cons_succ, List.getElem_cons_zero, Act.put, List.setIfInBounds_toArray, List.set_cons_zero, List.set_cons_succ]
                          refine wpAnyH_take (i := 31) (v := _) rfl (by kernel_rfl) (by kernel_rfl) (by kernel_rfl) (fun _ _ _ h => h) (Or.inr ⟨by rfl, rfl⟩) (by assumption) ?_
                          simp only [List.getElem_toArray, List.getElem_cons_succ, List.getElem_cons_zero, Act.put, List.setIfInBounds_toArray, List.set_cons_zero, List.set_cons_succ]
                          refine wpAnyH_take (i := 32) (v := _) rfl (by kernel_rfl) (by kernel_rfl) (by kernel_rfl) (fun _ _ _ h => h) (Or.inr ⟨by rfl, rfl⟩) (by assumption) ?_
                          simp only [List.getElem_toArray, List.getElem_cons_succ, List.getElem_cons_zero, Act.put, List.setIfInBounds_toArray, List.set_cons_zero, List.set_cons_succ]
                          refine wpAnyH_take (i := 33) (v := _) rfl (by kernel_rfl) (by kernel_rfl) (by kernel_rfl) (fun _ _ _ h => h) (Or.inr ⟨by rfl, rfl⟩) (by assumption) ?_
                          simp only [List.getElem_toArray, List.getElem_cons_succ, List.getElem_cons_zero, Act.put, List.setIfInBounds_toArray, List.set_cons_zero, List.set_cons_succ]
                          refine wpAnyH_take (i := 34) (v := _) rfl (by kernel_rfl) (by kernel_rfl) (by kernel_rfl) (fun _ _ _ h => h) (Or.inr ⟨by rfl, rfl⟩) (by assumption) ?_
                          simp only [List.getElem_toArray, List.getElem_cons_succ, List.getElem_cons_zero, Act.put, List.setIfInBounds_toArray, List.set_cons_zero, List.set_cons_succ]
                          refine wpAnyH_take (i := 35) (v := ?_) rfl (by kernel_rfl) (by kernel_rfl) (by kernel_rfl) (fun _ _ _ h => h) (Or.inl ⟨by rfl, ?_⟩) (by assumption) ?_
                          rotate_left
                          · intro w hSw
                            go_simp
                            try with_reducible rfl
                          simp only [List.getElem_toArray, List.getElem_cons_succ, List.getElem_cons_zero, Act.put, List.setIfInBounds_toArray, List.set_cons_zero, List.set_cons_succ]
                          refine wpAnyH_take (i := 36) (v := ?_) rfl (by kernel_rfl) (by kernel_rfl) (by kernel_rfl) (fun _ _ _ h => h) (Or.inl ⟨by rfl, ?_⟩) (by assumption) ?_
                          rotate_left
                          · intro w hSw
                            go_simp
                            try with_reducible rfl
                          simp only [List.getElem_toArray, List.getElem_cons_succ, List.getElem_cons_zero, Act.put, List.setIfInBounds_toArray, List.set_cons_zero, List.set_cons_succ]
                          refine wpAnyH_take (i := 37) (v := ?_) rfl (by kernel_rfl) (by kernel_rfl) (by kernel_rfl) (fun _ _ _ h => h) (Or.inl ⟨by rfl, ?_⟩) (by assumption) ?_
                          rotate_left
                          · intro w hSw
                            go_simp
                            try with_reducible rfl
                          simp only [List.getElem_toArray, List.getElem_cons_succ, List.getElem_cons_zero, Act.put, List.setIfInBounds_toArray, List.set_cons_zero, List.set_cons_succ]
                          refine wpAnyH_done (by kernel_rfl) ?_ _
                          have HB9 := Aside0.mk ((HB3.out).trans (HG9.out.below.mono (HB3.out).size))
                          go_wp2_with fail
                          go_roundg (l.length - ((j + 1) + 1))
                          case measure => omega
                          case rel => exact ⟨(j + 1) + 1, _, by omega, by omega, by go_num, ⟨owns_gr HO1.out (by first | exact ((HG2.out).trans HG9.out) | exact ((HG2.out).trans HG9.out).drewN _)⟩, HTS, ⟨by first | exact HB9.out | exact pw_below_drewN HB9.out _⟩⟩
                        · have eF : decide (0 < F) = false := decide_eq_false hF
                          clear hxf hxp hF
                          go_quiet (fail)
                          go_wp2_with fail
                          go_roundg (l.length - ((j + 1) + 1))
                          case measure => omega
                          case rel => exact ⟨(j + 1) + 1, _, by omega, by omega, by go_num, ⟨owns_gr HO1.out (by first | exact HG2.out | exact HG2.out.drewN _)⟩, HTS, ⟨by first | exact HB3.out | exact pw_below_drewN HB3.out _⟩⟩
                      · have ep : (xp == 0) = false := by simp [hxp]
                        clear hxf hxp
                        go_quiet (fail)
                        go_wp2_with fail
                        go_roundg (l.length - ((j + 1) + 1))
                        case measure => omega
                        case rel => exact ⟨(j + 1) + 1, _, by omega, by omega, by go_num, ⟨owns_gr HO1.out (by first | exact HG2.out | exact HG2.out.drewN _)⟩, HTS, ⟨by first | exact HB3.out | exact pw_below_drewN HB3.out _⟩⟩
                    · have ef : (xf == F) = false := by simp [hxf]
                      clear hxf
                      go_quiet (fail)
                      go_wp2_with fail
                      go_roundg (l.length - ((j + 1) + 1))
                      case measure => omega
                      case rel => exact ⟨(j + 1) + 1, _, by omega, by omega, by go_num, ⟨owns_gr HO1.out (by first | exact HG2.out | exact HG2.out.drewN _)⟩, HTS, ⟨by first | exact HB3.out | exact pw_below_drewN HB3.out _⟩⟩
                · go_wp2_with fail
                  have HB4 := Aside0.mk (HB2.out.trans (HG2.out.below.mono HB2.out.size))
                  have HBX4 := Aside0.mk ((HG2.out.below.block _ (by simpa using (Array.getElem?_eq_some_iff.mp HBX.out).1)).trans HBX.out)
                  clear g0 g1 g2 x0 x1 x2
                  have x0 : w2.cell? ⟨wr.heap.size, 0, none⟩ = some (.int .u32 xv) := (blk_cell HBX4.out 0).trans rfl
                  have x1 : w2.cell? ⟨wr.heap.size, 1, none⟩ = some (.int .i64 xf) := (blk_cell HBX4.out 1).trans rfl
                  have x2 : w2.cell? ⟨wr.heap.size, 2, none⟩ = some (.int .i64 xp) := (blk_cell HBX4.out 2).trans rfl
                  obtain ⟨ad', hA', g0, g1, g2⟩ := at_T46 (Kd.C_below HC.out HB4.out) (j : Int) (by omega) (by omega)
                  injection hA' with hA'
                  subst hA'
                  rw [Int.toNat_natCast, HY.out] at g0 g1 g2
                  simp only at g0 g1 g2
                  (first | (go_region_held3 (fun W => Gr w2 W ∧ W.cell? (ad.add (j * 3)) = some (.int .u32 yv) ∧ W.cell? ⟨(ad.add (j * 3)).block, (ad.add (j * 3)).off + 1, none⟩ = some (.int .i64 yf) ∧ W.cell? ⟨(ad.add (j * 3)).block, (ad.add (j * 3)).off + 2, none⟩ = some (.int .i64 yp) ∧ W.cell? ⟨wr.heap.size, 0, none⟩ = some (.int .u32 xv) ∧ W.cell? ⟨wr.heap.size, 1, none⟩ = some (.int .i64 xf) ∧ W.cell? ⟨wr.heap.size, 2, none⟩ = some (.int .i64 xp)) (first | (refine ⟨(Gr.refl _).drew, ?_, ?_, ?_, ?_, ?_, ?_⟩ <;> (simp; assumption)) | (refine ⟨((Gr.refl _).drewN _).drew, ?_, ?_, ?_, ?_, ?_, ?_⟩ <;> (simp; assumption)) | exact hS)
                    (first | (go_at_call 33; refine (HRt.out _).mono ?_; rintro e w3 ⟨rfl, hg⟩; have hS := (show (fun W => Gr w2 W ∧ W.cell? (ad.add (j * 3)) = some (.int .u32 yv) ∧ W.cell? ⟨(ad.add (j * 3)).block, (ad.add (j * 3)).off + 1, none⟩ = some (.int .i64 yf) ∧ W.cell? ⟨(ad.add (j * 3)).block, (ad.add (j * 3)).off + 2, none⟩ = some (.int .i64 yp) ∧ W.cell? ⟨wr.heap.size, 0, none⟩ = some (.int .u32 xv) ∧ W.cell? ⟨wr.heap.size, 1, none⟩ = some (.int .i64 xf) ∧ W.cell? ⟨wr.heap.size, 2, none⟩ = some (.int .i64 xp)) w3 from ⟨(by first | exact (Gr.refl _).drew.trans hg | exact ((Gr.refl _).drewN _).drew.trans hg), hg.cell' (by simp; assumption), hg.cell' (by simp; assumption), hg.cell' (by simp; assumption), hg.cell' (by simp; assumption), hg.cell' (by simp; assumption), hg.cell' (by simp; assumption)⟩); have HG3 := Aside0.mk hS.1; clear hg))) | fail)
                  have HG4 := Aside0.mk (HG2.out.trans HG3.out)
                  have hnx := HNX.out
                  simp only [mOf, if_true, toT] at hnx
                  generalize rateC F P (yv, yf, yp) (xv, xf, xp) = m at *
                  have HB3 := Aside0.mk (HB2.out.trans (HG4.out.below.mono HB2.out.size))
                  have HBX2 := Aside0.mk ((HG4.out.below.block _ (by simpa using (Array.getElem?_eq_some_iff.mp HBX.out).1)).trans HBX.out)
                  clear g0 g1 g2 x0 x1 x2
                  have x0 : w3.cell? ⟨wr.heap.size, 0, none⟩ = some (.int .u32 xv) := (blk_cell HBX2.out 0).trans rfl
                  have x1 : w3.cell? ⟨wr.heap.size, 1, none⟩ = some (.int .i64 xf) := (blk_cell HBX2.out 1).trans rfl
                  have x2 : w3.cell? ⟨wr.heap.size, 2, none⟩ = some (.int .i64 xp) := (blk_cell HBX2.out 2).trans rfl
                  obtain ⟨ad', hA', g0, g1, g2⟩ := at_T46 (Kd.C_below HC.out HB3.out) (j : Int) (by omega) (by omega)
                  injection hA' with hA'
                  subst hA'
                  rw [Int.toNat_natCast, HY.out] at g0 g1 g2
                  simp only at g0 g1 g2
                  have hm0 : decide (m < 0) = false := decide_eq_false (by omega)
                  have hmy : (m == 0) = false ∨ ((m == 0) = true ∧ decide (xv ≤ yv) = false) := by
                    by_cases h : m = 0
                    · exact .inr ⟨by simp [h], decide_eq_false (by have := hnx.2 h; omega)⟩
                    · exact .inl (by simp [h])
                  clear hnx
                  rcases hmy with hmy | ⟨hmy, hmz⟩
                  · go_wp2_with fail
                    go_quiet (fail)
                    go_wp2_with fail
                    by_cases hxf : xf = F
                    · have ef : (xf == F) = true := by simp [hxf]
                      by_cases hxp : xp = 0
                      · have ep : (xp == 0) = true := by simp [hxp]
                        by_cases hF : 0 < F
                        · have eF : decide (0 < F) = true := decide_eq_true hF
                          have hcall : rateC F P (zv, zf, zp) (xv, xf, xp) = 0 := by
                            have := HTP.out hF hxf hxp
                            simpa [mOf, toT] using this
                          have HC1 := Aside0.mk (fun W => by
                            have h := HR0.out W
                            rw [hcall] at h
                            exact h)
                          clear hcall
                          obtain ⟨ad2, hA2, z0, z1, z2⟩ := at_T46 (Kd.C_below HC.out HB3.out) ((0 : Nat) : Int) (by omega) (by omega)
                          injection hA2 with hA2
                          subst hA2
                          rw [Int.toNat_natCast, HZ.out, Nat.zero_mul, add0] at z0 z1 z2
                          simp only at z0 z1 z2
                          have h0l : (0 : Int) < (l.length : Int) := by omega
                          have h0n : 0 < l.length := by omega
                          have hnt : (!true) = false := rfl
                          clear hxf hxp hF
                          refine wp_region_held_drew (S := fun W => Gr w3 W ∧ W.cell? ad = some (.int .u32 zv) ∧ W.cell? ⟨ad.block, ad.off + 1, none⟩ = some (.int .i64 zf) ∧ W.cell? ⟨ad.block, ad.off + 2, none⟩ = some (.int .i64 zp) ∧ W.cell? ⟨wr.heap.size, 0, none⟩ = some (.int .u32 xv) ∧ W.cell? ⟨wr.heap.size, 1, none⟩ = some (.int .i64 xf) ∧ W.cell? ⟨wr.heap.size, 2, none⟩ = some (.int .i64 xp)) (by kernel_rfl) (by first | (refine ⟨(Gr.refl _).drew, ?_, ?_, ?_, ?_, ?_, ?_⟩ <;> (simp; assumption)) | (refine ⟨((Gr.refl _).drewN _).drew, ?_, ?_, ?_, ?_, ?_, ?_⟩ <;> (simp; assumption))) (fun hHeld => ?_)
                          refine wpAnyH_take (i := 0) (v := ?_) rfl (by kernel_rfl) (by kernel_rfl) (by kernel_rfl) (fun _ _ _ h => h) (Or.inl ⟨by rfl, ?_⟩) (by assumption) ?_
                          rotate_left
                          · intro w hSw
                            go_simp
                            try with_reducible rfl
                          simp only [List.getElem_toArray, List.getElem_cons_zero, Act.put, List.setIfInBounds_toArray, List.set_cons_zero, List.set_cons_succ]
                          refine wpAnyH_take (i := 1) (v := ?_) rfl (by kernel_rfl) (by kernel_rfl) (by kernel_rfl) (fun _ _ _ h => h) (Or.inl ⟨by rfl, ?_⟩) (by assumption) ?_
                          rotate_left
                          · intro w hSw
                            go_simp
                            try with_reducible rfl
                          simp only [List.getElem_toArray, List.getElem_cons_succ, List.getElem_cons_zero, Act.put, List.setIfInBounds_toArray, List.set_cons_zero, List.set_cons_succ]
                          refine wpAnyH_take (i := 2) (v := ?_) rfl (by kernel_rfl) (by kernel_rfl) (by kernel_rfl) (fun _ _ _ h => h) (Or.inl ⟨by rfl, ?_⟩) (by assumption) ?_
                          rotate_left
                          · intro w hSw
                            go_simp
                            try with_reducible rfl
                          simp only [List.getElem_toArray, List.getElem_cons_succ, List.getElem_cons_zero, Act.put, List.setIfInBounds_toArray, List.set_cons_zero, List.set_cons_succ]
                          refine wpAnyH_take (i := 3) (v := ?_) rfl (by kernel_rfl) (by kernel_rfl) (by kernel_rfl) (fun _ _ _ h => h) (Or.inl ⟨by rfl, ?_⟩) (by assumption) ?_
                          rotate_left
                          · intro w hSw
                            go_simp
                            try with_reducible rfl
                          simp only [List.getElem_toArray, List.getElem_cons_succ, List.getElem_cons_zero, Act.put, List.setIfInBounds_toArray, List.set_cons_zero, List.set_cons_succ]
                          refine wpAnyH_take (i := 4) (v := ?_) rfl (by kernel_rfl) (by kernel_rfl) (by kernel_rfl) (fun _ _ _ h => h) (Or.inl ⟨by rfl, ?_⟩) (by assumption) ?_
                          rotate_left
                          · intro w hSw
                            go_simp
                            try with_reducible rfl
                          simp only [List.getElem_toArray, List.getElem_cons_succ, List.getElem_cons_zero, Act.put, List.setIfInBounds_toArray, List.set_cons_zero, List.set_cons_succ]
                          refine wpAnyH_take (i := 5) (v := ?_) rfl (by kernel_rfl) (by kernel_rfl) (by kernel_rfl) (fun _ _ _ h => h) (Or.inl ⟨by rfl, ?_⟩) (by assumption) ?_
                          rotate_left
                          · intro w hSw
                            go_simp
                            try with_reducible rfl
                          simp only [List.getElem_toArray, List.getElem_cons_succ, List.getElem_cons_zero, Act.put, List.setIfInBounds_toArray, List.set_cons_zero, List.set_cons_succ]
                          refine wpAnyH_take (i := 6) (v := ?_) rfl (by kernel_rfl) (by kernel_rfl) (by kernel_rfl) (fun _ _ _ h => h) (Or.inl ⟨by rfl, ?_⟩) (by assumption) ?_
                          rotate_left
                          · intro w hSw
                            go_simp
                            try with_reducible rfl
                          simp only [List.getElem_toArray, List.getElem_cons_succ, List.getElem_cons_zero, Act.put, List.setIfInBounds_toArray, List.set_cons_zero, List.set_cons_succ]
                          refine wpAnyH_take (i := 7) (v := ?_) rfl (by kernel_rfl) (by kernel_rfl) (by kernel_rfl) (fun _ _ _ h => h) (Or.inl ⟨by rfl, ?_⟩) (by assumption) ?_
                          rotate_left
                          · intro w hSw
                            go_simp
                            try with_reducible rfl
                          simp only [List.getElem_toArray, List.getElem_cons_succ, List.getElem_cons_zero, Act.put, List.setIfInBounds_toArray, List.set_cons_zero, List.set_cons_succ]
                          refine wpAnyH_take (i := 8) (v := ?_) rfl (by kernel_rfl) (by kernel_rfl) (by kernel_rfl) (fun _ _ _ h => h) (Or.inl ⟨by rfl, ?_⟩) (by assumption) ?_
                          rotate_left
                          · intro w hSw
                            go_simp
                            try with_reducible rfl
                          simp only [List.getElem_toArray, List.getElem_cons_succ, List.getElem_cons_zero, Act.put, List.setIfInBounds_toArray, List.set_cons_zero, List.set_cons_succ]
                          refine wpAnyH_take (i := 9) (v := ?_) rfl (by kernel_rfl) (by kernel_rfl) (by kernel_rfl) (fun _ _ _ h => h) (Or.inl ⟨by rfl, ?_⟩) (by assumption) ?_
                          rotate_left
                          · intro w hSw
                            go_simp
                            try with_reducible rfl
                          simp only [List.getElem_toArray, List.getElem_cons_succ, List.getElem_cons_zero, Act.put, List.setIfInBounds_toArray, List.set_cons_zero, List.set_cons_succ]
                          refine wpAnyH_take (i := 10) (v := ?_) rfl (by kernel_rfl) (by kernel_rfl) (by kernel_rfl) (fun _ _ _ h => h) (Or.inl ⟨by rfl, ?_⟩) (by assumption) ?_
                          rotate_left
                          · intro w hSw
                            go_simp
                            try with_reducible rfl
                          simp only [List.getElem_toArray, List.getElem_cons_succ, List.getElem_cons_zero, Act.put, List.setIfInBounds_toArray, List.set_cons_zero, List.set_cons_succ]
                          refine wpAnyH_take (i := 11) (v := ?_) rfl (by kernel_rfl) (by kernel_rfl) (by kernel_rfl) (fun _ _ _ h => h) (Or.inl ⟨by rfl, ?_⟩) (by assumption) ?_
                          rotate_left
                          · intro w hSw
                            go_simp
                            try with_reducible rfl
                          simp only [List.getElem_toArray, List.getElem_cons_succ, List.getElem_cons_zero, Act.put, List.setIfInBounds_toArray, List.set_cons_zero, List.set_cons_succ]
                          refine wpAnyH_take (i := 12) (v := ?_) rfl (by kernel_rfl) (by kernel_rfl) (by kernel_rfl) (fun _ _ _ h => h) (Or.inl ⟨by rfl, ?_⟩) (by assumption) ?_
                          rotate_left
                          · intro w hSw
                            go_simp
                            try with_reducible rfl
                          simp only [List.getElem_toArray, List.getElem_cons_succ, List.getElem_cons_zero, Act.put, List.setIfInBounds_toArray, List.set_cons_zero, List.set_cons_succ]
                          refine wpAnyH_take (i := 13) (v := ?_) rfl (by kernel_rfl) (by kernel_rfl) (by kernel_rfl) (fun _ _ _ h => h) (Or.inl ⟨by rfl, ?_⟩) (by assumption) ?_
                          rotate_left
                          · intro w hSw
                            go_simp
                            try with_reducible rfl
                          simp only [List.getElem_toArray, List.getElem_cons_succ, List.getElem_cons_zero, Act.put, List.setIfInBounds_toArray, List.set_cons_zero, List.set_cons_succ]
                          refine wpAnyH_take (i := 14) (v := ?_) rfl (by kernel_rfl) (by kernel_rfl) (by kernel_rfl) (fun _ _ _ h => h) (Or.inl ⟨by rfl, ?_⟩) (by assumption) ?_
                          rotate_left
                          · intro w hSw
                            go_simp
                            try with_reducible rfl
                          simp only [List.getElem_toArray, List.getElem_cons_succ, List.getElem_cons_zero, Act.put, List.setIfInBounds_toArray, List.set_cons_zero, List.set_cons_succ]
                          refine wpAnyH_take (i := 15) (v := ?_) rfl (by kernel_rfl) (by kernel_rfl) (by kernel_rfl) (fun _ _ _ h => h) (Or.inl ⟨by rfl, ?_⟩) (by assumption) ?_
                          rotate_left
                          · intro w hSw
                            go_simp
                            try with_reducible rfl
                          simp only [List.getElem_toArray, List.getElem_cons_succ, List.getElem_cons_zero, Act.put, List.setIfInBounds_toArray, List.set_cons_zero, List.set_cons_succ]
                          refine wpAnyH_take (i := 16) (v := ?_) rfl (by kernel_rfl) (by kernel_rfl) (by kernel_rfl) (fun _ _ _ h => h) (Or.inl ⟨by rfl, ?_⟩) (by assumption) ?_
                          rotate_left
                          · intro w hSw
                            go_simp
                            try with_reducible rfl
                          simp only [List.getElem_toArray, List.getElem_cons_succ, List.getElem_cons_zero, Act.put, List.setIfInBounds_toArray, List.set_cons_zero, List.set_cons_succ]
                          refine wpAnyH_take (i := 17) (v := _) rfl (by kernel_rfl) (by kernel_rfl) (by kernel_rfl) (fun _ _ _ h => h) (Or.inr ⟨by rfl, rfl⟩) (by assumption) ?_
                          simp only [List.getElem_toArray, List.getElem_cons_succ, List.getElem_cons_zero, Act.put, List.setIfInBounds_toArray, List.set_cons_zero, List.set_cons_succ]
                          refine wpAnyH_take (i := 18) (v := _) rfl (by kernel_rfl) (by kernel_rfl) (by kernel_rfl) (fun _ _ _ h => h) (Or.inr ⟨by rfl, rfl⟩) (by assumption) ?_
                          simp only [List.getElem_toArray, List.getElem_cons_succ, List.getElem_cons_zero, Act.put, List.setIfInBounds_toArray, List.set_cons_zero, List.set_cons_succ]
                          refine wpAnyH_take (i := 19) (v := _) rfl (by kernel_rfl) (by kernel_rfl) (by kernel_rfl) (fun _ _ _ h => h) (Or.inr ⟨by rfl, rfl⟩) (by assumption) ?_
                          simp only [List.getElem_toArray, List.getElem_cons_succ, List.getElem_cons_zero, Act.put, List.setIfInBounds_toArray, List.set_cons_zero, List.set_cons_succ]
                          refine wpAnyH_take (i := 20) (v := _) rfl (by kernel_rfl) (by kernel_rfl) (by kernel_rfl) (fun _ _ _ h => h) (Or.inr ⟨by rfl, rfl⟩) (by assumption) ?_
                          simp only [List.getElem_toArray, List.getElem_cons_succ, List.getElem_cons_zero, Act.put, List.setIfInBounds_toArray, List.set_cons_zero, List.set_cons_succ]
                          refine wpAnyH_take (i := 21) (v := _) rfl (by kernel_rfl) (by kernel_rfl) (by kernel_rfl) (fun _ _ _ h => h) (Or.inr ⟨by rfl, rfl⟩) (by assumption) ?_
                          simp only [List.getElem_toArray, List.getElem_cons_succ, List.getElem_cons_zero, Act.put, List.setIfInBounds_toArray, List.set_cons_zero, List.set_cons_succ]
                          refine wpAnyH_take (i := 22) (v := _) rfl (by kernel_rfl) (by kernel_rfl) (by kernel_rfl) (fun _ _ _ h => h) (Or.inr ⟨by rfl, rfl⟩) (by assumption) ?_
                          simp only [List.getElem_toArray, List.getElem_cons_succ, List.getElem_cons_zero, Act.put, List.setIfInBounds_toArray, List.set_cons_zero, List.set_cons_succ]
                          refine wpAnyH_take (i := 23) (v := ?_) rfl (by kernel_rfl) (by kernel_rfl) (by kernel_rfl) (fun _ _ _ h => h) (Or.inl ⟨by rfl, ?_⟩) (by assumption) ?_
                          rotate_left
                          · intro w hSw
                            go_simp
                            try with_reducible rfl
                          simp only [List.getElem_toArray, List.getElem_cons_succ, List.getElem_cons_zero, Act.put, List.setIfInBounds_toArray, List.set_cons_zero, List.set_cons_succ]
                          refine wpAnyH_take (i := 24) (v := ?_) rfl (by kernel_rfl) (by kernel_rfl) (by kernel_rfl) (fun _ _ _ h => h) (Or.inl ⟨by rfl, ?_⟩) (by assumption) ?_
                          rotate_left
                          · intro w hSw
                            go_simp
                            try with_reducible rfl
                          simp only [List.getElem_toArray, List.getElem_cons_succ, List.getElem_cons_zero, Act.put, List.setIfInBounds_toArray, List.set_cons_zero, List.set_cons_succ]
                          refine wpAnyH_take (i := 25) (v := ?_) rfl (by kernel_rfl) (by kernel_rfl) (by kernel_rfl) (fun _ _ _ h => h) (Or.inl ⟨by rfl, ?_⟩) (by assumption) ?_
                          rotate_left
                          · intro w hSw
                            go_simp
                            try with_reducible rfl
                          simp only [List.getElem_toArray, List.getElem_cons_succ, List.getElem_cons_zero, Act.put, List.setIfInBounds_toArray, List.set_cons_zero, List.set_cons_succ]
                          refine wpAnyH_take (i := 26) (v := ?_) rfl (by kernel_rfl) (by kernel_rfl) (by kernel_rfl) (fun _ _ _ h => h) (Or.inl ⟨by rfl, ?_⟩) (by assumption) ?_
                          rotate_left
                          · intro w hSw
                            go_simp
                            try with_reducible rfl
                          simp only [List.getElem_toArray, List.getElem_cons_succ, List.getElem_cons_zero, Act.put, List.setIfInBounds_toArray, List.set_cons_zero, List.set_cons_succ]
                          refine wpAnyH_take (i := 27) (v := ?_) rfl (by kernel_rfl) (by kernel_rfl) (by kernel_rfl) (fun _ _ _ h => h) (Or.inl ⟨by rfl, ?_⟩) (by assumption) ?_
                          rotate_left
                          · intro w hSw
                            go_simp
                            try with_reducible rfl
                          simp only [List.getElem_toArray, List.getElem_cons_succ, List.getElem_cons_zero, Act.put, List.setIfInBounds_toArray, List.set_cons_zero, List.set_cons_succ]
                          refine wpAnyH_take (i := 28) (v := ?_) rfl (by kernel_rfl) (by kernel_rfl) (by kernel_rfl) (fun _ _ _ h => h) (Or.inl ⟨by rfl, ?_⟩) (by assumption) ?_
                          rotate_left
                          · intro w hSw
                            go_simp
                            try with_reducible rfl
                          simp only [List.getElem_toArray, List.getElem_cons_succ, List.getElem_cons_zero, Act.put, List.setIfInBounds_toArray, List.set_cons_zero, List.set_cons_succ]
                          refine wpAnyH_take (i := 29) (v := ?_) rfl (by kernel_rfl) (by kernel_rfl) (by kernel_rfl) (fun _ _ _ h => h) (Or.inl ⟨by rfl, ?_⟩) (by assumption) ?_
                          rotate_left
                          · intro w hSw
                            go_simp
                            try with_reducible rfl
                          simp only [List.getElem_toArray, List.getElem_cons_succ, List.getElem_cons_zero, Act.put, List.setIfInBounds_toArray, List.set_cons_zero, List.set_cons_succ]
                          refine wpAnyH_take (i := 30) (v := ?_) rfl (by kernel_rfl) (by kernel_rfl) (by kernel_rfl) (fun _ _ _ h => h) (Or.inl ⟨by rfl, ?_⟩) (by assumption) ?_
                          rotate_left
                          · intro w hSw
                            go_simp
                            try with_reducible rfl
                          simp only [List.getElem_toArray, List.getElem_cons_succ, List.getElem_cons_zero, Act.put, List.setIfInBounds_toArray, List.set_cons_zero, List.set_cons_succ]
                          refine wpAnyH_take (i := 31) (v := ?_) rfl (by kernel_rfl) (by kernel_rfl) (by kernel_rfl) (fun _ _ _ h => h) (Or.inl ⟨by rfl, ?_⟩) (by assumption) ?_
                          rotate_left
                          · intro w hSw
                            go_simp
                            try with_reducible rfl
                          simp only [List.getElem_toArray, List.getElem_cons_succ, List.getElem_cons_zero, Act.put, List.setIfInBounds_toArray, List.set_cons_zero, List.set_cons_succ]
                          refine wpAnyH_take (i := 32) (v := ?_) rfl (by kernel_rfl) (by kernel_rfl) (by kernel_rfl) (fun _ _ _ h => h) (Or.inl ⟨by rfl, ?_⟩) (by assumption) ?_
                          rotate_left
                          · intro w hSw
                            go_simp
                            try with_reducible rfl
                          simp only [List.getElem_toArray, List.getElem_cons_succ, List.getElem_cons_zero, Act.put, List.setIfInBounds_toArray, List.set_cons_zero, List.set_cons_succ]
                          refine wpAnyH_ready (rs := [33]) (by kernel_rfl) (by simp) ?_
                          refine AllReadyH.cons rfl (fun K hK => ?_) AllReadyH.nil
                          go_simp
                          go_at_call 33
                          refine (HC1.out _).mono ?_
                          rintro e w9 ⟨rfl, hg⟩
                          have hS := (show (fun W => Gr w3 W ∧ W.cell? ad = some (.int .u32 zv) ∧ W.cell? ⟨ad.block, ad.off + 1, none⟩ = some (.int .i64 zf) ∧ W.cell? ⟨ad.block, ad.off + 2, none⟩ = some (.int .i64 zp) ∧ W.cell? ⟨wr.heap.size, 0, none⟩ = some (.int .u32 xv) ∧ W.cell? ⟨wr.heap.size, 1, none⟩ = some (.int .i64 xf) ∧ W.cell? ⟨wr.heap.size, 2, none⟩ = some (.int .i64 xp)) w9 from ⟨(by first | exact (Gr.refl _).drew.trans hg | exact ((Gr.refl _).drewN _).drew.trans hg), hg.cell' (by simp; assumption), hg.cell' (by simp; assumption), hg.cell' (by simp; assumption), hg.cell' (by simp; assumption), hg.cell' (by simp; assumption), hg.cell' (by simp; assumption)⟩)
                          have HG9 := Aside0.mk hS.1
                          clear hg hHeld
                          go_wp2_with fail
                          refine hK.out _ _ hS (fun hHeld => ?_)
                          clear hK K hS
                          refine wpAnyH_take (i := 34) (v := ?_) rfl (by kernel_rfl) (by kernel_rfl) (by kernel_rfl) (fun _ _ _ h => h) (Or.inl ⟨by rfl, ?_⟩) (by assumption) ?_
                          rotate_left
                          · intro w hSw
                            go_simp
                            try with_reducible rfl
                          simp only [List.getElem_toArray, List.getElem_cons_succ, List.getElem_cons_zero, Act.put, List.setIfInBounds_toArray, List.set_cons_zero, List.set_cons_succ]
                          refine wpAnyH_take (i := 35) (v := ?_) rfl (by kernel_rfl) (by kernel_rfl) (by kernel_rfl) (fun _ _ _ h => h) (Or.inl ⟨by rfl, ?_⟩) (by assumption) ?_
                          rotate_left
                          · intro w hSw
                            go_simp
                            try with_reducible rfl
                          simp only [List.getElem_toArray, List.getElem_cons_succ, List.getElem_cons_zero, Act.put, List.setIfInBounds_toArray, List.set_cons_zero, List.set_cons_succ]
                          refine wpAnyH_take (i := 36) (v := ?_) rfl (by kernel_rfl) (by kernel_rfl) (by kernel_rfl) (fun _ _ _ h => h) (Or.inl ⟨by rfl, ?_⟩) (by assumption) ?_
                          rotate_left
                          · intro w hSw
                            go_simp
                            try with_reducible rfl
                          simp only [List.getElem_toArray, List.getElem_cons_succ, List.getElem_cons_zero, Act.put, List.setIfInBounds_toArray, List.set_cons_zero, List.set_cons_succ]
                          refine wpAnyH_take (i := 37) (v := ?_) rfl (by kernel_rfl) (by kernel_rfl) (by kernel_rfl) (fun _ _ _ h => h) (Or.inl ⟨by rfl, ?_⟩) (by assumption) ?_
                          rotate_left
                          · intro w hSw
                            go_simp
                            try with_reducible rfl
                          simp only [List.getElem_toArray, List.getElem_cons_succ, List.getElem_cons_zero, Act.put, List.setIfInBounds_toArray, List.set_cons_zero, List.set_cons_succ]
                          refine wpAnyH_done (by kernel_rfl) ?_ _
                          have HB9 := Aside0.mk ((HB3.out).trans (HG9.out.below.mono (HB3.out).size))
                          go_wp2_with fail
                          go_roundg (l.length - ((j + 1) + 1))
                          case measure => omega
                          case rel => exact ⟨(j + 1) + 1, _, by omega, by omega, by go_num, ⟨owns_gr HO1.out (by first | exact ((HG4.out).trans HG9.out) | exact ((HG4.out).trans HG9.out).drewN _)⟩, HTS, ⟨by first | exact HB9.out | exact pw_below_drewN HB9.out _⟩⟩
                        · have eF : decide (0 < F) = false := decide_eq_false hF
                          clear hxf hxp hF
                          go_quiet (fail)
                          go_wp2_with fail
                          go_roundg (l.length - ((j + 1) + 1))
                          case measure => omega
                          case rel => exact ⟨(j + 1) + 1, _, by omega, by omega, by go_num, ⟨owns_gr HO1.out (by first | exact HG4.out | exact HG4.out.drewN _)⟩, HTS, ⟨by first | exact HB3.out | exact pw_below_drewN HB3.out _⟩⟩
                      · have ep : (xp == 0) = false := by simp [hxp]
                        clear hxf hxp
                        go_quiet (fail)
                        go_wp2_with fail
                        go_roundg (l.length - ((j + 1) + 1))
                        case measure => omega
                        case rel => exact ⟨(j + 1) + 1, _, by omega, by omega, by go_num, ⟨owns_gr HO1.out (by first | exact HG4.out | exact HG4.out.drewN _)⟩, HTS, ⟨by first | exact HB3.out | exact pw_below_drewN HB3.out _⟩⟩
                    · have ef : (xf == F) = false := by simp [hxf]
                      clear hxf
                      go_quiet (fail)
                      go_wp2_with fail
                      go_roundg (l.length - ((j + 1) + 1))
                      case measure => omega
                      case rel => exact ⟨(j + 1) + 1, _, by omega, by omega, by go_num, ⟨owns_gr HO1.out (by first | exact HG4.out | exact HG4.out.drewN _)⟩, HTS, ⟨by first | exact HB3.out | exact pw_below_drewN HB3.out _⟩⟩
                  · go_wp2_with fail
                    go_quiet (fail)
                    go_wp2_with fail
                    by_cases hxf : xf = F
                    · have ef : (xf == F) = true := by simp [hxf]
                      by_cases hxp : xp = 0
                      · have ep : (xp == 0) = true := by simp [hxp]
                        by_cases hF : 0 < F
                        · have eF : decide (0 < F) = true := decide_eq_true hF
                          have hcall : rateC F P (zv, zf, zp) (xv, xf, xp) = 0 := by
                            have := HTP.out hF hxf hxp
                            simpa [mOf, toT] using this
                          have HC1 := Aside0.mk (fun W => by
                            have h := HR0.out W
                            rw [hcall] at h
                            exact h)
                          clear hcall
                          obtain ⟨ad2, hA2, z0, z1, z2⟩ := at_T46 (Kd.C_below HC.out HB3.out) ((0 : Nat) : Int) (by omega) (by omega)
                          injection hA2 with hA2
                          subst hA2
                          rw [Int.toNat_natCast, HZ.out, Nat.zero_mul, add0] at z0 z1 z2
                          simp only at z0 z1 z2
                          have h0l : (0 : Int) < (l.length : Int) := by omega
                          have h0n : 0 < l.length := by omega
                          have hnt : (!true) = false := rfl
                          clear hxf hxp hF
                          refine wp_region_held_drew (S := fun W => Gr w3 W ∧ W.cell? ad = some (.int .u32 zv) ∧ W.cell? ⟨ad.block, ad.off + 1, none⟩ = some (.int .i64 zf) ∧ W.cell? ⟨ad.block, ad.off + 2, none⟩ = some (.int .i64 zp) ∧ W.cell? ⟨wr.heap.size, 0, none⟩ = some (.int .u32 xv) ∧ W.cell? ⟨wr.heap.size, 1, none⟩ = some (.int .i64 xf) ∧ W.cell? ⟨wr.heap.size, 2, none⟩ = some (.int .i64 xp)) (by kernel_rfl) (by first | (refine ⟨(Gr.refl _).drew, ?_, ?_, ?_, ?_, ?_, ?_⟩ <;> (simp; assumption)) | (refine ⟨((Gr.refl _).drewN _).drew, ?_, ?_, ?_, ?_, ?_, ?_⟩ <;> (simp; assumption))) (fun hHeld => ?_)
                          refine wpAnyH_take (i := 0) (v := ?_) rfl (by kernel_rfl) (by kernel_rfl) (by kernel_rfl) (fun _ _ _ h => h) (Or.inl ⟨by rfl, ?_⟩) (by assumption) ?_
                          rotate_left
                          · intro w hSw
                            go_simp
                            try with_reducible rfl
                          simp only [List.getElem_toArray, List.getElem_cons_zero, Act.put, List.setIfInBounds_toArray, List.set_cons_zero, List.set_cons_succ]
                          refine wpAnyH_take (i := 1) (v := ?_) rfl (by kernel_rfl) (by kernel_rfl) (by kernel_rfl) (fun _ _ _ h => h) (Or.inl ⟨by rfl, ?_⟩) (by assumption) ?_
                          rotate_left
                          · intro w hSw
                            go_simp
                            try with_reducible rfl
                          simp only [List.getElem_toArray, List.getElem_cons_succ, List.getElem_cons_zero, Act.put, List.setIfInBounds_toArray, List.set_cons_zero, List.set_cons_succ]
                          refine wpAnyH_take (i := 2) (v := ?_) rfl (by kernel_rfl) (by kernel_rfl) (by kernel_rfl) (fun _ _ _ h => h) (Or.inl ⟨by rfl, ?_⟩) (by assumption) ?_
                          rotate_left
                          · intro w hSw
                            go_simp
                            try with_reducible rfl
                          simp only [List.getElem_toArray, List.getElem_cons_succ, List.getElem_cons_zero, Act.put, List.setIfInBounds_toArray, List.set_cons_zero, List.set_cons_succ]
                          refine wpAnyH_take (i := 3) (v := ?_) rfl (by kernel_rfl) (by kernel_rfl) (by kernel_rfl) (fun _ _ _ h => h) (Or.inl ⟨by rfl, ?_⟩) (by assumption) ?_
                          rotate_left
                          · intro w hSw
                            go_simp
                            try with_reducible rfl
                          simp only [List.getElem_toArray, List.getElem_cons_succ, List.getElem_cons_zero, Act.put, List.setIfInBounds_toArray, List.set_cons_zero, List.set_cons_succ]
                          refine wpAnyH_take (i := 4) (v := ?_) rfl (by kernel_rfl) (by kernel_rfl) (by kernel_rfl) (fun _ _ _ h => h) (Or.inl ⟨by rfl, ?_⟩) (by assumption) ?_
                          rotate_left
                          · intro w hSw
                            go_simp
                            try with_reducible rfl
                          simp only [List.getElem_toArray, List.getElem_cons_succ, List.getElem_cons_zero, Act.put, List.setIfInBounds_toArray, List.set_cons_zero, List.set_cons_succ]
                          refine wpAnyH_take (i := 5) (v := ?_) rfl (by kernel_rfl) (by kernel_rfl) (by kernel_rfl) (fun _ _ _ h => h) (Or.inl ⟨by rfl, ?_⟩) (by assumption) ?_
                          rotate_left
                          · intro w hSw
                            go_simp
                            try with_reducible rfl
                          simp only [List.getElem_toArray, List.getElem_cons_succ, List.getElem_cons_zero, Act.put, List.setIfInBounds_toArray, List.set_cons_zero, List.set_cons_succ]
                          refine wpAnyH_take (i := 6) (v := ?_) rfl (by kernel_rfl) (by kernel_rfl) (by kernel_rfl) (fun _ _ _ h => h) (Or.inl ⟨by rfl, ?_⟩) (by assumption) ?_
                          rotate_left
                          · intro w hSw
                            go_simp
                            try with_reducible rfl
                          simp only [List.getElem_toArray, List.getElem_cons_succ, List.getElem_cons_zero, Act.put, List.setIfInBounds_toArray, List.set_cons_zero, List.set_cons_succ]
                          refine wpAnyH_take (i := 7) (v := ?_) rfl (by kernel_rfl) (by kernel_rfl) (by kernel_rfl) (fun _ _ _ h => h) (Or.inl ⟨by rfl, ?_⟩) (by assumption) ?_
                          rotate_left
                          · intro w hSw
                            go_simp
                            try with_reducible rfl
                          simp only [List.getElem_toArray, List.getElem_cons_succ, List.getElem_cons_zero, Act.put, List.setIfInBounds_toArray, List.set_cons_zero, List.set_cons_succ]
                          refine wpAnyH_take (i := 8) (v := ?_) rfl (by kernel_rfl) (by kernel_rfl) (by kernel_rfl) (fun _ _ _ h => h) (Or.inl ⟨by rfl, ?_⟩) (by assumption) ?_
                          rotate_left
                          · intro w hSw
                            go_simp
                            try with_reducible rfl
                          simp only [List.getElem_toArray, List.getElem_cons_succ, List.getElem_cons_zero, Act.put, List.setIfInBounds_toArray, List.set_cons_zero, List.set_cons_succ]
                          refine wpAnyH_take (i := 9) (v := ?_) rfl (by kernel_rfl) (by kernel_rfl) (by kernel_rfl) (fun _ _ _ h => h) (Or.inl ⟨by rfl, ?_⟩) (by assumption) ?_
                          rotate_left
                          · intro w hSw
                            go_simp
                            try with_reducible rfl
                          simp only [List.getElem_toArray, List.getElem_cons_succ, List.getElem_cons_zero, Act.put, List.setIfInBounds_toArray, List.set_cons_zero, List.set_cons_succ]
                          refine wpAnyH_take (i := 10) (v := ?_) rfl (by kernel_rfl) (by kernel_rfl) (by kernel_rfl) (fun _ _ _ h => h) (Or.inl ⟨by rfl, ?_⟩) (by assumption) ?_
                          rotate_left
                          · intro w hSw
                            go_simp
                            try with_reducible rfl
                          simp only [List.getElem_toArray, List.getElem_cons_succ, List.getElem_cons_zero, Act.put, List.setIfInBounds_toArray, List.set_cons_zero, List.set_cons_succ]
                          refine wpAnyH_take (i := 11) (v := ?_) rfl (by kernel_rfl) (by kernel_rfl) (by kernel_rfl) (fun _ _ _ h => h) (Or.inl ⟨by rfl, ?_⟩) (by assumption) ?_
                          rotate_left
                          · intro w hSw
                            go_simp
                            try with_reducible rfl
                          simp only [List.getElem_toArray, List.getElem_cons_succ, List.getElem_cons_zero, Act.put, List.setIfInBounds_toArray, List.set_cons_zero, List.set_cons_succ]
                          refine wpAnyH_take (i := 12) (v := ?_) rfl (by kernel_rfl) (by kernel_rfl) (by kernel_rfl) (fun _ _ _ h => h) (Or.inl ⟨by rfl, ?_⟩) (by assumption) ?_
                          rotate_left
                          · intro w hSw
                            go_simp
                            try with_reducible rfl
                          simp only [List.getElem_toArray, List.getElem_cons_succ, List.getElem_cons_zero, Act.put, List.setIfInBounds_toArray, List.set_cons_zero, List.set_cons_succ]
                          refine wpAnyH_take (i := 13) (v := ?_) rfl (by kernel_rfl) (by kernel_rfl) (by kernel_rfl) (fun _ _ _ h => h) (Or.inl ⟨by rfl, ?_⟩) (by assumption) ?_
                          rotate_left
                          · intro w hSw
                            go_simp
                            try with_reducible rfl
                          simp only [List.getElem_toArray, List.getElem_cons_succ, List.getElem_cons_zero, Act.put, List.setIfInBounds_toArray, List.set_cons_zero, List.set_cons_succ]
                          refine wpAnyH_take (i := 14) (v := ?_) rfl (by kernel_rfl) (by kernel_rfl) (by kernel_rfl) (fun _ _ _ h => h) (Or.inl ⟨by rfl, ?_⟩) (by assumption) ?_
                          rotate_left
                          · intro w hSw
                            go_simp
                            try with_reducible rfl
                          simp only [List.getElem_toArray, List.getElem_cons_succ, List.getElem_cons_zero, Act.put, List.setIfInBounds_toArray, List.set_cons_zero, List.set_cons_succ]
                          refine wpAnyH_take (i := 15) (v := ?_) rfl (by kernel_rfl) (by kernel_rfl) (by kernel_rfl) (fun _ _ _ h => h) (Or.inl ⟨by rfl, ?_⟩) (by assumption) ?_
                          rotate_left
                          · intro w hSw
                            go_simp
                            try with_reducible rfl
                          simp only [List.getElem_toArray, List.getElem_cons_succ, List.getElem_cons_zero, Act.put, List.setIfInBounds_toArray, List.set_cons_zero, List.set_cons_succ]
                          refine wpAnyH_take (i := 16) (v := ?_) rfl (by kernel_rfl) (by kernel_rfl) (by kernel_rfl) (fun _ _ _ h => h) (Or.inl ⟨by rfl, ?_⟩) (by assumption) ?_
                          rotate_left
                          · intro w hSw
                            go_simp
                            try with_reducible rfl
                          simp only [List.getElem_toArray, List.getElem_cons_succ, List.getElem_cons_zero, Act.put, List.setIfInBounds_toArray, List.set_cons_zero, List.set_cons_succ]
                          refine wpAnyH_take (i := 17) (v := _) rfl (by kernel_rfl) (by kernel_rfl) (by kernel_rfl) (fun _ _ _ h => h) (Or.inr ⟨by rfl, rfl⟩) (by assumption) ?_
                          simp only [List.getElem_toArray, List.getElem_cons_succ, List.getElem_cons_zero, Act.put, List.setIfInBounds_toArray, List.set_cons_zero, List.set_cons_succ]
                          refine wpAnyH_take (i := 18) (v := _) rfl (by kernel_rfl) (by kernel_rfl) (by kernel_rfl) (fun _ _ _ h => h) (Or.inr ⟨by rfl, rfl⟩) (by assumption) ?_
                          simp only [List.getElem_toArray, List.getElem_cons_succ, List.getElem_cons_zero, Act.put, List.setIfInBounds_toArray, List.set_cons_zero, List.set_cons_succ]
                          refine wpAnyH_take (i := 19) (v := _) rfl (by kernel_rfl) (by kernel_rfl) (by kernel_rfl) (fun _ _ _ h => h) (Or.inr ⟨by rfl, rfl⟩) (by assumption) ?_
                          simp only [List.getElem_toArray, List.getElem_cons_succ, List.getElem_cons_zero, Act.put, List.setIfInBounds_toArray, List.set_cons_zero, List.set_cons_succ]
                          refine wpAnyH_take (i := 20) (v := _) rfl (by kernel_rfl) (by kernel_rfl) (by kernel_rfl) (fun _ _ _ h => h) (Or.inr ⟨by rfl, rfl⟩) (by assumption) ?_
                          simp only [List.getElem_toArray, List.getElem_cons_succ, List.getElem_cons_zero, Act.put, List.setIfInBounds_toArray, List.set_cons_zero, List.set_cons_succ]
                          refine wpAnyH_take (i := 21) (v := _) rfl (by kernel_rfl) (by kernel_rfl) (by kernel_rfl) (fun _ _ _ h => h) (Or.inr ⟨by rfl, rfl⟩) (by assumption) ?_
                          simp only [List.getElem_toArray, List.getElem_cons_succ, List.getElem_cons_zero, Act.put, List.setIfInBounds_toArray, List.set_cons_zero, List.set_cons_succ]
                          refine wpAnyH_take (i := 22) (v := _) rfl (by kernel_rfl) (by kernel_rfl) (by kernel_rfl) (fun _ _ _ h => h) (Or.inr ⟨by rfl, rfl⟩) (by assumption) ?_
                          simp only [List.getElem_toArray, List.getElem_cons_succ, List.getElem_cons_zero, Act.put, List.setIfInBounds_toArray, List.set_cons_zero, List.set_cons_succ]
                          refine wpAnyH_take (i := 23) (v := ?_) rfl (by kernel_rfl) (by kernel_rfl) (by kernel_rfl) (fun _ _ _ h => h) (Or.inl ⟨by rfl, ?_⟩) (by assumption) ?_
                          rotate_left
                          · intro w hSw
                            go_simp
                            try with_reducible rfl
                          simp only [List.getElem_toArray, List.getElem_cons_succ, List.getElem_cons_zero, Act.put, List.setIfInBounds_toArray, List.set_cons_zero, List.set_cons_succ]
                          refine wpAnyH_take (i := 24) (v := ?_) rfl (by kernel_rfl) (by kernel_rfl) (by kernel_rfl) (fun _ _ _ h => h) (Or.inl ⟨by rfl, ?_⟩) (by assumption) ?_
                          rotate_left
                          · intro w hSw
                            go_simp
                            try with_reducible rfl
                          simp only [List.getElem_toArray, List.getElem_cons_succ, List.getElem_cons_zero, Act.put, List.setIfInBounds_toArray, List.set_cons_zero, List.set_cons_succ]
                          refine wpAnyH_take (i := 25) (v := ?_) rfl (by kernel_rfl) (by kernel_rfl) (by kernel_rfl) (fun _ _ _ h => h) (Or.inl ⟨by rfl, ?_⟩) (by assumption) ?_
                          rotate_left
                          · intro w hSw
                            go_simp
                            try with_reducible rfl
                          simp only [List.getElem_toArray, List.getElem_cons_succ, List.getElem_cons_zero, Act.put, List.setIfInBounds_toArray, List.set_cons_zero, List.set_cons_succ]
                          refine wpAnyH_take (i := 26) (v := ?_) rfl (by kernel_rfl) (by kernel_rfl) (by kernel_rfl) (fun _ _ _ h => h) (Or.inl ⟨by rfl, ?_⟩) (by assumption) ?_
                          rotate_left
                          · intro w hSw
                            go_simp
                            try with_reducible rfl
                          simp only [List.getElem_toArray, List.getElem_cons_succ, List.getElem_cons_zero, Act.put, List.setIfInBounds_toArray, List.set_cons_zero, List.set_cons_succ]
                          refine wpAnyH_take (i := 27) (v := ?_) rfl (by kernel_rfl) (by kernel_rfl) (by kernel_rfl) (fun _ _ _ h => h) (Or.inl ⟨by rfl, ?_⟩) (by assumption) ?_
                          rotate_left
                          · intro w hSw
                            go_simp
                            try with_reducible rfl
                          simp only [List.getElem_toArray, List.getElem_cons_succ, List.getElem_cons_zero, Act.put, List.setIfInBounds_toArray, List.set_cons_zero, List.set_cons_succ]
                          refine wpAnyH_take (i := 28) (v := ?_) rfl (by kernel_rfl) (by kernel_rfl) (by kernel_rfl) (fun _ _ _ h => h) (Or.inl ⟨by rfl, ?_⟩) (by assumption) ?_
                          rotate_left
                          · intro w hSw
                            go_simp
                            try with_reducible rfl
                          simp only [List.getElem_toArray, List.getElem_cons_succ, List.getElem_cons_zero, Act.put, List.setIfInBounds_toArray, List.set_cons_zero, List.set_cons_succ]
                          refine wpAnyH_take (i := 29) (v := ?_) rfl (by kernel_rfl) (by kernel_rfl) (by kernel_rfl) (fun _ _ _ h => h) (Or.inl ⟨by rfl, ?_⟩) (by assumption) ?_
                          rotate_left
                          · intro w hSw
                            go_simp
                            try with_reducible rfl
                          simp only [List.getElem_toArray, List.getElem_cons_succ, List.getElem_cons_zero, Act.put, List.setIfInBounds_toArray, List.set_cons_zero, List.set_cons_succ]
                          refine wpAnyH_take (i := 30) (v := ?_) rfl (by kernel_rfl) (by kernel_rfl) (by kernel_rfl) (fun _ _ _ h => h) (Or.inl ⟨by rfl, ?_⟩) (by assumption) ?_
                          rotate_left
                          · intro w hSw
                            go_simp
                            try with_reducible rfl
                          simp only [List.getElem_toArray, List.getElem_cons_succ, List.getElem_cons_zero, Act.put, List.setIfInBounds_toArray, List.set_cons_zero, List.set_cons_succ]
                          refine wpAnyH_take (i := 31) (v := ?_) rfl (by kernel_rfl) (by kernel_rfl) (by kernel_rfl) (fun _ _ _ h => h) (Or.inl ⟨by rfl, ?_⟩) (by assumption) ?_
                          rotate_left
                          · intro w hSw
                            go_simp
                            try with_reducible rfl
                          simp only [List.getElem_toArray, List.getElem_cons_succ, List.getElem_cons_zero, Act.put, List.setIfInBounds_toArray, List.set_cons_zero, List.set_cons_succ]
                          refine wpAnyH_take (i := 32) (v := ?_) rfl (by kernel_rfl) (by kernel_rfl) (by kernel_rfl) (fun _ _ _ h => h) (Or.inl ⟨by rfl, ?_⟩) (by assumption) ?_
                          rotate_left
                          · intro w hSw
                            go_simp
                            try with_reducible rfl
                          simp only [List.getElem_toArray, List.getElem_cons_succ, List.getElem_cons_zero, Act.put, List.setIfInBounds_toArray, List.set_cons_zero, List.set_cons_succ]
                          refine wpAnyH_ready (rs := [33]) (by kernel_rfl) (by simp) ?_
                          refine AllReadyH.cons rfl (fun K hK => ?_) AllReadyH.nil
                          go_simp
                          go_at_call 33
                          refine (HC1.out _).mono ?_
                          rintro e w9 ⟨rfl, hg⟩
                          have hS := (show (fun W => Gr w3 W ∧ W.cell? ad = some (.int .u32 zv) ∧ W.cell? ⟨ad.block, ad.off + 1, none⟩ = some (.int .i64 zf) ∧ W.cell? ⟨ad.block, ad.off + 2, none⟩ = some (.int .i64 zp) ∧ W.cell? ⟨wr.heap.size, 0, none⟩ = some (.int .u32 xv) ∧ W.cell? ⟨wr.heap.size, 1, none⟩ = some (.int .i64 xf) ∧ W.cell? ⟨wr.heap.size, 2, none⟩ = some (.int .i64 xp)) w9 from ⟨(by first | exact (Gr.refl _).drew.trans hg | exact ((Gr.refl _).drewN _).drew.trans hg), hg.cell' (by simp; assumption), hg.cell' (by simp; assumption), hg.cell' (by simp; assumption), hg.cell' (by simp; assumption), hg.cell' (by simp; assumption), hg.cell' (by simp; assumption)⟩)
                          have HG9 := Aside0.mk hS.1
                          clear hg hHeld
                          go_wp2_with fail
                          refine hK.out _ _ hS (fun hHeld => ?_)
                          clear hK K hS
                          refine wpAnyH_take (i := 34) (v := ?_) rfl (by kernel_rfl) (by kernel_rfl) (by kernel_rfl) (fun _ _ _ h => h) (Or.inl ⟨by rfl, ?_⟩) (by assumption) ?_
                          rotate_left
                          · intro w hSw
                            go_simp
                            try with_reducible rfl
                          simp only [List.getElem_toArray, List.getElem_cons_succ, List.getElem_cons_zero, Act.put, List.setIfInBounds_toArray, List.set_cons_zero, List.set_cons_succ]
                          refine wpAnyH_take (i := 35) (v := ?_) rfl (by kernel_rfl) (by kernel_rfl) (by kernel_rfl) (fun _ _ _ h => h) (Or.inl ⟨by rfl, ?_⟩) (by assumption) ?_
                          rotate_left
                          · intro w hSw
                            go_simp
                            try with_reducible rfl
                          simp only [List.getElem_toArray, List.getElem_cons_succ, List.getElem_cons_zero, Act.put, List.setIfInBounds_toArray, List.set_cons_zero, List.set_cons_succ]
                          refine wpAnyH_take (i := 36) (v := ?_) rfl (by kernel_rfl) (by kernel_rfl) (by kernel_rfl) (fun _ _ _ h => h) (Or.inl ⟨by rfl, ?_⟩) (by assumption) ?_
                          rotate_left
                          · intro w hSw
                            go_simp
                            try with_reducible rfl
                          simp only [List.getElem_toArray, List.getElem_cons_succ, List.getElem_cons_zero, Act.put, List.setIfInBounds_toArray, List.set_cons_zero, List.set_cons_succ]
                          refine wpAnyH_take (i := 37) (v := ?_) rfl (by kernel_rfl) (by kernel_rfl) (by kernel_rfl) (fun _ _ _ h => h) (Or.inl ⟨by rfl, ?_⟩) (by assumption) ?_
                          rotate_left
                          · intro w hSw
                            go_simp
                            try with_reducible rfl
                          simp only [List.getElem_toArray, List.getElem_cons_succ, List.getElem_cons_zero, Act.put, List.setIfInBounds_toArray, List.set_cons_zero, List.set_cons_succ]
                          refine wpAnyH_done (by kernel_rfl) ?_ _
                          have HB9 := Aside0.mk ((HB3.out).trans (HG9.out.below.mono (HB3.out).size))
                          go_wp2_with fail
                          go_roundg (l.length - ((j + 1) + 1))
                          case measure => omega
                          case rel => exact ⟨(j + 1) + 1, _, by omega, by omega, by go_num, ⟨owns_gr HO1.out (by first | exact ((HG4.out).trans HG9.out) | exact ((HG4.out).trans HG9.out).drewN _)⟩, HTS, ⟨by first | exact HB9.out | exact pw_below_drewN HB9.out _⟩⟩
                        · have eF : decide (0 < F) = false := decide_eq_false hF
                          clear hxf hxp hF
                          go_quiet (fail)
                          go_wp2_with fail
                          go_roundg (l.length - ((j + 1) + 1))
                          case measure => omega
                          case rel => exact ⟨(j + 1) + 1, _, by omega, by omega, by go_num, ⟨owns_gr HO1.out (by first | exact HG4.out | exact HG4.out.drewN _)⟩, HTS, ⟨by first | exact HB3.out | exact pw_below_drewN HB3.out _⟩⟩
                      · have ep : (xp == 0) = false := by simp [hxp]
                        clear hxf hxp
                        go_quiet (fail)
                        go_wp2_with fail
                        go_roundg (l.length - ((j + 1) + 1))
                        case measure => omega
                        case rel => exact ⟨(j + 1) + 1, _, by omega, by omega, by go_num, ⟨owns_gr HO1.out (by first | exact HG4.out | exact HG4.out.drewN _)⟩, HTS, ⟨by first | exact HB3.out | exact pw_below_drewN HB3.out _⟩⟩
                    · have ef : (xf == F) = false := by simp [hxf]
                      clear hxf
                      go_quiet (fail)
                      go_wp2_with fail
                      go_roundg (l.length - ((j + 1) + 1))
                      case measure => omega
                      case rel => exact ⟨(j + 1) + 1, _, by omega, by omega, by go_num, ⟨owns_gr HO1.out (by first | exact HG4.out | exact HG4.out.drewN _)⟩, HTS, ⟨by first | exact HB3.out | exact pw_below_drewN HB3.out _⟩⟩
            · obtain rfl : kk = l.length := by omega
              have hltz : ¬ ((l.length : Nat) : Int) < ((l.length : Nat) : Int) := by omega
              go_wp2_with fail
              refine (HLIV.out _).mono ?_
              rintro e w9 ⟨rfl, hb9⟩
              have HB9 := Aside0.mk (below_step (below_step HB.out HB1.out) hb9)
              clear hb9
              go_wp2_with fail
              go_ret
              exact ⟨rfl, HB9.out⟩
end Go.Proofs.Ythpnooookkpkaaa.F
namespace Go.Proofs.Ythpnooookkpkaaa.F
open Go.ChangeShapes Go.WideShapes Go.RowKit Go.Proofs.YthpnooookkpkaaaW.PrintWords Go.Proofs.YthpnooookkpkaaaW.PrintLast Go.Proofs.YthpnooookkpkaaaW.PrintMore
section
variable {H : Type} {enc : TypeId × Value → H} {P : Program} {w : World} {base : Nat} {spare : Nat → Bool} {held : Bool}
/-- a slice's elements, whatever they are, as a list that can be read -/
theorem C_of_slice {α : Type} {t e fuel : Nat} {cs : List Value} {x : DataW H × List MemPlace} (d : Kd α) (Q : α → Prop) (z : α)
    (ht : P.underlying t = some (.slice e)) (hc : P.cellsOf e = d.sz) (h : DataW.trod enc P w base spare held fuel t cs = some x)
    (he : ∀ (n : Nat) (c : List Value) (y : DataW H × List MemPlace), c.length = d.sz → DataW.trod enc P w base spare held n e c = some y → ∃ p, d.K w p c ∧ Q p) :
    ∃ (A : Option Addr) (c : Nat) (l : List α), cs = [.slice A l.length c] ∧ l.length ≤ c ∧ d.C w A l.length l ∧ ∀ p ∈ l, Q p := by
  rcases Go.Deep.open_slice ht h with ⟨rfl, _⟩ | ⟨a, len, cap, m, n, D, Pl, rfl, _, hl, hm, hmm, _, hx⟩
  · exact ⟨none, 0, [], rfl, Nat.le_refl _, Kd.C_nil d w, by simp⟩
  · have hlm : len ≤ m := by rw [hmm]; split <;> omega
    have each : ∀ i, i < len → ∃ q : α × List Value, w.cells? base (a.add (i * d.sz)) d.sz = some q.2 ∧ d.K w q.1 q.2 ∧ Q q.1 := by
      intro i hi
      obtain ⟨cs', h1, h2⟩ := hx i (by omega)
      rw [hc] at h1
      obtain ⟨_, hlen, _⟩ := World.cells?_some h1
      obtain ⟨p, h3, h4⟩ := he n cs' _ hlen h2
      exact ⟨(p, cs'), h1, h3, h4⟩
    have : Inhabited (α × List Value) := ⟨(z, [])⟩
    obtain ⟨q, hq⟩ := Go.Deep.choose_lt each
    have hlen : ((List.range len).map fun i => (q i).1).length = len := by simp
    refine ⟨some a, cap, (List.range len).map fun i => (q i).1, by rw [hlen], by rw [hlen]; exact hl, ⟨rfl, by rw [hlen]; unfold maxLen at hm; omega, fun _ => ⟨a, rfl, fun j p hj => ?_⟩⟩, fun p hp => ?_⟩
    · have hj' : j < len := by
        have := (List.getElem?_eq_some_iff.mp hj).1
        rwa [hlen] at this
      obtain ⟨h1, h2, _⟩ := hq j hj'
      obtain ⟨_, h3, h4⟩ := World.cells?_some h1
      rw [List.getElem?_map, List.getElem?_range hj'] at hj
      obtain rfl := Option.some.inj hj
      refine ⟨(q j).2, h3, h2, fun i u hu => ?_⟩
      have hi : i < d.sz := by
        have := (List.getElem?_eq_some_iff.mp hu).1
        omega
      have h5 := h4 i hi
      rw [Go.Deep.add_add] at h5
      exact h5.trans hu
    · obtain ⟨i, hi, rfl⟩ := List.mem_map.1 hp
      exact (hq i (List.mem_range.1 hi)).2.2
/-- a field of one cell -/
theorem field_of {t fuel : Nat} {cs : List Value} {x : DataW H × List MemPlace} {fs : Array Field} (ht : P.underlying t = some (.struct fs)) (h : DataW.trod enc P w base spare held fuel t cs = some x)
    (hlen : cs.length = fs.size) (i : Nat) (f : Field) (hf : fs[i]? = some f) (ho : f.offset = i) (hc : P.cellsOf f.type = 1) :
    ∃ v n y, cs[i]? = some v ∧ DataW.trod enc P w base spare held n f.type [v] = some y := by
  obtain ⟨xs, n, _, _, _, hxl, hx⟩ := DataW.trod_struct ht h
  have hi : i < fs.size := (Array.getElem?_eq_some_iff.mp hf).1
  have h1 := hx i f hf
  rw [ho, hc, List.getElem?_eq_getElem (by omega)] at h1
  have h2 : (cs.drop i).take 1 = [cs[i]'(by omega)] := by
    rw [List.drop_eq_getElem_cons (by omega)]
    rfl
  rw [h2] at h1
  exact ⟨_, n, _, List.getElem?_eq_getElem (by omega), h1⟩
end
end Go.Proofs.Ythpnooookkpkaaa.F
namespace Go.Proofs.Ythpnooookkpkaaa.F
open Go.ChangeShapes Go.WideShapes Go.RowKit Go.Proofs.YthpnooookkpkaaaW.PrintWords Go.Proofs.YthpnooookkpkaaaW.PrintLast Go.Proofs.YthpnooookkpkaaaW.PrintMore
theorem c46_44 : Try.prog.cellsOf 44 = 1 := by kernel_rfl
theorem c46_3 : Try.prog.cellsOf 3 = 1 := by kernel_rfl
theorem c46_46 : Try.prog.cellsOf 46 = 3 := by kernel_rfl
/-- suspects as they came in -/
theorem open_suspects {H : Type} {enc : TypeId × Value → H} {w : World} {base : Nat} {spare : Nat → Bool} {held : Bool} {fuel : Nat} {a : Option Addr} {len cap : Nat} {x : DataW H × List MemPlace}
    (h : DataW.trod enc Try.prog w base spare held fuel 50 [.slice a len cap] = some x) : ∃ l : List S46, l.length = len ∧ Kd.C k46 w a l.length l ∧ ∀ y ∈ l, wfS y := by
  obtain ⟨A, c, l, hcs, _, hC, hQ⟩ := C_of_slice k46 wfS z46 Try.underlying50 c46_46 h (fun n cs y hl hy => by
    have hl3 : cs.length = 3 := hl
    obtain ⟨v0, n0, y0, e0, h0⟩ := field_of Try.underlying46 hy hl3 0 _ rfl rfl c46_44
    obtain ⟨v1, n1, y1, e1, h1⟩ := field_of Try.underlying46 hy hl3 1 _ rfl rfl c46_3
    obtain ⟨v2, n2, y2, e2, h2⟩ := field_of Try.underlying46 hy hl3 2 _ rfl rfl c46_3
    obtain ⟨b0, g0, _, w0⟩ := DataW.trod_int Try.underlying44 h0
    obtain ⟨b1, g1, _, w1⟩ := DataW.trod_int Try.underlying3 h1
    obtain ⟨b2, g2, _, w2⟩ := DataW.trod_int Try.underlying3 h2
    simp only [List.cons.injEq, and_true] at g0 g1 g2
    subst g0 g1 g2
    obtain rfl : cs = [.int .u32 b0, .int .i64 b1, .int .i64 b2] := by
      match cs, hl3 with
      | [u0, u1, u2], _ =>
        simp only [List.getElem?_cons_zero, List.getElem?_cons_succ, Option.some.injEq] at e0 e1 e2
        rw [e0, e1, e2]
    exact ⟨⟨b0, b1, b2⟩, k46_mk w ⟨b0, b1, b2⟩, w0, w1, w2⟩)
  simp only [List.cons.injEq, Value.slice.injEq, and_true] at hcs
  obtain ⟨rfl, h2, _⟩ := hcs
  exact ⟨l, h2.symm, hC, hQ⟩
end Go.Proofs.Ythpnooookkpkaaa.F
namespace Go.Proofs.Ythpnooookkpkaaa.T
open Go.RowKit Go.Proofs.Ythpnooookkpkaaa.F Go.Proofs.YthpnooookkpkaaaW.PrintWords
theorem SuspectRanks_walk (A : Option Addr) (l : List S46) (c : Nat) (F P : Int) (byRate : Bool) (w : World) (hr : Kd.C k46 w A l.length l) (hwf : ∀ x ∈ l, wfS x) (_ : (Lit.int .i64 F).wf = true) (_ : (Lit.int .i64 P).wf = true) :
    Calls Try.prog 7 #[.slice A l.length c, .int .i64 F, .int .i64 P, .bool byRate] w fun e w' => e = .returned (.bool true) ∧ Below w.heap.size w w' := SuspectRanks_c A l c F P byRate w hr hwf
end Go.Proofs.Ythpnooookkpkaaa.T

namespace Go.Proofs.Ythpnooookkpkaaa.suspectRanks
open Go.ChangeShapes Go.WideShapes Go.ChangeAt Go.RowKit Go.Joins
open Go.ChangeMaps (open_string shut_string)
set_option linter.unusedVariables false
theorem own : ownKnob Try.prog.godebug = none := by kernel_rfl
theorem laidOut : laidOutB Try.prog = true := by kernel_rfl
set_option maxRecDepth 100000 in
theorem lifted (os : Os) (started : os.Started) (H : Type) (enc : TypeId × Value → H) :
    ReturnsInHanded {} Try.checked os 7 .any (Rows.suspectRanksSpec.pre6 enc Try.prog Try.f7 Rows.suspectRanksRow.domain false) (Rows.suspectRanksSpec.post enc Try.prog Try.f7 false true false false) := by
  refine returnsInHanded_of_change_sized (C := Try.checked) own started (by kernel_rfl) Try.func7
    (ChangeSpec.witness6 (enc := enc) (C := Try.checked) false ⟨#[], #[.slice none 0 0, .int .i64 0, .int .i64 0, .bool false], []⟩ 8 (by kernel_rfl) (by kernel_rfl) (by kernel_rfl) (by kernel_rfl)) ?_
  intro W base args ds gs before hval0 hW hcnd hsz0 _
  have hsz : (DataW.weightsEach Try.prog (Try.f7.params.toList ++ Rows.suspectRanksSpec.plain.varTypes Try.prog) (ds ++ gs)).all (· ≤ reachBytes) = true := hsz0
  have hval : ∀ (j : Nat) t v, Try.f7.params[j]? = some t → args[j]? = some v → Value.okWide Try.prog W .any base t v := hval0
  have hW' := hW
  obtain ⟨p, q, hA0, hV, rfl, hfz, hnd⟩ := hW
  have hA : DataW.TrodAll enc Try.prog W 0 (fun _ => true) true Try.f7.params.toList args.toList ds p := hA0
  rw [Try.params7] at hA hval hsz
  obtain ⟨v0, vs0, d0, ds0, p0, q0, hargs, rfl, rfl, h0, r0⟩ := trodAll_cons hA
  obtain ⟨v1, vs1, d1, ds1, p1, q1, rfl, rfl, rfl, h1, r1⟩ := trodAll_cons r0
  obtain ⟨v2, vs2, d2, ds2, p2, q2, rfl, rfl, rfl, h2, r2⟩ := trodAll_cons r1
  obtain ⟨v3, vs3, d3, ds3, p3, q3, rfl, rfl, rfl, h3, r3⟩ := trodAll_cons r2
  obtain ⟨rfl, rfl, rfl⟩ := trodAll_nil r3
  obtain rfl : args = #[v0, v1, v2, v3] := by cases args; simp_all
  obtain ⟨rfl, rfl⟩ := trodVars_none hV
  have k0 := h0
  have lt0 : ∀ x ∈ p0, x.block < W.heap.size := by obtain ⟨m, hm⟩ := k0; exact DataW.trod_lt m _ _ _ hm
  obtain ⟨fuel0, hf0⟩ := h0
  obtain ⟨a0, len0, cap0, rfl⟩ := okWide_slice Try.underlying50 (hval 0 50 v0 rfl rfl)
  obtain ⟨z0, hl0, hc0, w0⟩ := F.open_suspects (a := a0) (len := len0) (cap := cap0) hf0
  subst hl0
  have k1 := h1
  have lt1 : ∀ x ∈ p1, x.block < W.heap.size := by obtain ⟨m, hm⟩ := k1; exact DataW.trod_lt m _ _ _ hm
  obtain ⟨a1, rfl, hd1, hp1, w1⟩ := open_int Try.underlying3 (hval 1 3 v1 rfl rfl) h1
  have k2 := h2
  have lt2 : ∀ x ∈ p2, x.block < W.heap.size := by obtain ⟨m, hm⟩ := k2; exact DataW.trod_lt m _ _ _ hm
  obtain ⟨a2, rfl, hd2, hp2, w2⟩ := open_int Try.underlying3 (hval 2 3 v2 rfl rfl) h2
  have k3 := h3
  have lt3 : ∀ x ∈ p3, x.block < W.heap.size := by obtain ⟨m, hm⟩ := k3; exact DataW.trod_lt m _ _ _ hm
  obtain ⟨a3, rfl, hd3, hp3⟩ := open_bool Try.underlying4 (hval 3 4 v3 rfl rfl) h3
  clear hA0 hval0 hsz0 hsz
  refine (T.SuspectRanks_walk a0 z0 cap0 a1 a2 a3 W hc0 w0 w1 w2).mono fun e W' ⟨he, bel⟩ => ?_
  subst he
  exact ⟨_, rfl, _, _, _, [], _, [], hW', trodAll_mk1 (shut_bool Try.underlying4 _), (trodAll_cons_mk (Below.trod laidOut (by kernel_rfl) (of_decide_eq_true (by kernel_rfl)) k0 bel lt0) (trodAll_cons_mk (Below.trod laidOut (by kernel_rfl) (of_decide_eq_true (by kernel_rfl)) k1 bel lt1) (trodAll_cons_mk (Below.trod laidOut (by kernel_rfl) (of_decide_eq_true (by kernel_rfl)) k2 bel lt2) (trodAll_cons_mk (Below.trod laidOut (by kernel_rfl) (of_decide_eq_true (by kernel_rfl)) k3 bel lt3) trodAll_mk0)))), rfl, bel.frame _, fun h => by cases h⟩
theorem over : Rows.suspectRanksRow.holds Try.pinned (OpenSpec.ofChange Rows.suspectRanksSpec) :=
  OpenClaim.holds_of_wide 7 Try.f7 rfl rfl rfl rfl rfl rfl rfl ⟨rfl, rfl, rfl, rfl, rfl⟩ rfl rfl rfl rfl rfl (by kernel_rfl) Try.func7 (by kernel_rfl)
    (of_decide_eq_true (by kernel_rfl)) (by unfold Func.isWrapper; first | (rw [if_pos (by decide +kernel)]; kernel_rfl) | (rw [if_neg (by decide +kernel)]; exact ⟨rfl, rfl⟩))
    (fun os started H enc _ => lifted os started H enc)
theorem proved : Rows.SuspectRanksSaid := over
#print axioms proved
end Go.Proofs.Ythpnooookkpkaaa.suspectRanks
namespace Go.Proofs.Ythpnooookkpkaaa
/-- The row, under a short name, for the claim. -/
theorem suspectRanks_holds : Rows.SuspectRanksSaid := suspectRanks.proved
end Go.Proofs.Ythpnooookkpkaaa
