/- Texts of this session for the claim of SimSure: functions of the program as plain Lean functions, that the machine's calls come to them, and plain facts of these. -/
import Derived.Test.YthpnooookkpkaaaDoorMSimSure5
import Derived.Test.YthpnooookkpkaaaDoorMSimSure2
import Derived.OwnWalk
import Derived.Laws.IdiomCopy
import Derived.Deep.RegionHeld3
import Derived.Deep.QuietTactic
import Derived.Deep.Slices
namespace Go.Proofs.YthpnooookkpkaaaDoor.F
open Go.Shelf Go.RowKit Go.Proofs.YthpnooookkpkaaaDoorW.PrintWords Go.Proofs.YthpnooookkpkaaaDoorW.PrintLast Go.Proofs.YthpnooookkpkaaaDoorW.PrintMore
theorem zeroed_none {l : List Int} (h : l.count 2 = 0) : zeroed l = l := by
  unfold zeroed
  have h2 : ∀ x ∈ l, x ≠ 2 := fun x hx e => by
    subst e
    exact absurd h (Nat.pos_iff_ne_zero.1 (List.count_pos_iff.2 hx))
  conv => rhs; rw [← List.map_id l]
  exact List.map_congr_left fun x hx => by rw [if_neg (h2 x hx)]; rfl
set_option maxRecDepth 100000 in
set_option maxHeartbeats 2000000 in
/-- bytes.Replace where there is no X -/
theorem Replace_none (A : Option Addr) (l : List Int) (c po pn : Nat) (w : World) (hr : Kd.C (Kd.int .u8) w A l.length l) (hlen : l.length ≤ 1000000000000) (hu : ∀ x ∈ l, 0 ≤ x ∧ x < 256)
    (ho : w.heap[po]? = some (.cells #[.int .u8 2] 5 (0, 0))) (hm : l.count 2 = 0) :
    Calls Tryd.prog 120 #[.slice A l.length c, .slice (some ⟨po, 0, none⟩) 1 1, .slice (some ⟨pn, 0, none⟩) 1 1, .int .i64 (-1)] w fun e w' => ∃ v, e = .returned v ∧ Kd.R (Kd.int .u8) 5 w' w.heap.size (fun _ => True) v (zeroed l) ∧ Below w.heap.size w w' := by
  have HCT := count_c A l c ⟨po, 0, none⟩ 1 2 w hr ((blk_cell ho 0).trans rfl)
  rw [count_of hu, hm] at HCT
  have HCT := Aside0.mk HCT
  have HR := Aside0.mk hr
  rw [zeroed_none hm]
  clear hr hu ho hm
  go_enter Tryd.func120, Tryd.ntmps120
  go_wp2_with fail
  refine HCT.out.mono ?_
  rintro e w' ⟨rfl, rfl⟩
  go_wp2_with (at_builtin; refine Kd.R_append_rows (Kd.int .u8) (w0 := w') w'.heap.size rfl _ _ 27 5 (.int .u8 0) 1 rfl Tryd.underlying27 info5 rfl (by decide) (by omega) (.slice none 0 0) ([] : List Int) l A l.length c (fun _ => True) (fun _ => False) rfl rfl (Kd.R_nil _ _ _ _ _) HR.out (fun _ _ h => h) (fun _ h => h.elim) (fun _ _ => trivial) (Below.refl _ _) (Nat.le_refl _) (by simp; omega) ?_; intro v1 w1 hR1 hb1 hg1 hat1; obtain ⟨A1, c1, rfl⟩ := Kd.R_slice hR1; have HR1 := Aside0.mk hR1; have HB1 := Aside0.mk hb1; clear hR1 hb1 hg1 hat1)
  go_ret
  exact ⟨_, rfl, HR1.out, HB1.out⟩
theorem blks2' (w : World) (o1 o2 : Obj) : ((w.alloc o1).alloc o2).heap[w.heap.size]? = some o1 ∧ ((w.alloc o1).alloc o2).heap[w.heap.size + 1]? = some o2 := by
  refine ⟨blk_alloc (blk_new w o1) o2, ?_⟩
  have h := blk_new (w.alloc o1) o2
  rwa [World.size_alloc] at h
theorem own_buf {W : World} {h base : Nat} {vals : List Int} (hb : W.heap[h]? = some (.cells (vals.map (Value.int .u8)).toArray 5 (0, 0))) (hB : base ≤ h) (hm : vals.length ≤ 1000000000000) :
    Kd.R (Kd.int .u8) 5 W base (fun _ => True) (.slice (some ⟨h, 0, none⟩) vals.length vals.length) vals := by
  refine Kd.R_of_own ⟨by simp [encs], .inr ⟨h, vals.length, _, rfl, hB, hb, Nat.le_refl _, by simp only [maxLen]; omega, by simp, ?_⟩⟩ (fun _ _ => trivial)
  rw [List.take_of_length_le (by simp)]
  rfl
theorem wp_copy (w : World) {o : Oper} {a : Act} {K : Act → World → Prop} {Q : Exit → Act → World → Prop} (d s : Operand) (ho : o.op = .call { callee := .builtin .copy, args := #[d, s], argTypes := #[27, 27] })
    (v u : Value) (hd : a.eval d = v) (hs : a.eval s = u) {v' : Value} {w' : World} (hr : (Builtin.copy_ #[27, 27] o.type #[v, u]).run Tryd.prog w = .ok v' w') (h : K (a.put o.dst v') w') : o.wp Tryd.prog a w K Q := by
  unfold Oper.wp execOp
  simp only [ho, resolve, invoke, builtin, Sem.run_bind, Sem.run_pure, Result.andThen_ok, List.map_toArray, List.map_cons, List.map_nil, hd, hs, hr]
  exact h
theorem wpList_copy (w : World) {ops : Array Oper} {rest : List Oper} {o : Oper} {a : Act} {Q : Exit → Act → World → Prop} (hgd : o.guard = none) (d s : Operand) (ho : o.op = .call { callee := .builtin .copy, args := #[d, s], argTypes := #[27, 27] })
    (v u : Value) (hd : a.eval d = v) (hs : a.eval s = u) {v' : Value} {w' : World} (hr : (Builtin.copy_ #[27, 27] o.type #[v, u]).run Tryd.prog w = .ok v' w') (h : wpList Tryd.prog ops Q rest (a.put o.dst v') w') : wpList Tryd.prog ops Q (o :: rest) a w :=
  wpList_plain hgd fun _ hK => wp_copy w d s ho v u hd hs hr (hK _ _ h)
set_option maxRecDepth 100000 in
set_option maxHeartbeats 4000000 in
/-- bytes.Replace where there is an X -/
theorem Replace_some (A : Option Addr) (l : List Int) (c po pn : Nat) (w : World) (hr : Kd.C (Kd.int .u8) w A l.length l) (hlc : l.length ≤ c) (hlen : l.length ≤ 1000000000000) (hu : ∀ x ∈ l, 0 ≤ x ∧ x < 256)
    (ho : w.heap[po]? = some (.cells #[.int .u8 2] 5 (0, 0))) (hn : w.heap[pn]? = some (.cells #[.int .u8 0] 5 (0, 0))) (hm : 0 < l.count 2) :
    Calls Tryd.prog 120 #[.slice A l.length c, .slice (some ⟨po, 0, none⟩) 1 1, .slice (some ⟨pn, 0, none⟩) 1 1, .int .i64 (-1)] w fun e w' => ∃ v, e = .returned v ∧ Kd.R (Kd.int .u8) 5 w' w.heap.size (fun _ => True) v (zeroed l) ∧ Below w.heap.size w w' := by
  have HCT := count_c A l c ⟨po, 0, none⟩ 1 2 w hr ((blk_cell ho 0).trans rfl)
  rw [count_of hu] at HCT
  have HCT := Aside0.mk HCT
  have hcl : l.count 2 ≤ l.length := List.count_le_length
  have hpos : 0 < l.length := by omega
  obtain ⟨ad, rfl, hcell⟩ := u8_cells hr hpos
  have HR := Aside0.mk hr
  have HU := Aside0.mk hu
  have HO := Aside0.mk ho
  have HN := Aside0.mk hn
  have HCL := Aside0.mk hcell
  clear hr hu ho hn hcell
  obtain ⟨i0, hi, hzz⟩ := Option.map_eq_some_iff.1 info5
  simp only [Prod.mk.injEq] at hzz
  obtain ⟨hz0, hz1, hz2⟩ := hzz
  have HI := Aside0.mk hi
  have HZ0 := Aside0.mk hz0
  have HZ1 := Aside0.mk hz1
  have HZ2 := Aside0.mk hz2
  clear hi hz0 hz1 hz2
  generalize hmm : l.count 2 = m at hm HCT hcl
  have HMM := Aside0.mk hmm
  clear hmm
  have hm1 : ((m : Int) == 0) = false := by simp; omega
  go_enter Tryd.func120, Tryd.ntmps120
  go_wp2_with fail
  refine HCT.out.mono ?_
  rintro e w' ⟨rfl, rfl⟩
  go_wp2_with (at_make; refine wpList_make_full _ rfl _ _ 27 rfl w'.heap.size 5 i0 (.int .u8 0) 1 Tryd.underlying27 HI.out HZ0.out HZ1.out .i64 .i64 _ _ l.length rfl rfl rfl rfl (by rw [HZ2.out]; omega) (by simp only [maxLen]; omega) (Nat.le_refl _) ?_; intro w1 hown hg; have HOW := Aside0.mk hown; have HG := Aside0.mk hg; clear hown hg)
  have h1b : w1.heap[w'.heap.size]? = some (.cells ((bufL l 0).map (Value.int .u8)).toArray 5 (0, 0)) := by
    rcases HOW.out.2 with ⟨h, _⟩ | ⟨g, cap, cur, h, _, hb, _, _, hs, ht⟩
    · cases h
    · injection h with h1 h2 h3
      injection h1 with h1
      injection h1 with h1
      subst h1 h3
      rw [hb]
      congr 2
      have h4 : cur.toList = (madeCells (Value.int .u8 0).cells (l.length * 1)).toList := by
        rw [← ht, List.take_of_length_le (by rw [Array.length_toList, hs]; exact Nat.le_refl _)]
      rw [show (Value.int .u8 0).cells = #[Value.int .u8 0] from rfl, toList_madeCells_one] at h4
      have h5 : cur = cur.toList.toArray := by simp
      rw [h5, h4]
      simp [bufL, zeroed]
  have HB1 := Aside0.mk (show Below w'.heap.size w' w1 from (Below.refl _ _).grown HG.out (Nat.le_refl _) (fun k e => by cases e))
  have H1B := Aside0.mk h1b
  clear h1b HOW HG
  have hw1 : IntKind.i64.wrap (1 - 1) = 0 := by decide
  go_loopg [11, 12, 49] m (fun gg s11 s12 s49 wr => ∃ i s : Nat, i ≤ m ∧ m - i ≤ gg ∧ s49 = .int .i64 i ∧ s11 = .int .i64 s ∧ s12 = .int .i64 s ∧ s ≤ l.length ∧ Aside0 ((l.drop s).count 2 = m - i) ∧ Aside0 (wr.heap[w'.heap.size]? = some (.cells ((bufL l s).map (Value.int .u8)).toArray 5 (0, 0))) ∧ Aside0 (Below w'.heap.size w' wr))
  case atStart => exact ⟨0, 0, by omega, by omega, rfl, rfl, rfl, by omega, ⟨by simpa using HMM.out⟩, H1B, HB1⟩
  case round =>
    clear H1B HB1
    obtain ⟨i, s, him, hgg, rfl, rfl, rfl, hsl, HCN, HBK, HB⟩ := hrel
    by_cases hlt : i < m
    · have hltz : (i : Int) < (m : Int) := by omega
      have h2 : 2 ∈ l.drop s := List.count_pos_iff.1 (by rw [HCN.out]; omega)
      obtain ⟨k, ek, hk, hg2, hnx⟩ := index_of (fun x hx => HU.out x (List.mem_of_mem_drop hx)) h2
      rw [List.length_drop] at hk
      have hsN : s < l.length := by omega
      have hcs : ¬ c = s := by omega
      have hsc : s ≤ c := by omega
      have HIX := index_c (some (ad.add s)) (l.drop s) (c - s) ⟨po, 0, none⟩ 1 2 wr (fun _ => ⟨_, rfl, fun i hi => by
        rw [List.length_drop] at hi
        have := HCL.out (s + i) (by omega)
        rw [Go.Deep.add_add]
        have e0 : (l.drop s).getD i 0 = rd l ((s + i : Nat) : Int) := by
          rw [rd, Int.toNat_natCast, List.getD_eq_getElem?_getD, List.getElem?_drop, ← List.getD_eq_getElem?_getD]
        rw [e0]
        exact (HB.out.cell (World.block_lt_of_cell? w' _ this)).trans this⟩) (by rw [List.length_drop]; omega) ((blk_cell ((HB.out.block po (blk_lt HO.out)).trans HO.out) 0).trans rfl)
      rw [ek, List.length_drop] at HIX
      have HIX := Aside0.mk HIX
      clear h2 ek
      go_wp2_with fail
      refine HIX.out.mono ?_
      rintro e w2 ⟨rfl, rfl⟩
      obtain ⟨j, hj⟩ : ∃ j : Nat, s + k = j := ⟨_, rfl⟩
      have hjk : IntKind.i64.wrap ((s : Int) + (k : Int)) = (j : Int) := by rw [i64_w]; unfold wrap64; omega
      have hb1 : (j : Int) ≤ (c : Int) := by omega
      have hb2 : (s : Int) ≤ (j : Int) := by omega
      have hb3 : j - s = k := by omega
      have hb4 : j ≤ c := by omega
      have hb5 : s ≤ j := by omega
      have hN1 : ¬ l.length = s := by omega
      go_wp2_with fail
      obtain ⟨wa, hra, hba, hBa⟩ := copy_run w2.drew w'.heap.size s (l.length - s) (l.length - s) (c - s) (some ⟨w'.heap.size, s, none⟩) (some (ad.add s)) ((l.drop s).take k) (bufL l s) HBK.out (by rw [bufL_len _ _ hsl]; simp; omega) (by simp; omega) (fun _ => rfl) (fun _ => ⟨_, rfl, fun i hi => by
        rw [List.length_take, List.length_drop] at hi
        have := HCL.out (s + i) (by omega)
        rw [Go.Deep.add_add]
        have e1 : ((l.drop s).take k).getD i 0 = rd l ((s + i : Nat) : Int) := by
          rw [rd, Int.toNat_natCast, List.getD_eq_getElem?_getD, List.getElem?_take_of_lt (by omega), List.getElem?_drop, ← List.getD_eq_getElem?_getD]
        rw [e1]
        exact (HB.out.cell (World.block_lt_of_cell? w' _ this)).trans this⟩)
      have hsk : ((l.drop s).take k).length = k := by simp; omega
      rw [hsk] at hra
      have HBa := Aside0.mk (hBa _ w' (Nat.le_refl _) (Below.drew HB.out))
      obtain ⟨hst1, hst2⟩ := buf_step l s k (by omega) (by rw [List.getElem?_drop] at hg2; exact hg2) (fun i hi => by have := hnx i hi; rw [List.getElem?_drop] at this; exact this)
      rw [hj] at hst1
      obtain ⟨wb, hrb, hbb, hBb⟩ := copy_run wa w'.heap.size j (l.length - j) (l.length - j) 1 (some ⟨w'.heap.size, j, none⟩) (some ⟨pn, 0, none⟩) [0] _ hba (by rw [hst2]; simp; omega) (by simp; omega) (fun _ => rfl) (fun _ => ⟨_, rfl, fun i hi => by
        obtain rfl : i = 0 := by simp at hi; omega
        exact (blk_cell ((HBa.out.block pn (blk_lt HN.out)).trans HN.out) 0).trans rfl⟩)
      rw [hst1] at hbb
      have HBb := Aside0.mk (hBb _ w' (Nat.le_refl _) HBa.out)
      have HBBK := Aside0.mk hbb
      have hN2 : ¬ l.length = j := by omega
      have hskN : j < l.length := by omega
      have HC2 := Aside0.mk (show (l.drop (j + 1)).count 2 = m - (i + 1) by
        rw [← hj]
        have h1 : l.drop s = (l.drop s).take k ++ (2 :: l.drop (s + k + 1)) := by
          have h2 : (l.drop s).drop k = 2 :: l.drop (s + k + 1) := by
            have hgk : (l.drop s)[k]'(by rw [List.length_drop]; exact hk) = 2 := by
              rw [List.getElem?_eq_getElem (by rw [List.length_drop]; exact hk)] at hg2
              exact Option.some.inj hg2
            rw [List.drop_eq_getElem_cons (by rw [List.length_drop]; exact hk), hgk, List.drop_drop]
            rfl
          rw [← h2, List.take_append_drop]
        have h3 : ((l.drop s).take k).count 2 = 0 := List.count_eq_zero.2 fun hm2 => by
          obtain ⟨j, hj, e⟩ := List.getElem_of_mem hm2
          rw [List.length_take] at hj
          refine hnx j (by omega) ?_
          rw [List.getElem_take] at e
          rw [List.getElem?_eq_getElem (by omega), e]
        have h4 := HCN.out
        rw [h1, List.count_append, h3, List.count_cons] at h4
        simp at h4
        omega)
      clear hba hBa hst1 hst2 hbb hBb hg2 hnx HIX
      go_region_held3 (fun _ => True) (trivial) (first | (rw [if_pos (by rfl)]; refine wp_copy _ _ _ rfl _ _ rfl rfl hra ?_))
      simp only [List.length_singleton, Int.natCast_one] at hrb
      go_wp2_with (at_builtin; refine wpList_copy _ rfl _ _ rfl (.slice (some ⟨w'.heap.size, j, none⟩) (l.length - j) (l.length - j)) (.slice (some ⟨pn, 0, none⟩) 1 1) rfl rfl hrb ?_)
      go_roundg (m - (i + 1))
      case measure => omega
      case rel => exact ⟨i + 1, j + 1, by omega, by omega, by go_num, by go_num, by go_num, by omega, HC2, HBBK, HBb⟩
    · obtain rfl : i = m := by omega
      have hltz : ¬ ((i : Nat) : Int) < ((i : Nat) : Int) := by omega
      have hcz : (l.drop s).count 2 = 0 := by rw [HCN.out]; omega
      have hend := buf_end l s hsl hcz
      rcases Nat.lt_or_ge s l.length with hsN | hsN
      · have hN1 : ¬ l.length = s := by omega
        have hcs : ¬ c = s := by omega
        have hsc : s ≤ c := by omega
        obtain ⟨wa, hra, hba, hBa⟩ := copy_run wr.drew w'.heap.size s (l.length - s) (l.length - s) (c - s) (some ⟨w'.heap.size, s, none⟩) (some (ad.add s)) (l.drop s) (bufL l s) HBK.out (by rw [bufL_len _ _ hsl]; simp; omega) (by simp) (fun _ => rfl) (fun _ => ⟨_, rfl, fun i hi => by
          rw [List.length_drop] at hi
          have := HCL.out (s + i) (by omega)
          rw [Go.Deep.add_add]
          have e0 : (l.drop s).getD i 0 = rd l ((s + i : Nat) : Int) := by
            rw [rd, Int.toNat_natCast, List.getD_eq_getElem?_getD, List.getElem?_drop, ← List.getD_eq_getElem?_getD]
          rw [e0]
          exact (HB.out.cell (World.block_lt_of_cell? w' _ this)).trans this⟩)
        rw [List.length_drop] at hra
        have HBa := Aside0.mk (hBa _ w' (Nat.le_refl _) (Below.drew HB.out))
        rw [hend] at hba
        have HBA := Aside0.mk hba
        have hwr : IntKind.i64.wrap ((s : Int) + ((l.length - s : Nat) : Int)) = (l.length : Int) := by rw [i64_w]; unfold wrap64; omega
        clear hBa hba hend hcz
        go_wp2_with fail
        go_region_held3 (fun _ => True) (trivial) (first | (rw [if_pos (by rfl)]; refine wp_copy _ _ _ rfl _ _ rfl rfl hra ?_))
        go_wp2_with fail
        go_ret
        have hR := own_buf HBA.out (Nat.le_refl _) (by rw [zeroed_len]; exact hlen)
        rw [zeroed_len] at hR
        exact ⟨_, rfl, hR, HBa.out⟩
      · obtain rfl : s = l.length := by omega
        rw [List.drop_length] at hend
        rcases Nat.lt_or_ge l.length c with hcs | hcs
        · have hcn : ¬ c = l.length := by omega
          obtain ⟨wa, hra, hba, hBa⟩ := copy_run wr.drew w'.heap.size l.length 0 0 (c - l.length) (some ⟨w'.heap.size, 0, none⟩) (some (ad.add l.length)) [] (bufL l l.length) HBK.out (by rw [bufL_len _ _ hsl]; simp) (by simp) (fun h => absurd h (by simp)) (fun h => absurd h (by simp))
          rw [List.length_nil] at hra
          have HBa := Aside0.mk (hBa _ w' (Nat.le_refl _) (Below.drew HB.out))
          rw [hend] at hba
          have HBA := Aside0.mk hba
          clear hBa hba hend hcz
          go_wp2_with fail
          go_region_held3 (fun _ => True) (trivial) (first | (rw [if_pos (by rfl)]; refine wp_copy _ _ _ rfl _ _ rfl rfl hra ?_))
          go_wp2_with fail
          go_ret
          have hR := own_buf HBA.out (Nat.le_refl _) (by rw [zeroed_len]; exact hlen)
          rw [zeroed_len] at hR
          exact ⟨_, rfl, hR, HBa.out⟩
        · obtain rfl : c = l.length := by omega
          obtain ⟨wa, hra, hba, hBa⟩ := copy_run wr.drew w'.heap.size l.length 0 0 0 (some ⟨w'.heap.size, 0, none⟩) (some ad) [] (bufL l l.length) HBK.out (by rw [bufL_len _ _ hsl]; simp) (by simp) (fun h => absurd h (by simp)) (fun h => absurd h (by simp))
          rw [List.length_nil] at hra
          have HBa := Aside0.mk (hBa _ w' (Nat.le_refl _) (Below.drew HB.out))
          rw [hend] at hba
          have HBA := Aside0.mk hba
          clear hBa hba hend hcz
          go_wp2_with fail
          go_region_held3 (fun _ => True) (trivial) (first | (rw [if_pos (by rfl)]; refine wp_copy _ _ _ rfl _ _ rfl rfl hra ?_))
          go_wp2_with fail
          go_ret
          have hR := own_buf HBA.out (Nat.le_refl _) (by rw [zeroed_len]; exact hlen)
          rw [zeroed_len] at hR
          exact ⟨_, rfl, hR, HBa.out⟩
/-- sim.Read's zero: each X as 0, in new memory -/
theorem zero_c (A : Option Addr) (l : List Int) (c : Nat) (w : World) (hr : Kd.C (Kd.int .u8) w A l.length l) (hlc : l.length ≤ c) (hlen : l.length ≤ 1000000000000) (hu : ∀ x ∈ l, 0 ≤ x ∧ x < 256) :
    Calls Tryd.prog 74 #[.slice A l.length c] w fun e w' => ∃ v, e = .returned v ∧ Kd.R (Kd.int .u8) 5 w' w.heap.size (fun k => w.heap.size ≤ k) v (zeroed l) ∧ Below w.heap.size w w' := by
  have key : ∀ W, Below w.heap.size w W → ∀ po pn, W.heap[po]? = some (.cells #[.int .u8 2] 5 (0, 0)) → W.heap[pn]? = some (.cells #[.int .u8 0] 5 (0, 0)) →
      Calls Tryd.prog 120 #[.slice A l.length c, .slice (some ⟨po, 0, none⟩) 1 1, .slice (some ⟨pn, 0, none⟩) 1 1, .int .i64 (-1)] W fun e w' => ∃ v, e = .returned v ∧ Kd.R (Kd.int .u8) 5 w' W.heap.size (fun _ => True) v (zeroed l) ∧ Below W.heap.size W w' := by
    intro W hW po pn h1 h2
    rcases Nat.eq_zero_or_pos (l.count 2) with h0 | h0
    · exact Replace_none A l c po pn W (Kd.C_below hr hW) hlen hu h1 h0
    · exact Replace_some A l c po pn W (Kd.C_below hr hW) hlc hlen hu h1 h2 h0
  have key2 : ∀ W, Below w.heap.size w W → ∀ po pn, W.heap[po]? = some (.cells #[.int .u8 2] 5 (0, 0)) → W.heap[pn]? = some (.cells #[.int .u8 0] 5 (0, 0)) →
      Calls Tryd.prog 75 #[.slice A l.length c, .slice (some ⟨po, 0, none⟩) 1 1, .slice (some ⟨pn, 0, none⟩) 1 1] W fun e w' => ∃ v, e = .returned v ∧ Kd.R (Kd.int .u8) 5 w' W.heap.size (fun _ => True) v (zeroed l) ∧ Below W.heap.size W w' := by
    intro W hW po pn h1 h2
    have H := Aside0.mk (key W hW po pn h1 h2)
    clear key h1 h2 hr hu
    go_enter Tryd.func75, Tryd.ntmps75
    go_wp2_with fail
    refine H.out.mono ?_
    rintro e w' ⟨v, rfl, hR, hb⟩
    obtain ⟨A1, c1, rfl⟩ := Kd.R_slice hR
    have HR := Aside0.mk hR
    have HB := Aside0.mk hb
    clear hR hb
    go_wp2_with fail
    go_ret
    exact ⟨_, rfl, HR.out, HB.out⟩
  have H := Aside0.mk key2
  clear key key2 hr hu
  go_enter Tryd.func74, Tryd.ntmps74
  go_wp2_with fail
  obtain ⟨k1, k2⟩ := blks2' w (.cells #[.int .u8 2] 5) (.cells #[.int .u8 0] 5)
  refine (H.out _ (below_alloc (below_alloc (Below.refl _ _) _) _) _ _ k1 k2).mono ?_
  rintro e w' ⟨v, rfl, hR, hb⟩
  obtain ⟨A1, c1, rfl⟩ := Kd.R_slice hR
  have HR := Aside0.mk (Kd.R_mono (ok' := fun k => w.heap.size ≤ k) (Kd.R_bound (Kd.R_lower hR (by simp; omega : w.heap.size ≤ _))) (fun k hk => hk.2.1))
  have HB := Aside0.mk (below_step (below_alloc (below_alloc (Below.refl _ w) _) _) hb)
  clear hR hb k1 k2
  go_wp2_with fail
  go_ret
  exact ⟨_, rfl, HR.out, HB.out⟩
end Go.Proofs.YthpnooookkpkaaaDoor.F
namespace Go.Proofs.YthpnooookkpkaaaDoor.F
open Go.Shelf Go.RowKit Go.Proofs.YthpnooookkpkaaaDoorW.PrintWords Go.Proofs.YthpnooookkpkaaaDoorW.PrintLast Go.Proofs.YthpnooookkpkaaaDoorW.PrintMore
set_option maxRecDepth 100000 in
set_option maxHeartbeats 4000000 in
theorem Read_c (t : Trc) (w : World) (ht : t.ok w) (hI : t.I.length ≤ 1000000000000 ∧ ∀ x ∈ t.I, 0 ≤ x ∧ x < 256) (hF : ∀ l ∈ t.F, l.length ≤ 1000000000000 ∧ ∀ x ∈ l, 0 ≤ x ∧ x < 256) (hlen : t.F.length ≤ 1000000000) :
    Calls Tryd.prog 30 #[t.val] w fun e w' => ∃ v1 v2 : Value, e = .returned (.agg #[.int .i64 t.bad, v1, v2]) ∧ Kd.R (Kd.int .u8) 5 w' w.heap.size (fun _ => True) v1 (zeroed t.I) ∧ Kd.S (Kd.slice 5 (Kd.int .u8)) 27 w' w.heap.size (fun k => some k ≠ (v1 : Value).ownBlock) v2 (t.F.map zeroed) ∧ Below w.heap.size w w' := by
  obtain ⟨tb, A1, c1, tI, A2, c2, tF⟩ := t
  dsimp only at hI hF hlen ⊢
  have HT := Aside0.mk ht
  have HF := Aside0.mk hF
  have HZ := Aside0.mk (fun W (hb : Below w.heap.size w W) => zero_c A1 tI c1 W (Kd.C_below ht.r1 hb) ht.h1 hI.1 hI.2)
  have HM2 := Aside0.mk (Kd.C_max ht.r2)
  clear ht hI hF
  unfold Trc.val Trc.cells
  go_enter Tryd.func30, Tryd.ntmps30
  go_wp2_with fail
  obtain ⟨k1, k2⟩ := blks2' w (.cells #[.int .i64 tb, .slice A1 tI.length c1, .slice A2 tF.length c2] 30) (.cells #[.int .i64 0, .slice none 0 0, .slice none 0 0] 30)
  have hb1 : Below w.heap.size w ((w.alloc (.cells #[.int .i64 tb, .slice A1 tI.length c1, .slice A2 tF.length c2] 30)).alloc (.cells #[.int .i64 0, .slice none 0 0, .slice none 0 0] 30)) := below_alloc (below_alloc (Below.refl _ _) _) _
  have hs1 : w.heap.size + 2 ≤ ((w.alloc (.cells #[.int .i64 tb, .slice A1 tI.length c1, .slice A2 tF.length c2] 30)).alloc (.cells #[.int .i64 0, .slice none 0 0, .slice none 0 0] 30)).heap.size := by simp
  generalize (w.alloc (Obj.cells #[Value.int .i64 tb, Value.slice A1 tI.length c1, Value.slice A2 tF.length c2] 30)).alloc (Obj.cells #[Value.int .i64 0, Value.slice none 0 0, Value.slice none 0 0] 30) = W1 at k1 k2 hb1 hs1 ⊢
  rename_i Kx hKx
  have hrest : ∀ (b4 : Nat) (W2 : World) (Av : Option Addr) (cv : Nat), w.heap.size + 2 ≤ b4 → W2.heap[b4]? = some (.cells #[.int .i64 tb, .slice Av tI.length cv, .slice none 0 0] 30 (0, 0)) → Kd.R (Kd.int .u8) 5 W2 w.heap.size (fun k => w.heap.size ≤ k) (.slice Av tI.length cv) (zeroed tI) →
      W2.heap[w.heap.size]? = some (.cells #[.int .i64 tb, .slice A1 tI.length c1, .slice A2 tF.length c2] 30 (0, 0)) → W2.heap[w.heap.size + 1]? = some (.cells #[.int .i64 0, .slice none 0 0, .slice none 0 0] 30 (0, 0)) → Below w.heap.size w W2 →
      Kx { tmps := #[.agg #[.int .i64 tb, .slice A1 tI.length c1, .slice A2 tF.length c2], .pointer (some ⟨w.heap.size, 0, none⟩), .pointer (some ⟨w.heap.size + 1, 0, none⟩), .func (.func 74) #[] #[], .pointer (some ⟨b4, 0, none⟩), undef, undef, .pointer (some ⟨w.heap.size, 0, none⟩), .int .i64 tb, .func (.func 74) #[] #[], .pointer (some ⟨w.heap.size, 1, none⟩), .slice A1 tI.length c1, .slice Av tI.length cv, .agg #[.int .i64 tb, .slice Av tI.length cv, .slice none 0 0], undef, undef, undef, undef, undef, undef, undef, undef, undef, undef, undef, undef, undef, undef, undef, undef, undef], defers := [] } W2 := by
    intro b4 W2 Av cv hb4 h4 hR h1 h2 hb
    refine hKx _ _ ?_
    have H4 := Aside0.mk h4
    have HR := Aside0.mk hR
    have H1 := Aside0.mk h1
    have H2 := Aside0.mk h2
    have HB := Aside0.mk hb
    clear h4 hR h1 h2 hb k1 k2 hb1 HZ
    have q2 : W2.cell? ⟨w.heap.size, 2, none⟩ = some (.slice A2 tF.length c2) := (blk_cell H1.out 2).trans rfl
    have hm2 := HM2.out
    skip
    go_wp2_with fail
    go_loopg [17] tF.length (fun gg s17 wr => ∃ (kk : Nat) (v2 : Value), kk ≤ tF.length ∧ tF.length - kk ≤ gg ∧ s17 = .int .i64 kk ∧ Aside0 (wr.heap[b4]? = some (.cells #[.int .i64 tb, .slice Av tI.length cv, v2] 30 (0, 0))) ∧ Aside0 (Kd.R (Kd.int .u8) 5 wr w.heap.size (fun k => w.heap.size ≤ k) (.slice Av tI.length cv) (zeroed tI)) ∧
        Aside0 (Kd.S (Kd.slice 5 (Kd.int .u8)) 27 wr w.heap.size (fun k => some k ≠ (.slice Av tI.length cv : Value).ownBlock) v2 ((tF.take kk).map zeroed)) ∧ Aside0 (wr.heap[w.heap.size]? = some (.cells #[.int .i64 tb, .slice A1 tI.length c1, .slice A2 tF.length c2] 30 (0, 0))) ∧
        Aside0 (wr.heap[w.heap.size + 1]? = some (.cells #[.int .i64 0, .slice none 0 0, .slice none 0 0] 30 (0, 0))) ∧ Aside0 (Below w.heap.size w wr))
    case atStart => exact ⟨0, .slice none 0 0, by omega, by omega, rfl, H4, HR, ⟨Kd.S_nil _ _ _ _ _⟩, H1, H2, HB⟩
    case round =>
      clear q2 H4 HR H1 H2 HB
      obtain ⟨kk, v2, hkk, hgg, rfl, H4, HR, HS, H1, H2, HB⟩ := hrel
      by_cases hlt : kk < tF.length
      · have hltz : (kk : Int) < (tF.length : Int) := by omega
        obtain ⟨ad, Ai, ci, rfl, hi, hli, HCi⟩ := at_L4 (Kd.C_below HT.out.r2 HB.out) (kk : Int) (by omega) (by dsimp only; omega)
        rw [Int.toNat_natCast] at hi
        have hrd : rd_L4 tF (kk : Int) = tF[kk] := by
          unfold rd_L4
          rw [Int.toNat_natCast, List.getD_eq_getElem?_getD, List.getElem?_eq_getElem hlt]
          rfl
        have hfl := HF.out _ (List.getElem_mem hlt)
        rw [← hrd] at hfl
        have HZ := Aside0.mk (fun W (hb : Below wr.heap.size wr W) => zero_c Ai (rd_L4 tF (kk : Int)) ci W (Kd.C_below HCi hb) hli hfl.1 hfl.2)
        have HAP := Aside0.mk (show (tF.take (kk + 1)).map zeroed = (tF.take kk).map zeroed ++ [zeroed (rd_L4 tF (kk : Int))] by
          rw [List.take_succ_eq_append_getElem hlt, List.map_append, hrd]
          rfl)
        obtain ⟨An, cn, rfl⟩ := Kd.R_slice (Kd.S_R HS.out)
        have hln : ((tF.take kk).map zeroed).length = kk := by simp; omega
        rw [hln] at H4 HS
        have hvb : ∀ k, (.slice An kk cn : Value).ownBlock = some k → k < wr.heap.size := fun k hk => by
          obtain ⟨inner, ho⟩ := Kd.S_own HS.out
          exact own_lt ho k hk
        have hib : ∀ k, (.slice Av tI.length cv : Value).ownBlock = some k → k < wr.heap.size := fun k hk => by
          obtain ⟨inner, ho⟩ := Kd.R_own HR.out
          exact own_lt ho k hk
        have HOKP := Aside0.mk (show ∀ k, wr.heap.size ≤ k → some k ≠ (.slice Av tI.length cv : Value).ownBlock ∧ some k ≠ (.slice An kk cn : Value).ownBlock from fun k hk => ⟨fun e => absurd (hib k e.symm) (Nat.not_lt.2 hk), fun e => absurd (hvb k e.symm) (Nat.not_lt.2 hk)⟩)
        have HFR : Aside0 (∀ W : World, ∀ k, wr.heap.size ≤ k → some k ≠ (.slice Av tI.length cv : Value).ownBlock) := ⟨fun _ k hk => (HOKP.out k hk).1⟩
        have HROW := Aside0.mk (show ∀ k, (.slice An kk cn : Value).ownBlock = some k → some k ≠ (.slice Av tI.length cv : Value).ownBlock from by
          obtain ⟨f, h0, _⟩ := HS.out
          exact h0)
        have b2 : wr.cell? ⟨b4, 2, none⟩ = some (.slice An kk cn) := (blk_cell H4.out 2).trans rfl
        clear hfl hrd HCi hvb hib hln
        go_wp2_with fail
        refine wp_region_held_drew (S := fun _ => True) (by kernel_rfl) trivial (fun hHeld => ?_)
        refine wpAnyH_take (i := 0) (v := ?_) rfl (by kernel_rfl) (by kernel_rfl) (by kernel_rfl) (fun _ _ _ h => h) (Or.inl ⟨by rfl, ?_⟩) (by assumption) ?_
        rotate_left
        · intro w hSw
          go_simp
          try with_reducible rfl
        simp only [List.getElem_toArray, List.getElem_cons_zero, Act.put, List.setIfInBounds_toArray, List.set_cons_zero, List.set_cons_succ]
        refine wpAnyH_take (i := 2) (v := ?_) rfl (by kernel_rfl) (by kernel_rfl) (by kernel_rfl) (fun _ _ _ h => h) (Or.inl ⟨by rfl, ?_⟩) (by assumption) ?_
        rotate_left
        · intro w hSw
          go_simp
          try with_reducible rfl
        simp only [List.getElem_toArray, List.getElem_cons_succ, List.getElem_cons_zero, Act.put, List.setIfInBounds_toArray, List.set_cons_zero, List.set_cons_succ]
        refine wpAnyH_take (i := 3) (v := ?_) rfl (by kernel_rfl) (by kernel_rfl) (by kernel_rfl) (fun _ _ _ h => h) (Or.inl ⟨by rfl, ?_⟩) (by assumption) ?_
        rotate_left
        · intro w hSw
          go_simp
          try with_reducible rfl
        simp only [List.getElem_toArray, List.getElem_cons_succ, List.getElem_cons_zero, Act.put, List.setIfInBounds_toArray, List.set_cons_zero, List.set_cons_succ]
        refine wpAnyH_ready (rs := [1, 4]) (by kernel_rfl) (by simp) ?_
        refine AllReadyH.cons rfl (fun K hK => ?_) (AllReadyH.cons rfl (fun K hK => ?_) AllReadyH.nil)
        · go_simp
          refine hK.out _ _ trivial (fun hHeld => ?_)
          clear hK K
          refine wpAnyH_ready (rs := [4]) (by kernel_rfl) (by simp) ?_
          refine AllReadyH.cons rfl (fun K hK => ?_) AllReadyH.nil
          go_simp
          go_at_call 74
          refine (HZ.out _ (Below.drew (Below.refl _ _))).mono ?_
          rintro e wa ⟨v, rfl, hX, hba⟩
          obtain ⟨Ax, cx, rfl⟩ := Kd.R_slice hX
          have hba2 : Below wr.heap.size wr wa := (Below.drew (Below.refl _ wr)).trans hba
          have HBA := Aside0.mk hba2
          have HX := Aside0.mk hX
          have H4a := Aside0.mk (blk_below H4.out hba2)
          have b2a : wa.cell? ⟨b4, 2, none⟩ = some (.slice An kk cn) := (blk_cell H4a.out 2).trans rfl
          clear hba hba2 hX
          go_wp2_with fail
          refine hK.out _ _ trivial (fun hHeld => ?_)
          clear hK K
          refine wpAnyH_ready (rs := [5]) (by kernel_rfl) (by simp) ?_
          refine AllReadyH.cons rfl (fun K hK => ?_) AllReadyH.nil
          go_simp
          refine hK.out _ _ trivial (fun hHeld => ?_)
          clear hK K
          refine wpAnyH_ready (rs := [6]) (by kernel_rfl) (by simp) ?_
          refine AllReadyH.cons rfl (fun K hK => ?_) AllReadyH.nil
          refine Kd.S_append_step (Kd.slice 5 (Kd.int .u8)) (w0 := w) w.heap.size (by rfl) _ _ 28 27 (.slice none 0 0) 24 rfl Tryd.underlying28 info27 rfl (by decide) (by omega) (.slice An kk cn) ((tF.take kk).map zeroed) (zeroed (rd_L4 tF (kk : Int))) [.slice Ax (zeroed (rd_L4 tF (kk : Int))).length cx] (fun k => some k ≠ (.slice Av tI.length cv : Value).ownBlock) (fun k => wr.heap.size ≤ k) rfl rfl ⟨_, rfl, Kd.R_lower HX.out HB.out.size⟩ HOKP.out (fun k hk => HFR.out wa k (Nat.le_trans HBA.out.size hk)) (Kd.S_mono (Kd.S_below (Kd.S_bound HS.out) HBA.out) (fun k hk => ⟨hk.1, fun h => absurd hk.2.2.1 (Nat.not_lt.2 h)⟩)) (HB.out.trans (HBA.out.mono HB.out.size)) (Nat.le_trans HB.out.size HBA.out.size) (by simp; omega) ?_
          intro v1 w1 hS1 hb1 hg1 hat1
          obtain ⟨A1x, c1x, rfl⟩ := Kd.R_slice (Kd.S_R hS1)
          have hlen1 : ((tF.take kk).map zeroed ++ [zeroed (rd_L4 tF (kk : Int))]).length = kk + 1 := by simp; omega
          rw [hlen1] at hS1 ⊢
          clear hlen1
          have HS1 := Aside0.mk hS1
          have HB1 := Aside0.mk hb1
          have HG1 := Aside0.mk hg1
          have HNE := Aside0.mk (Kd.S_ne (Kd.S_below HS.out HBA.out) H4a.out (by decide))
          have h41 := blk_grown H4a.out hg1 HNE.out
          have H41 := Aside0.mk h41
          have c41 : w1.cell? ⟨b4, 2, none⟩ = some (.slice An kk cn) := (blk_cell h41 2).trans rfl
          have f41 : w1.frozen? ⟨b4, 2, none⟩ = false := blk_frozen h41 2
          clear hS1 hb1 hg1 hat1 h41
          refine hK.out _ _ trivial (fun hHeld => ?_)
          clear hK K
          refine wpAnyH_ready (rs := [7]) (by kernel_rfl) (by simp) ?_
          refine AllReadyH.cons rfl (fun K hK => ?_) AllReadyH.nil
          go_simp
          refine hK.out _ _ trivial (fun hHeld => ?_)
          clear hK K
          refine wpAnyH_ready (rs := [8]) (by kernel_rfl) (by simp) ?_
          refine AllReadyH.cons rfl (fun K hK => ?_) AllReadyH.nil
          go_simp
          refine hK.out _ _ trivial (fun hHeld => ?_)
          clear hK K
          refine wpAnyH_done (by kernel_rfl) ?_ _
          go_wp2_with fail
          go_roundg (tF.length - (kk + 1))
          case measure => omega
          case rel =>
            have hap : (tF.take (kk + 1)).map zeroed = (tF.take kk).map zeroed ++ [zeroed (rd_L4 tF (kk : Int))] := HAP.out
            refine ⟨kk + 1, _, by omega, by omega, by go_num, ⟨blk_put H41.out 2 _ rfl⟩, ⟨Kd.R_set (Kd.R_grown2 (Kd.R_below HR.out HBA.out) rfl HG1.out HROW.out) H41.out (by decide) 2 _⟩, ⟨?_⟩, ⟨blk_far (blk_grown (blk_below H1.out HBA.out) HG1.out (Kd.S_ne (Kd.S_below HS.out HBA.out) (blk_below H1.out HBA.out) (by decide))) (p := ⟨b4, 2, none⟩) (show w.heap.size ≠ b4 by omega) _⟩, ⟨blk_far (blk_grown (blk_below H2.out HBA.out) HG1.out (Kd.S_ne (Kd.S_below HS.out HBA.out) (blk_below H2.out HBA.out) (by decide))) (p := ⟨b4, 2, none⟩) (show w.heap.size + 1 ≠ b4 by omega) _⟩, ⟨HB1.out.setCell (p := ⟨b4, 2, none⟩) (by simp; omega) _⟩⟩
            have hS2 := Kd.S_set HS1.out H41.out (by decide) 2 (.slice A1x (kk + 1) c1x)
            rw [hap]
            exact hS2
        · go_simp
          go_at_call 74
          refine (HZ.out _ (Below.drew (Below.refl _ _))).mono ?_
          rintro e wa ⟨v, rfl, hX, hba⟩
          obtain ⟨Ax, cx, rfl⟩ := Kd.R_slice hX
          have hba2 : Below wr.heap.size wr wa := (Below.drew (Below.refl _ wr)).trans hba
          have HBA := Aside0.mk hba2
          have HX := Aside0.mk hX
          have H4a := Aside0.mk (blk_below H4.out hba2)
          have b2a : wa.cell? ⟨b4, 2, none⟩ = some (.slice An kk cn) := (blk_cell H4a.out 2).trans rfl
          clear hba hba2 hX
          go_wp2_with fail
          refine hK.out _ _ trivial (fun hHeld => ?_)
          clear hK K
          refine wpAnyH_ready (rs := [1, 5]) (by kernel_rfl) (by simp) ?_
          refine AllReadyH.cons rfl (fun K hK => ?_) (AllReadyH.cons rfl (fun K hK => ?_) AllReadyH.nil)
          · go_simp
            refine hK.out _ _ trivial (fun hHeld => ?_)
            clear hK K
            refine wpAnyH_ready (rs := [5]) (by kernel_rfl) (by simp) ?_
            refine AllReadyH.cons rfl (fun K hK => ?_) AllReadyH.nil
            go_simp
            refine hK.out _ _ trivial (fun hHeld => ?_)
            clear hK K
            refine wpAnyH_ready (rs := [6]) (by kernel_rfl) (by simp) ?_
            refine AllReadyH.cons rfl (fun K hK => ?_) AllReadyH.nil
            refine Kd.S_append_step (Kd.slice 5 (Kd.int .u8)) (w0 := w) w.heap.size (by rfl) _ _ 28 27 (.slice none 0 0) 24 rfl Tryd.underlying28 info27 rfl (by decide) (by omega) (.slice An kk cn) ((tF.take kk).map zeroed) (zeroed (rd_L4 tF (kk : Int))) [.slice Ax (zeroed (rd_L4 tF (kk : Int))).length cx] (fun k => some k ≠ (.slice Av tI.length cv : Value).ownBlock) (fun k => wr.heap.size ≤ k) rfl rfl ⟨_, rfl, Kd.R_lower HX.out HB.out.size⟩ HOKP.out (fun k hk => HFR.out wa k (Nat.le_trans HBA.out.size hk)) (Kd.S_mono (Kd.S_below (Kd.S_bound HS.out) HBA.out) (fun k hk => ⟨hk.1, fun h => absurd hk.2.2.1 (Nat.not_lt.2 h)⟩)) (HB.out.trans (HBA.out.mono HB.out.size)) (Nat.le_trans HB.out.size HBA.out.size) (by simp; omega) ?_
            intro v1 w1 hS1 hb1 hg1 hat1
            obtain ⟨A1x, c1x, rfl⟩ := Kd.R_slice (Kd.S_R hS1)
            have hlen1 : ((tF.take kk).map zeroed ++ [zeroed (rd_L4 tF (kk : Int))]).length = kk + 1 := by simp; omega
            rw [hlen1] at hS1 ⊢
            clear hlen1
            have HS1 := Aside0.mk hS1
            have HB1 := Aside0.mk hb1
            have HG1 := Aside0.mk hg1
            have HNE := Aside0.mk (Kd.S_ne (Kd.S_below HS.out HBA.out) H4a.out (by decide))
            have h41 := blk_grown H4a.out hg1 HNE.out
            have H41 := Aside0.mk h41
            have c41 : w1.cell? ⟨b4, 2, none⟩ = some (.slice An kk cn) := (blk_cell h41 2).trans rfl
            have f41 : w1.frozen? ⟨b4, 2, none⟩ = false := blk_frozen h41 2
            clear hS1 hb1 hg1 hat1 h41
            refine hK.out _ _ trivial (fun hHeld => ?_)
            clear hK K
            refine wpAnyH_ready (rs := [7]) (by kernel_rfl) (by simp) ?_
            refine AllReadyH.cons rfl (fun K hK => ?_) AllReadyH.nil
            go_simp
            refine hK.out _ _ trivial (fun hHeld => ?_)
            clear hK K
            refine wpAnyH_ready (rs := [8]) (by kernel_rfl) (by simp) ?_
            refine AllReadyH.cons rfl (fun K hK => ?_) AllReadyH.nil
            go_simp
            refine hK.out _ _ trivial (fun hHeld => ?_)
            clear hK K
            refine wpAnyH_done (by kernel_rfl) ?_ _
            go_wp2_with fail
            go_roundg (tF.length - (kk + 1))
            case measure => omega
            case rel =>
              have hap : (tF.take (kk + 1)).map zeroed = (tF.take kk).map zeroed ++ [zeroed (rd_L4 tF (kk : Int))] := HAP.out
              refine ⟨kk + 1, _, by omega, by omega, by go_num, ⟨blk_put H41.out 2 _ rfl⟩, ⟨Kd.R_set (Kd.R_grown2 (Kd.R_below HR.out HBA.out) rfl HG1.out HROW.out) H41.out (by decide) 2 _⟩, ⟨?_⟩, ⟨blk_far (blk_grown (blk_below H1.out HBA.out) HG1.out (Kd.S_ne (Kd.S_below HS.out HBA.out) (blk_below H1.out HBA.out) (by decide))) (p := ⟨b4, 2, none⟩) (show w.heap.size ≠ b4 by omega) _⟩, ⟨blk_far (blk_grown (blk_below H2.out HBA.out) HG1.out (Kd.S_ne (Kd.S_below HS.out HBA.out) (blk_below H2.out HBA.out) (by decide))) (p := ⟨b4, 2, none⟩) (show w.heap.size + 1 ≠ b4 by omega) _⟩, ⟨HB1.out.setCell (p := ⟨b4, 2, none⟩) (by simp; omega) _⟩⟩
              have hS2 := Kd.S_set HS1.out H41.out (by decide) 2 (.slice A1x (kk + 1) c1x)
              rw [hap]
              exact hS2
          · go_simp
            refine hK.out _ _ trivial (fun hHeld => ?_)
            clear hK K
            have b2c : (wa.alloc (.cells #[.slice Ax (zeroed (rd_L4 tF (kk : Int))).length cx] 27)).cell? ⟨b4, 2, none⟩ = some (.slice An kk cn) := (blk_cell (blk_alloc H4a.out _) 2).trans rfl
            refine wpAnyH_ready (rs := [1]) (by kernel_rfl) (by simp) ?_
            refine AllReadyH.cons rfl (fun K hK => ?_) AllReadyH.nil
            go_simp
            refine hK.out _ _ trivial (fun hHeld => ?_)
            clear hK K
            refine wpAnyH_ready (rs := [6]) (by kernel_rfl) (by simp) ?_
            refine AllReadyH.cons rfl (fun K hK => ?_) AllReadyH.nil
            refine Kd.S_append_step (Kd.slice 5 (Kd.int .u8)) (w0 := w) w.heap.size (by rfl) _ _ 28 27 (.slice none 0 0) 24 rfl Tryd.underlying28 info27 rfl (by decide) (by omega) (.slice An kk cn) ((tF.take kk).map zeroed) (zeroed (rd_L4 tF (kk : Int))) [.slice Ax (zeroed (rd_L4 tF (kk : Int))).length cx] (fun k => some k ≠ (.slice Av tI.length cv : Value).ownBlock) (fun k => wr.heap.size ≤ k) rfl rfl ⟨_, rfl, Kd.R_lower HX.out HB.out.size⟩ HOKP.out (fun k hk => HFR.out wa k (Nat.le_trans HBA.out.size hk)) (Kd.S_mono (Kd.S_below (Kd.S_bound HS.out) HBA.out) (fun k hk => ⟨hk.1, fun h => absurd hk.2.2.1 (Nat.not_lt.2 h)⟩)) (HB.out.trans (HBA.out.mono HB.out.size)) (Nat.le_trans HB.out.size HBA.out.size) (by simp; omega) ?_
            intro v1 w1 hS1 hb1 hg1 hat1
            obtain ⟨A1x, c1x, rfl⟩ := Kd.R_slice (Kd.S_R hS1)
            have hlen1 : ((tF.take kk).map zeroed ++ [zeroed (rd_L4 tF (kk : Int))]).length = kk + 1 := by simp; omega
            rw [hlen1] at hS1 ⊢
            clear hlen1
            have HS1 := Aside0.mk hS1
            have HB1 := Aside0.mk hb1
            have HG1 := Aside0.mk hg1
            have HNE := Aside0.mk (Kd.S_ne (Kd.S_below HS.out HBA.out) H4a.out (by decide))
            have h41 := blk_grown H4a.out hg1 HNE.out
            have H41 := Aside0.mk h41
            have c41 : w1.cell? ⟨b4, 2, none⟩ = some (.slice An kk cn) := (blk_cell h41 2).trans rfl
            have f41 : w1.frozen? ⟨b4, 2, none⟩ = false := blk_frozen h41 2
            clear hS1 hb1 hg1 hat1 h41
            refine hK.out _ _ trivial (fun hHeld => ?_)
            clear hK K
            refine wpAnyH_ready (rs := [7]) (by kernel_rfl) (by simp) ?_
            refine AllReadyH.cons rfl (fun K hK => ?_) AllReadyH.nil
            go_simp
            refine hK.out _ _ trivial (fun hHeld => ?_)
            clear hK K
            refine wpAnyH_ready (rs := [8]) (by kernel_rfl) (by simp) ?_
            refine AllReadyH.cons rfl (fun K hK => ?_) AllReadyH.nil
            go_simp
            refine hK.out _ _ trivial (fun hHeld => ?_)
            clear hK K
            refine wpAnyH_done (by kernel_rfl) ?_ _
            go_wp2_with fail
            go_roundg (tF.length - (kk + 1))
            case measure => omega
            case rel =>
              have hap : (tF.take (kk + 1)).map zeroed = (tF.take kk).map zeroed ++ [zeroed (rd_L4 tF (kk : Int))] := HAP.out
              refine ⟨kk + 1, _, by omega, by omega, by go_num, ⟨blk_put H41.out 2 _ rfl⟩, ⟨Kd.R_set (Kd.R_grown2 (Kd.R_below HR.out HBA.out) rfl HG1.out HROW.out) H41.out (by decide) 2 _⟩, ⟨?_⟩, ⟨blk_far (blk_grown (blk_below H1.out HBA.out) HG1.out (Kd.S_ne (Kd.S_below HS.out HBA.out) (blk_below H1.out HBA.out) (by decide))) (p := ⟨b4, 2, none⟩) (show w.heap.size ≠ b4 by omega) _⟩, ⟨blk_far (blk_grown (blk_below H2.out HBA.out) HG1.out (Kd.S_ne (Kd.S_below HS.out HBA.out) (blk_below H2.out HBA.out) (by decide))) (p := ⟨b4, 2, none⟩) (show w.heap.size + 1 ≠ b4 by omega) _⟩, ⟨HB1.out.setCell (p := ⟨b4, 2, none⟩) (by simp; omega) _⟩⟩
              have hS2 := Kd.S_set HS1.out H41.out (by decide) 2 (.slice A1x (kk + 1) c1x)
              rw [hap]
              exact hS2
      · obtain rfl : kk = tF.length := by omega
        have hltz : ¬ ((tF.length : Nat) : Int) < ((tF.length : Nat) : Int) := by omega
        rw [List.take_length] at HS
        obtain ⟨An, cn, rfl⟩ := Kd.R_slice (Kd.S_R HS.out)
        rw [List.length_map] at H4 HS
        have e0 : wr.cell? ⟨b4, 0, none⟩ = some (.int .i64 tb) := (blk_cell H4.out 0).trans rfl
        have e1 : wr.cell? ⟨b4, 1, none⟩ = some (.slice Av tI.length cv) := (blk_cell H4.out 1).trans rfl
        have e2 : wr.cell? ⟨b4, 2, none⟩ = some (.slice An tF.length cn) := (blk_cell H4.out 2).trans rfl
        have r0 : wr.cell? ⟨w.heap.size + 1, 0, none⟩ = some (.int .i64 0) := (blk_cell H2.out 0).trans rfl
        have r1 : wr.cell? ⟨w.heap.size + 1, 1, none⟩ = some (.slice none 0 0) := (blk_cell H2.out 1).trans rfl
        have r2 : wr.cell? ⟨w.heap.size + 1, 2, none⟩ = some (.slice none 0 0) := (blk_cell H2.out 2).trans rfl
        have f0 : wr.frozen? ⟨w.heap.size + 1, 0, none⟩ = false := blk_frozen H2.out 0
        have f1 : wr.frozen? ⟨w.heap.size + 1, 1, none⟩ = false := blk_frozen H2.out 1
        have f2 : wr.frozen? ⟨w.heap.size + 1, 2, none⟩ = false := blk_frozen H2.out 2
        go_wp2_with fail
        have w1 := blk_set H2.out 0 (.int .i64 tb)
        have w2 := blk_set w1 1 (.slice Av tI.length cv)
        have KW : (((wr.setCell ⟨w.heap.size + 1, 0, none⟩ (.int .i64 tb)).setCell ⟨w.heap.size + 1, 1, none⟩ (.slice Av tI.length cv)).setCell ⟨w.heap.size + 1, 2, none⟩ (.slice An tF.length cn)).heap[w.heap.size + 1]? = some (.cells #[.int .i64 tb, .slice Av tI.length cv, .slice An tF.length cn] 30 (0, 0)) := blk_put w2 2 _ rfl
        have x0 := (blk_cell KW 0).trans rfl
        have x1 := (blk_cell KW 1).trans rfl
        have x2 := (blk_cell KW 2).trans rfl
        have hR2 := Kd.R_set (Kd.R_set (Kd.R_set HR.out H2.out (by decide) 0 (.int .i64 tb)) w1 (by decide) 1 (.slice Av tI.length cv)) w2 (by decide) 2 (.slice An tF.length cn)
        have hS2 := Kd.S_set (Kd.S_set (Kd.S_set HS.out H2.out (by decide) 0 (.int .i64 tb)) w1 (by decide) 1 (.slice Av tI.length cv)) w2 (by decide) 2 (.slice An tF.length cn)
        have hB2 := ((HB.out.setCell (p := ⟨w.heap.size + 1, 0, none⟩) (by simp) (.int .i64 tb)).setCell (p := ⟨w.heap.size + 1, 1, none⟩) (by simp) (.slice Av tI.length cv)).setCell (p := ⟨w.heap.size + 1, 2, none⟩) (by simp) (.slice An tF.length cn)
        generalize ((wr.setCell ⟨w.heap.size + 1, 0, none⟩ (.int .i64 tb)).setCell ⟨w.heap.size + 1, 1, none⟩ (.slice Av tI.length cv)).setCell ⟨w.heap.size + 1, 2, none⟩ (.slice An tF.length cn) = Wz at hR2 hS2 hB2 x0 x1 x2 ⊢
        exact bodyPost_ret (v := .agg #[.int .i64 tb, .slice Av tI.length cv, .slice An tF.length cn]) (by simp [results, Tryd.results30, go_sem, x0, x1, x2]) rfl ⟨_, _, rfl, Kd.R_mono hR2 (fun _ _ => trivial), hS2, hB2⟩
  clear hKx
  have K1 := Aside0.mk k1
  have K2 := Aside0.mk k2
  have HB1 := Aside0.mk hb1
  have q0 : W1.cell? ⟨w.heap.size, 0, none⟩ = some (.int .i64 tb) := (blk_cell k1 0).trans rfl
  have q1 : W1.cell? ⟨w.heap.size, 1, none⟩ = some (.slice A1 tI.length c1) := (blk_cell k1 1).trans rfl
  clear k1 k2 hb1
  refine wp_region_held_drew (S := fun W' => W'.cell? ⟨w.heap.size, 0, none⟩ = some (.int .i64 tb) ∧ W'.cell? ⟨w.heap.size, 1, none⟩ = some (.slice A1 tI.length c1)) (by kernel_rfl) ⟨q0, q1⟩ (fun hHeld => ?_)
  refine wpAnyH_take (i := 0) (v := ?_) rfl (by kernel_rfl) (by kernel_rfl) (by kernel_rfl) (fun _ _ _ h => h) (Or.inl ⟨by rfl, ?_⟩) (by assumption) ?_
  rotate_left
  · intro w hSw
    obtain ⟨s0, s1⟩ := hSw
    go_simp
    try with_reducible rfl
  simp only [List.getElem_toArray, List.getElem_cons_zero, Act.put, List.setIfInBounds_toArray, List.set_cons_zero, List.set_cons_succ]
  refine wpAnyH_take (i := 1) (v := ?_) rfl (by kernel_rfl) (by kernel_rfl) (by kernel_rfl) (fun _ _ _ h => h) (Or.inl ⟨by rfl, ?_⟩) (by assumption) ?_
  rotate_left
  · intro w hSw
    obtain ⟨s0, s1⟩ := hSw
    go_simp
    try with_reducible rfl
  simp only [List.getElem_toArray, List.getElem_cons_succ, List.getElem_cons_zero, Act.put, List.setIfInBounds_toArray, List.set_cons_zero, List.set_cons_succ]
  refine wpAnyH_take (i := 2) (v := ?_) rfl (by kernel_rfl) (by kernel_rfl) (by kernel_rfl) (fun _ _ _ h => h) (Or.inl ⟨by rfl, ?_⟩) (by assumption) ?_
  rotate_left
  · intro w hSw
    obtain ⟨s0, s1⟩ := hSw
    go_simp
    try with_reducible rfl
  simp only [List.getElem_toArray, List.getElem_cons_succ, List.getElem_cons_zero, Act.put, List.setIfInBounds_toArray, List.set_cons_zero, List.set_cons_succ]
  refine wpAnyH_take (i := 3) (v := ?_) rfl (by kernel_rfl) (by kernel_rfl) (by kernel_rfl) (fun _ _ _ h => h) (Or.inl ⟨by rfl, ?_⟩) (by assumption) ?_
  rotate_left
  · intro w hSw
    obtain ⟨s0, s1⟩ := hSw
    go_simp
    try with_reducible rfl
  simp only [List.getElem_toArray, List.getElem_cons_succ, List.getElem_cons_zero, Act.put, List.setIfInBounds_toArray, List.set_cons_zero, List.set_cons_succ]
  refine wpAnyH_take (i := 4) (v := ?_) rfl (by kernel_rfl) (by kernel_rfl) (by kernel_rfl) (fun _ _ _ h => h) (Or.inl ⟨by rfl, ?_⟩) (by assumption) ?_
  rotate_left
  · intro w hSw
    obtain ⟨s0, s1⟩ := hSw
    go_simp
    try with_reducible rfl
  simp only [List.getElem_toArray, List.getElem_cons_succ, List.getElem_cons_zero, Act.put, List.setIfInBounds_toArray, List.set_cons_zero, List.set_cons_succ]
  refine wpAnyH_ready (rs := [5, 7]) (by kernel_rfl) (by simp) ?_
  refine AllReadyH.cons rfl (fun K hK => ?_) (AllReadyH.cons rfl (fun K hK => ?_) AllReadyH.nil)
  · go_simp
    go_at_call 74
    refine (HZ.out _ (Below.drew HB1.out)).mono ?_
    rintro e wa ⟨v, rfl, hR, hba⟩
    obtain ⟨Av, cv, rfl⟩ := Kd.R_slice hR
    rw [zeroed_len] at hR ⊢
    have HRa := Aside0.mk hR
    have HBa := Aside0.mk hba
    clear hR hba
    go_wp2_with fail
    refine hK.out _ _ ⟨HBa.out.cell (World.block_lt_of_cell? _ _ q0) ▸ q0, HBa.out.cell (World.block_lt_of_cell? _ _ q1) ▸ q1⟩ (fun hHeld => ?_)
    clear hK K
    refine wpAnyH_take (i := 6) (v := ?_) rfl (by kernel_rfl) (by kernel_rfl) (by kernel_rfl) (fun _ _ _ h => h) (Or.inl ⟨by rfl, ?_⟩) (by assumption) ?_
    rotate_left
    · intro w hSw
      go_simp
      try with_reducible rfl
    simp only [List.getElem_toArray, List.getElem_cons_succ, List.getElem_cons_zero, Act.put, List.setIfInBounds_toArray, List.set_cons_zero, List.set_cons_succ]
    have hba2 : Below W1.heap.size W1 wa := (Below.drew (Below.refl _ W1)).trans HBa.out
    have KA1 := blk_below K1.out hba2
    have KA2 := blk_below K2.out hba2
    refine wpAnyH_ready (rs := [7]) (by kernel_rfl) (by simp) ?_
    refine AllReadyH.cons rfl (fun K hK => ?_) AllReadyH.nil
    go_simp
    refine hK.out _ _ ⟨(blk_cell (blk_alloc KA1 _) 0).trans rfl, (blk_cell (blk_alloc KA1 _) 1).trans rfl⟩ (fun hHeld => ?_)
    clear hK K
    refine wpAnyH_ready (rs := [8]) (by kernel_rfl) (by simp) ?_
    refine AllReadyH.cons rfl (fun K hK => ?_) AllReadyH.nil
    go_simp
    refine hK.out _ _ ⟨(blk_cell (blk_alloc KA1 _) 0).trans rfl, (blk_cell (blk_alloc KA1 _) 1).trans rfl⟩ (fun hHeld => ?_)
    clear hK K
    refine wpAnyH_done (by kernel_rfl) ?_ _
    have hsz : W1.heap.size ≤ wa.heap.size := hba2.size
    exact hrest wa.heap.size _ Av cv (by omega) (blk_new wa _) (Kd.R_alloc (Kd.R_mono (Kd.R_lower HRa.out (Nat.le_trans (Nat.le_add_right _ _) hs1)) (fun k hk => Nat.le_trans (Nat.le_trans (Nat.le_add_right _ _) hs1) hk)) _) (blk_alloc KA1 _) (blk_alloc KA2 _) (below_alloc (HB1.out.trans (hba2.mono (Nat.le_trans (Nat.le_add_right _ _) hs1))) _)
  · go_simp
    refine hK.out _ _ ⟨(blk_cell (blk_alloc (w := W1.drew) K1.out _) 0).trans rfl, (blk_cell (blk_alloc (w := W1.drew) K1.out _) 1).trans rfl⟩ (fun hHeld => ?_)
    clear hK K
    refine wpAnyH_ready (rs := [5]) (by kernel_rfl) (by simp) ?_
    refine AllReadyH.cons rfl (fun K hK => ?_) AllReadyH.nil
    go_simp
    go_at_call 74
    refine (HZ.out _ (below_alloc (Below.drew HB1.out) _)).mono ?_
    rintro e wa ⟨v, rfl, hR, hba⟩
    obtain ⟨Av, cv, rfl⟩ := Kd.R_slice hR
    rw [zeroed_len] at hR ⊢
    have HRa := Aside0.mk hR
    have HBa := Aside0.mk hba
    clear hR hba
    go_wp2_with fail
    have hba2 : Below W1.heap.size W1 wa := (below_alloc (Below.drew (Below.refl _ W1)) _).trans (HBa.out.mono (by rw [World.size_alloc]; exact Nat.le_succ _))
    have KA1 := blk_below K1.out hba2
    have KA2 := blk_below K2.out hba2
    refine hK.out _ _ ⟨(blk_cell KA1 0).trans rfl, (blk_cell KA1 1).trans rfl⟩ (fun hHeld => ?_)
    clear hK K
    refine wpAnyH_take (i := 6) (v := ?_) rfl (by kernel_rfl) (by kernel_rfl) (by kernel_rfl) (fun _ _ _ h => h) (Or.inl ⟨by rfl, ?_⟩) (by assumption) ?_
    rotate_left
    · intro w hSw
      go_simp
      try with_reducible rfl
    simp only [List.getElem_toArray, List.getElem_cons_succ, List.getElem_cons_zero, Act.put, List.setIfInBounds_toArray, List.set_cons_zero, List.set_cons_succ]
    refine wpAnyH_ready (rs := [8]) (by kernel_rfl) (by simp) ?_
    refine AllReadyH.cons rfl (fun K hK => ?_) AllReadyH.nil
    have KN := blk_below (blk_new W1.drew (.cells #[.int .i64 0, .slice none 0 0, .slice none 0 0] 30)) HBa.out
    have n0 : wa.cell? ⟨W1.heap.size, 0, none⟩ = some (.int .i64 0) := (blk_cell KN 0).trans rfl
    have n1 : wa.cell? ⟨W1.heap.size, 1, none⟩ = some (.slice none 0 0) := (blk_cell KN 1).trans rfl
    have n2 : wa.cell? ⟨W1.heap.size, 2, none⟩ = some (.slice none 0 0) := (blk_cell KN 2).trans rfl
    have f0 : wa.frozen? ⟨W1.heap.size, 0, none⟩ = false := blk_frozen KN 0
    have f1 : wa.frozen? ⟨W1.heap.size, 1, none⟩ = false := blk_frozen KN 1
    have f2 : wa.frozen? ⟨W1.heap.size, 2, none⟩ = false := blk_frozen KN 2
    go_simp
    have ne1 : w.heap.size ≠ W1.heap.size := by omega
    have ne2 : w.heap.size + 1 ≠ W1.heap.size := by omega
    have hBw : Below w.heap.size w wa := HB1.out.trans (hba2.mono (Nat.le_trans (Nat.le_add_right _ _) hs1))
    have KF1 := blk_far (blk_far (blk_far KA1 (p := ⟨W1.heap.size, 0, none⟩) ne1 (.int .i64 tb)) (p := ⟨W1.heap.size, 1, none⟩) ne1 (.slice Av tI.length cv)) (p := ⟨W1.heap.size, 2, none⟩) ne1 (.slice none 0 0)
    have KF2 := blk_far (blk_far (blk_far KA2 (p := ⟨W1.heap.size, 0, none⟩) ne2 (.int .i64 tb)) (p := ⟨W1.heap.size, 1, none⟩) ne2 (.slice Av tI.length cv)) (p := ⟨W1.heap.size, 2, none⟩) ne2 (.slice none 0 0)
    have KW : (((wa.setCell ⟨W1.heap.size, 0, none⟩ (.int .i64 tb)).setCell ⟨W1.heap.size, 1, none⟩ (.slice Av tI.length cv)).setCell ⟨W1.heap.size, 2, none⟩ (.slice none 0 0)).heap[W1.heap.size]? = some (.cells #[.int .i64 tb, .slice Av tI.length cv, .slice none 0 0] 30 (0, 0)) := blk_put (blk_put (blk_put KN 0 _ rfl) 1 _ rfl) 2 _ rfl
    have hRw := Kd.R_set (Kd.R_set (Kd.R_set HRa.out KN (by decide) 0 (.int .i64 tb)) (blk_set KN 0 _) (by decide) 1 (.slice Av tI.length cv)) (blk_set (blk_set KN 0 _) 1 _) (by decide) 2 (.slice none 0 0)
    refine hK.out _ _ ⟨(blk_cell KF1 0).trans rfl, (blk_cell KF1 1).trans rfl⟩ (fun hHeld => ?_)
    clear hK K
    refine wpAnyH_done (by kernel_rfl) ?_ _
    have hsb : w.heap.size ≤ (W1.drew.alloc (.cells #[.int .i64 0, .slice none 0 0, .slice none 0 0] 30)).heap.size := by rw [World.size_alloc]; exact Nat.le_trans (Nat.le_trans (Nat.le_add_right _ _) hs1) (Nat.le_succ _)
    exact hrest W1.heap.size _ Av cv hs1 KW (Kd.R_mono (Kd.R_lower hRw hsb) (fun k hk => Nat.le_trans hsb hk)) KF1 KF2 (((hBw.setCell (p := ⟨W1.heap.size, 0, none⟩) (by simp; omega) _).setCell (p := ⟨W1.heap.size, 1, none⟩) (by simp; omega) _).setCell (p := ⟨W1.heap.size, 2, none⟩) (by simp; omega) _)
end Go.Proofs.YthpnooookkpkaaaDoor.F
