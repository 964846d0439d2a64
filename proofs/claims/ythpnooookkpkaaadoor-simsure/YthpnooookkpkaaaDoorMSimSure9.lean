/- Texts of this session for the claim of SimSure: functions of the program as plain Lean functions, that the machine's calls come to them, and plain facts of these. -/
import Derived.Test.YthpnooookkpkaaaDoorMSimSure4
import Derived.Test.YthpnooookkpkaaaDoorMSimSure8
import Derived.Test.YthpnooookkpkaaaDoorMSimSure0
import Derived.Test.YthpnooookkpkaaaDoorMSimSure1
namespace Go.Proofs.YthpnooookkpkaaaDoor.F
open Go.Shelf Go.RowKit Go.Maps Go.Proofs.YthpnooookkpkaaaDoorW.PrintWords Go.Proofs.YthpnooookkpkaaaDoorW.PrintLast Go.Proofs.YthpnooookkpkaaaDoorW.PrintMore
attribute [local go_sem] Oper.semAt_some

/-- what is asked of one frame more -/
def stepF (K : List Int) (bad : Int) (total : Nat) (vs : Nat → List Int) (v : Int) (n : Nat) : Int :=
  if n + 1 = total then and1 ((K.map (val (vs n))).foldl and1 v) (val (vs n) bad) else (K.map (val (vs n))).foldl and1 v
def sureF (K : List Int) (bad : Int) (total : Nat) (vs : Nat → List Int) : Nat → Int
  | 0 => 1
  | n + 1 => stepF K bad total vs (sureF K bad total vs n) n
/-- what lies between two rounds -/
def SI (B6 : Nat) (c : Circ) (t : Trc) (w W : World) (v : Int) : Prop :=
  W.heap[B6]? = some (.cells #[.int .u8 v] 5 (0, 0)) ∧ W.heap[w.heap.size]? = some (.cells c.cells 26 (0, 0)) ∧ W.heap[w.heap.size + 1]? = some (.cells t.cells 30 (0, 0)) ∧ Below w.heap.size w W
theorem isV_fold (l : List Int) : ∀ {v : Int}, isV v → isV (l.foldl and1 v) := by
  induction l with
  | nil => intro v h; exact h
  | cons x l ih => intro v _; exact ih (isV_and1 _ _)
theorem isV_sure (K : List Int) (bad : Int) (total : Nat) (vs : Nat → List Int) : ∀ n, isV (sureF K bad total vs n)
  | 0 => .inr (.inl rfl)
  | n + 1 => by
    unfold sureF stepF
    split
    · exact isV_and1 _ _
    · exact isV_fold _ (isV_sure K bad total vs n)
theorem and1_zero (b : Int) : and1 0 b = 0 := by simp [and1]
theorem fold_zero (l : List Int) : l.foldl and1 0 = 0 := by
  induction l with
  | nil => rfl
  | cons x l ih => rw [List.foldl_cons, and1_zero, ih]
theorem sureF_zero (K : List Int) (bad : Int) (total : Nat) (vs : Nat → List Int) {n m : Nat} (h : sureF K bad total vs n = 0) (hm : n ≤ m) : sureF K bad total vs m = 0 := by
  induction hm with
  | refl => exact h
  | step _ ih =>
    unfold sureF stepF
    rw [ih, fold_zero, and1_zero, ite_self]
theorem drawn_trans {a b c : World} (h : Drawn0 a b) (k : Drawn0 b c) : Drawn0 a c := by
  obtain ⟨m, rfl⟩ := k.out
  exact h.step m
/-- within a round -/
def RI (B6 bc bt D : Nat) (c : Circ) (t : Trc) (x : Fr) (m : Nat) (w W wr : World) (v : Int) : Prop :=
  SI B6 c t w wr v ∧ Fr.Rd bc bt c t x m wr ∧ KeepsFrom D W wr ∧ Below w.heap.size W wr
theorem RI.store {B6 bc bt D : Nat} {c : Circ} {t : Trc} {x : Fr} {m : Nat} {w W wr Wd : World} {v : Int} (h : RI B6 bc bt D c t x m w W wr v) (h6 : w.heap.size + 2 ≤ B6) (hc : B6 < bc) (ht : B6 < bt) (hm : B6 < m) (hd : Drawn0 wr Wd) (u : Int) :
    RI B6 bc bt D c t x m w W (Wd.setCell ⟨B6, 0, none⟩ (.int .u8 u)) u := by
  obtain ⟨⟨i1, i2, i3, i4⟩, ⟨r1, r2, r3⟩, k, b⟩ := h
  obtain ⟨n, rfl⟩ := hd.out
  refine ⟨⟨blk_set (w := wr.drewN n) i1 0 _, blk_far (w := wr.drewN n) i2 (by simp; omega) _, blk_far (w := wr.drewN n) i3 (by simp; omega) _, ?_⟩, ⟨?_, blk_far (w := wr.drewN n) r2 (by simp; omega) _, blk_far (w := wr.drewN n) r3 (by simp; omega) _⟩, ?_, ?_⟩
  · exact Below.setCell (pw_below_drewN i4 n) (p := ⟨B6, 0, none⟩) (by simp; omega) _
  · exact Kd.R_far (w := wr.drewN n) (Kd.R_drewN r1 n) (p := ⟨B6, 0, none⟩) (fun k hk => by simp; omega) _
  · exact k.trans ((⟨Nat.le_refl _, fun _ _ _ h _ => h⟩ : KeepsFrom D wr (wr.drewN n)).trans ((KeepsOthers.setCell _ _ _).from _))
  · exact Below.setCell (pw_below_drewN b n) (p := ⟨B6, 0, none⟩) (by simp; omega) _
set_option maxHeartbeats 4000000 in
/-- sim.Surely of a trace that fits -/
theorem Surely_fit (c : Circ) (t : Trc) (w : World) (hwf : c.wf) (hc : c.ok w) (ht : t.ok w) (hf : fitsB c t = true) (hlen : t.F.length ≤ 256) (hbad : 0 ≤ t.bad ∧ t.bad < c.B.length) (hK : ∀ k ∈ c.K, u32 k) (hB : u32 (rd c.B t.bad)) (st vs : Nat → List Int) (hr : Runs c t.I t.F st vs) (hvs : ∀ n, ∀ x ∈ vs n, isV x) :
    Calls Tryd.prog 15 #[c.val, t.val] w fun e w' => e = .returned (.tuple #[.int .u8 (sureF c.K (rd c.B t.bad) t.F.length vs t.F.length), .int .i64 0]) ∧ Below w.heap.size w w' := by
  obtain ⟨cn, A1, c1, cL, A2, c2, cG, A3, c3, cO, A4, c4, cB, A5, c5, cK⟩ := c
  obtain ⟨tb, D1, d1, tI, D2, d2, tF⟩ := t
  dsimp only at hlen hbad hK hB hr ⊢
  have HF := Aside0.mk (fun W (hb : Below w.heap.size w W) => Fits_c _ _ W hwf (hc.below hb) (ht.below hb))
  have HC := Aside0.mk hc
  have HT := Aside0.mk ht
  have HR := Aside0.mk hr
  have HVS := Aside0.mk hvs
  have HK := Aside0.mk hK
  have HB := Aside0.mk hB
  rw [hf] at HF
  clear hwf hc ht hr hf hvs hK hB
  have HFR := Aside0.mk (fun W => frames_c ⟨cn, A1, c1, cL, A2, c2, cG, A3, c3, cO, A4, c4, cB, A5, c5, cK⟩ ⟨tb, D1, d1, tI, D2, d2, tF⟩ W)
  unfold Circ.val Circ.cells Trc.val Trc.cells at HF HFR ⊢
  dsimp only at HF HFR ⊢
  refine (callsIn_wide (n := 3)).1 ?_
  refine callsIn_of_wp_marks Tryd.func15 rfl trivial ?_ rfl
  simp only [Tryd.ntmps15, List.size_toArray, List.length_cons, List.length_nil, Nat.reduceAdd, Nat.reduceSub, Array.replicate_succ, Array.replicate_zero, List.push_toArray, List.append_toArray, List.nil_append, List.cons_append]
  gi_wp2_with fail
  refine ⟨trivial, (callsIn_wide.2 (HF.out _ (below_alloc (below_alloc (Below.refl _ _) _) _))).mono ?_⟩
  rintro e w1 ⟨rfl, hb1⟩
  obtain ⟨k2, k3⟩ := blks2 w (.cells #[.int .i64 cn, .slice A1 cL.length c1, .slice A2 cG.length c2, .slice A3 cO.length c3, .slice A4 cB.length c4, .slice A5 cK.length c5] 26) (.cells #[.int .i64 tb, .slice D1 tI.length d1, .slice D2 tF.length d2] 30)
  have K2 := Aside0.mk (blk_below k2 hb1)
  have K3 := Aside0.mk (blk_below k3 hb1)
  have HB1 := Aside0.mk (below_step (below_alloc (below_alloc (Below.refl _ w) _) _) hb1)
  have HL1 := Aside0.mk (show w.heap.size + 2 ≤ w1.heap.size by have := hb1.size; simp at this; omega)
  clear hb1 k2 k3 HF
  have p0 : w1.cell? ⟨w.heap.size, 0, none⟩ = some (.int .i64 cn) := (blk_cell K2.out 0).trans rfl
  have p1 : w1.cell? ⟨w.heap.size, 1, none⟩ = some (.slice A1 cL.length c1) := (blk_cell K2.out 1).trans rfl
  have p2 : w1.cell? ⟨w.heap.size, 2, none⟩ = some (.slice A2 cG.length c2) := (blk_cell K2.out 2).trans rfl
  have p3 : w1.cell? ⟨w.heap.size, 3, none⟩ = some (.slice A3 cO.length c3) := (blk_cell K2.out 3).trans rfl
  have p4 : w1.cell? ⟨w.heap.size, 4, none⟩ = some (.slice A4 cB.length c4) := (blk_cell K2.out 4).trans rfl
  have p5 : w1.cell? ⟨w.heap.size, 5, none⟩ = some (.slice A5 cK.length c5) := (blk_cell K2.out 5).trans rfl
  have q0 : w1.cell? ⟨w.heap.size + 1, 0, none⟩ = some (.int .i64 tb) := (blk_cell K3.out 0).trans rfl
  have q1 : w1.cell? ⟨w.heap.size + 1, 1, none⟩ = some (.slice D1 tI.length d1) := (blk_cell K3.out 1).trans rfl
  have q2 : w1.cell? ⟨w.heap.size + 1, 2, none⟩ = some (.slice D2 tF.length d2) := (blk_cell K3.out 2).trans rfl
  have r0 : (w1.alloc (.cells #[.int .u8 1] 5)).cell? ⟨w.heap.size, 0, none⟩ = some (.int .i64 cn) := (blk_cell (blk_alloc K2.out _) 0).trans rfl
  have r1 : (w1.alloc (.cells #[.int .u8 1] 5)).cell? ⟨w.heap.size, 1, none⟩ = some (.slice A1 cL.length c1) := (blk_cell (blk_alloc K2.out _) 1).trans rfl
  have r2 : (w1.alloc (.cells #[.int .u8 1] 5)).cell? ⟨w.heap.size, 2, none⟩ = some (.slice A2 cG.length c2) := (blk_cell (blk_alloc K2.out _) 2).trans rfl
  have r3 : (w1.alloc (.cells #[.int .u8 1] 5)).cell? ⟨w.heap.size, 3, none⟩ = some (.slice A3 cO.length c3) := (blk_cell (blk_alloc K2.out _) 3).trans rfl
  have r4 : (w1.alloc (.cells #[.int .u8 1] 5)).cell? ⟨w.heap.size, 4, none⟩ = some (.slice A4 cB.length c4) := (blk_cell (blk_alloc K2.out _) 4).trans rfl
  have r5 : (w1.alloc (.cells #[.int .u8 1] 5)).cell? ⟨w.heap.size, 5, none⟩ = some (.slice A5 cK.length c5) := (blk_cell (blk_alloc K2.out _) 5).trans rfl
  have s0 : (w1.alloc (.cells #[.int .u8 1] 5)).cell? ⟨w.heap.size + 1, 0, none⟩ = some (.int .i64 tb) := (blk_cell (blk_alloc K3.out _) 0).trans rfl
  have s1 : (w1.alloc (.cells #[.int .u8 1] 5)).cell? ⟨w.heap.size + 1, 1, none⟩ = some (.slice D1 tI.length d1) := (blk_cell (blk_alloc K3.out _) 1).trans rfl
  have s2 : (w1.alloc (.cells #[.int .u8 1] 5)).cell? ⟨w.heap.size + 1, 2, none⟩ = some (.slice D2 tF.length d2) := (blk_cell (blk_alloc K3.out _) 2).trans rfl
  gi_wp2_with fail
  refine ⟨trivial, (callsIn_wide.2 (HFR.out _)).mono ?_⟩
  rintro e w2 ⟨rfl, hw2⟩
  clear p0 p1 p2 p3 p4 p5 q0 q1 q2 r0 r1 r2 r3 r4 r5 s0 s1 s2 HFR
  obtain ⟨kc, kt⟩ := blks2 (w1.alloc (.cells #[.int .u8 1] 5)) (.cells #[.int .i64 cn, .slice A1 cL.length c1, .slice A2 cG.length c2, .slice A3 cO.length c3, .slice A4 cB.length c4, .slice A5 cK.length c5] 26) (.cells #[.int .i64 tb, .slice D1 tI.length d1, .slice D2 tF.length d2] 30)
  have hb2 : Below (w1.alloc (.cells #[.int .u8 1] 5)).heap.size (w1.alloc (.cells #[.int .u8 1] 5)) w2 := by rw [hw2]; exact below_alloc (below_alloc (Below.refl _ _) _) _
  have hb3 : Below w1.heap.size w1 w2 := (below_alloc (Below.refl _ _) _).trans (hb2.mono (by simp))
  rw [← hw2, World.size_alloc] at kc kt
  have KC := Aside0.mk kc
  have KT := Aside0.mk kt
  have L6 := Aside0.mk (blk_below (blk_new w1 (.cells #[.int .u8 1] 5)) hb2)
  have L2 := Aside0.mk (blk_below K2.out hb3)
  have L3 := Aside0.mk (blk_below K3.out hb3)
  have HB2 := Aside0.mk (below_step HB1.out hb3)
  clear kc kt hb2 hb3 hw2 K2 K3
  gi_wp2_with fail
  refine wpIn_over (gf := 112) (lb := #[.pointer (some ⟨w1.heap.size + 1 + 1, 0, none⟩), .pointer (some ⟨w1.heap.size + 1, 0, none⟩)]) rfl (by decide) rfl trivial (enters_of Tryd.func112 (by kernel_rfl) rfl)
    (frames_iterates 2 _ _ w w2 HC.out HT.out HB2.out (w1.heap.size + 1) (w1.heap.size + 1 + 1) KC.out KT.out st vs HR.out) HB2.out.size (Below.refl _ _) (fun _ => rfl) (fun m => Fr.Rd_own _ _ _ _ _ m)
    (fun pre W => SI w1.heap.size ⟨cn, A1, c1, cL, A2, c2, cG, A3, c3, cO, A4, c4, cB, A5, c5, cK⟩ ⟨tb, D1, d1, tI, D2, d2, tF⟩ w W (sureF cK (rd cB tb) tF.length vs pre.length))
    (fun id pre W => id = 0 ∧ sureF cK (rd cB tb) tF.length vs pre.length = 0 ∧ W.heap[w1.heap.size]? = some (.cells #[.int .u8 0] 5 (0, 0)) ∧ Below w.heap.size w W) ?own ?ownx ⟨L6.out, L2.out, L3.out, HB2.out⟩
    (fun x => { tmps := #[.agg #[.int .i64 cn, .slice A1 cL.length c1, .slice A2 cG.length c2, .slice A3 cO.length c3, .slice A4 cB.length c4, .slice A5 cK.length c5], .agg #[.int .i64 tb, .slice D1 tI.length d1, .slice D2 tF.length d2], .pointer (some ⟨w.heap.size, 0, none⟩), .pointer (some ⟨w.heap.size + 1, 0, none⟩), .int .u8 0, .int .i64 0, .pointer (some ⟨w1.heap.size, 0, none⟩), .int .i64 x.i, .slice x.A x.l.length x.c, undef, undef, .agg #[.int .i64 cn, .slice A1 cL.length c1, .slice A2 cG.length c2, .slice A3 cO.length c3, .slice A4 cB.length c4, .slice A5 cK.length c5], .agg #[.int .i64 tb, .slice D1 tI.length d1, .slice D2 tF.length d2], .bool true, .bool false, .agg #[.int .i64 cn, .slice A1 cL.length c1, .slice A2 cG.length c2, .slice A3 cO.length c3, .slice A4 cB.length c4, .slice A5 cK.length c5], .agg #[.int .i64 tb, .slice D1 tI.length d1, .slice D2 tF.length d2], .func (.func 112) #[] #[.pointer (some ⟨w1.heap.size + 1 + 1, 0, none⟩), .pointer (some ⟨w1.heap.size + 1, 0, none⟩)], .int .i64 x.i, .slice x.A x.l.length x.c, undef, undef, undef, undef, undef, undef, undef, undef, undef, undef, undef, undef, undef, undef, undef, undef, undef, undef, undef, undef, undef, undef, undef, undef, undef, undef, undef, undef, undef, undef, undef, undef], defers := [] }) ?assign ?body ?done ?stop
  case own =>
    rintro pre W W' row ⟨h1, h2, h3, h4⟩ hg hr
    exact ⟨blk_rest h1 hg (fun r e => (hr r e).2), blk_rest h2 hg (fun r e => (hr r e).2), blk_rest h3 hg (fun r e => (hr r e).2), h4.grown hg h4.size (fun k e => Nat.le_trans HB2.out.size (hr k e).1)⟩
  case ownx =>
    rintro id pre W W' row ⟨h0, hv, h1, h4⟩ hg hr
    exact ⟨h0, hv, blk_rest h1 hg (fun r e => (hr r e).2), h4.grown hg h4.size (fun k e => Nat.le_trans HB2.out.size (hr k e).1)⟩
  case assign =>
    intro l x W K hK
    dsimp only [Fr.encs]
    gi_wp2
    exact hK
  case body =>
    rintro l pre x W0 W ⟨hn, hxi, hxl⟩ ⟨h6, h2, h3, hB⟩ hW hx
    have H0 := Aside0.mk (show SI w1.heap.size ⟨cn, A1, c1, cL, A2, c2, cG, A3, c3, cO, A4, c4, cB, A5, c5, cK⟩ ⟨tb, D1, d1, tI, D2, d2, tF⟩ w W (sureF cK (rd cB tb) tF.length vs pre.length) from ⟨blk_from hW h6, blk_from hW h2, blk_from hW h3, below_step hB hW⟩)
    have HX := Aside0.mk hx
    have HM := Aside0.mk (show w1.heap.size < W0.heap.size from blk_lt h6)
    have HXI := Aside0.mk hxi
    have HXL := Aside0.mk hxl
    have p5 : W.cell? ⟨w.heap.size, 5, none⟩ = some (.slice A5 cK.length c5) := (blk_cell H0.out.2.1 5).trans rfl
    clear h6 h2 h3 hB hW hx hxi hxl
    generalize hV0 : sureF cK (rd cB tb) tF.length vs pre.length = V0 at H0
    have HV0 := Aside0.mk hV0
    clear hV0
    have hkm := Kd.C_max HC.out.r5
    dsimp only at hkm
    gi_wp2_with fail
    gi_loopg [23] cK.length (fun gg s23 wr => ∃ kk : Nat, kk ≤ cK.length ∧ cK.length - kk ≤ gg ∧ s23 = .int .i64 kk ∧ Aside0 (RI w1.heap.size (w1.heap.size + 1) (w1.heap.size + 1 + 1) w2.heap.size ⟨cn, A1, c1, cL, A2, c2, cG, A3, c3, cO, A4, c4, cB, A5, c5, cK⟩ ⟨tb, D1, d1, tI, D2, d2, tF⟩ x W0.heap.size w W wr (((cK.take kk).map (val x.l)).foldl and1 V0)))
    case atStart => exact ⟨0, by omega, by omega, rfl, ⟨H0.out, HX.out, KeepsFrom.refl _ _, Below.refl _ _⟩⟩
    case round =>
      clear p5
      obtain ⟨kk, hkk, hgg, rfl, HI⟩ := hrel
      by_cases hlt : kk < cK.length
      · have hltz : (kk : Int) < (cK.length : Int) := by omega
        obtain ⟨ad, rfl, hk⟩ := Kd.at_int (Kd.C_below HC.out.r5 HI.out.1.2.2.2) (kk : Int) (by omega) (by dsimp only; omega)
        rw [Int.toNat_natCast] at hk
        obtain ⟨v, hv⟩ : ∃ v, ((cK.take kk).map (val x.l)).foldl and1 V0 = v := ⟨_, rfl⟩
        rw [hv] at HI
        have hlit : rd cK (kk : Int) = cK[kk] := by
          unfold rd
          rw [Int.toNat_natCast, List.getD_eq_getElem?_getD, List.getElem?_eq_getElem hlt]
          rfl
        have hu := HK.out _ (List.getElem_mem hlt)
        have hlv : ∀ y ∈ x.l, isV y := by rw [HXL.out]; exact HVS.out _
        have hviv : isV v := by rw [← hv]; exact isV_fold _ (by rw [← HV0.out]; exact isV_sure _ _ _ _ _)
        have hnext : ((cK.take (kk + 1)).map (val x.l)).foldl and1 V0 = and1 v (val x.l (rd cK (kk : Int))) := by
          rw [List.take_succ_eq_append_getElem hlt, List.map_append, List.foldl_append, hv, hlit]
          rfl
        have HNX := Aside0.mk hnext
        have hrx := Kd.R_reads' HI.out.2.1.1
        have HVL := Aside0.mk (fun W' (hd : Drawn0 wr W') => sim_Value.calls 1 x.A x.c x.l (rd cK (kk : Int)) (val x.l (rd cK (kk : Int))) W' (Kd.C_below hrx.2.2 hd.below) hrx.2.1 (by rw [hlit]; exact val_f hlv hu.1 hu.2 0))
        have HAN := Aside0.mk (fun W' (_ : Drawn0 wr W') => tern_And1.calls 1 v (val x.l (rd cK (kk : Int))) (and1 v (val x.l (rd cK (kk : Int)))) W' (and1_f hviv (isV_val hlv _) 0))
        have h6 : wr.cell? ⟨w1.heap.size, 0, none⟩ = some (.int .u8 v) := (blk_cell HI.out.1.1 0).trans rfl
        have f6 : wr.frozen? ⟨w1.heap.size, 0, none⟩ = false := blk_frozen HI.out.1.1 0
        generalize val x.l (rd cK (kk : Int)) = q at HVL HAN HNX
        generalize and1 v q = v' at HAN HNX
        generalize rd cK (kk : Int) = lit at hk HVL
        clear hnext hlit hu hlv hviv hv hrx
        gi_wp2_with fail
        refine region_round (S := fun W' => Drawn0 wr W' ∨ ∃ (Wd : World) (u : Value), Drawn0 wr Wd ∧ W' = Wd.setCell ⟨w1.heap.size, 0, none⟩ u) (by kernel_rfl) (noDefer_of (by kernel_rfl)) (by rintro ⟨_, _, h⟩; exact h) (.inl ⟨⟨1, rfl⟩⟩) (fun hHeld => ?_)
        have hd0 : Drawn0 wr wr.drew := ⟨⟨1, rfl⟩⟩
        refine wpAnyH_take (i := 1) (v := ?_) rfl (by kernel_rfl) (by kernel_rfl) (by kernel_rfl) (fun _ _ _ h => h) (Or.inl ⟨by rfl, ?_⟩) (by assumption) ?_
        rotate_left
        · intro w hSw
          go_simp
          try with_reducible rfl
        simp only [List.getElem_toArray, List.getElem_cons_succ, List.getElem_cons_zero, Act.put, List.setIfInBounds_toArray, List.set_cons_zero, List.set_cons_succ]
        refine wpAnyH_take (i := 2) (v := ?_) rfl (by kernel_rfl) (by kernel_rfl) (by kernel_rfl) (fun _ _ _ h => h) (Or.inl ⟨by rfl, ?_⟩) (by assumption) ?_
        rotate_left
        · intro w hSw
          go_simp
          try with_reducible rfl
        simp only [List.getElem_toArray, List.getElem_cons_succ, List.getElem_cons_zero, Act.put, List.setIfInBounds_toArray, List.set_cons_zero, List.set_cons_succ]
        refine wpAnyH_ready (rs := [0, 3]) (by kernel_rfl) (by simp) ?_
        refine AllReadyH.cons rfl (fun K hK => ?_) (AllReadyH.cons rfl (fun K hK => ?_) AllReadyH.nil)
        · go_simp
          refine hK.out _ _ (.inl hd0) (fun hHeld => ?_)
          clear hK K
          refine wpAnyH_ready (rs := [3]) (by kernel_rfl) (by simp) ?_
          refine AllReadyH.cons rfl (fun K hK => ?_) AllReadyH.nil
          go_simp
          go_at_call 25
          refine (HVL.out _ hd0).mono ?_
          rintro e wa ⟨rfl, hda⟩
          have hd1 := drawn_trans hd0 hda
          clear hda
          go_wp2_with fail
          refine hK.out _ _ (.inl hd1) (fun hHeld => ?_)
          clear hK K
          refine wpAnyH_ready (rs := [4]) (by kernel_rfl) (by simp) ?_
          refine AllReadyH.cons rfl (fun K hK => ?_) AllReadyH.nil
          go_simp
          go_at_call 63
          refine (HAN.out _ (hd1)).mono ?_
          rintro e wb ⟨rfl, hda⟩
          have hd2 := drawn_trans hd1 hda
          clear hda
          go_wp2_with fail
          refine hK.out _ _ (.inl hd2) (fun hHeld => ?_)
          clear hK K
          refine wpAnyH_ready (rs := [5]) (by kernel_rfl) (by simp) ?_
          refine AllReadyH.cons rfl (fun K hK => ?_) AllReadyH.nil
          have h6b : wb.cell? ⟨w1.heap.size, 0, none⟩ = some (.int .u8 v) := by obtain ⟨n, rfl⟩ := hd2.out; exact h6
          have f6b : wb.frozen? ⟨w1.heap.size, 0, none⟩ = false := by obtain ⟨n, rfl⟩ := hd2.out; exact f6
          go_simp
          refine hK.out _ _ (.inr ⟨_, _, hd2, rfl⟩) (fun hHeld => ?_)
          clear hK K
          refine wpAnyH_done (by kernel_rfl) ?_ _
          gi_wp2
          gi_roundg (cK.length - (kk + 1))
          case measure => omega
          case rel => exact ⟨kk + 1, by omega, by omega, (by first | go_num | (congr 1; unfold wrap64; omega)), ⟨by rw [HNX.out]; exact HI.out.store (by have := HL1.out; omega) (by omega) (by omega) HM.out hd2 _⟩⟩
        · go_simp
          go_at_call 25
          refine (HVL.out _ hd0).mono ?_
          rintro e wa ⟨rfl, hda⟩
          have hd1 := drawn_trans hd0 hda
          clear hda
          go_wp2_with fail
          refine hK.out _ _ (.inl hd1) (fun hHeld => ?_)
          clear hK K
          refine wpAnyH_ready (rs := [0]) (by kernel_rfl) (by simp) ?_
          refine AllReadyH.cons rfl (fun K hK => ?_) AllReadyH.nil
          have h6a : wa.cell? ⟨w1.heap.size, 0, none⟩ = some (.int .u8 v) := by obtain ⟨n, rfl⟩ := hd1.out; exact h6
          go_simp
          refine hK.out _ _ (.inl hd1) (fun hHeld => ?_)
          clear hK K
          refine wpAnyH_ready (rs := [4]) (by kernel_rfl) (by simp) ?_
          refine AllReadyH.cons rfl (fun K hK => ?_) AllReadyH.nil
          go_simp
          go_at_call 63
          refine (HAN.out _ (hd1)).mono ?_
          rintro e wb ⟨rfl, hda⟩
          have hd2 := drawn_trans hd1 hda
          clear hda
          go_wp2_with fail
          refine hK.out _ _ (.inl hd2) (fun hHeld => ?_)
          clear hK K
          refine wpAnyH_ready (rs := [5]) (by kernel_rfl) (by simp) ?_
          refine AllReadyH.cons rfl (fun K hK => ?_) AllReadyH.nil
          have h6b : wb.cell? ⟨w1.heap.size, 0, none⟩ = some (.int .u8 v) := by obtain ⟨n, rfl⟩ := hd2.out; exact h6
          have f6b : wb.frozen? ⟨w1.heap.size, 0, none⟩ = false := by obtain ⟨n, rfl⟩ := hd2.out; exact f6
          go_simp
          refine hK.out _ _ (.inr ⟨_, _, hd2, rfl⟩) (fun hHeld => ?_)
          clear hK K
          refine wpAnyH_done (by kernel_rfl) ?_ _
          gi_wp2
          gi_roundg (cK.length - (kk + 1))
          case measure => omega
          case rel => exact ⟨kk + 1, by omega, by omega, (by first | go_num | (congr 1; unfold wrap64; omega)), ⟨by rw [HNX.out]; exact HI.out.store (by have := HL1.out; omega) (by omega) (by omega) HM.out hd2 _⟩⟩
      · obtain rfl : kk = cK.length := by omega
        have hltz : ¬ ((cK.length : Nat) : Int) < ((cK.length : Nat) : Int) := by omega
        rw [List.take_length] at HI
        have q2 : wr.cell? ⟨w.heap.size + 1, 2, none⟩ = some (.slice D2 tF.length d2) := (blk_cell HI.out.1.2.2.1 2).trans rfl
        have hw1 : IntKind.i64.wrap ((tF.length : Int) - 1) = (tF.length : Int) - 1 := by rw [i64_w]; unfold wrap64; omega
        have hlv : ∀ y ∈ x.l, isV y := by rw [HXL.out]; exact HVS.out _
        have hviv : isV ((cK.map (val x.l)).foldl and1 V0) := by exact isV_fold _ (by rw [← HV0.out]; exact isV_sure _ _ _ _ _)
        by_cases hlast : pre.length + 1 = tF.length
        · have hx1 : ((x.i : Int) == (tF.length : Int) - 1) = true := by rw [HXI.out]; simp; omega
          have hsu : sureF cK (rd cB tb) tF.length vs (pre.length + 1) = and1 ((cK.map (val x.l)).foldl and1 V0) (val x.l (rd cB tb)) := by
            unfold sureF stepF
            rw [if_pos hlast, HV0.out, HXL.out]
          have HSU := Aside0.mk hsu
          clear hsu
          have hrx := Kd.R_reads' HI.out.2.1.1
          have HVL := Aside0.mk (fun W' (hd : Drawn0 wr W') => sim_Value.calls 1 x.A x.c x.l (rd cB tb) (val x.l (rd cB tb)) W' (Kd.C_below hrx.2.2 hd.below) hrx.2.1 (val_f hlv HB.out.1 HB.out.2 0))
          have HAN := Aside0.mk (fun W' (_ : Drawn0 wr W') => tern_And1.calls 1 _ (val x.l (rd cB tb)) _ W' (and1_f hviv (isV_val hlv (rd cB tb)) 0))
          obtain ⟨ad, rfl, hk0⟩ := Kd.at_int HC.out.r4 tb hbad.1 hbad.2
          have hk := (HI.out.1.2.2.2.cell (World.block_lt_of_cell? w _ hk0)).trans hk0
          have hbl : (ad.add tb.toNat).block < w.heap.size := World.block_lt_of_cell? w _ hk0
          clear hk0
          generalize val x.l (rd cB tb) = q at HVL HAN HSU
          generalize (cK.map (val x.l)).foldl and1 V0 = v at HAN HSU HI
          generalize and1 v q = v' at HAN HSU
          generalize rd cB tb = lit at hk HVL
          have h6 : wr.cell? ⟨w1.heap.size, 0, none⟩ = some (.int .u8 v) := (blk_cell HI.out.1.1 0).trans rfl
          have f6 : wr.frozen? ⟨w1.heap.size, 0, none⟩ = false := blk_frozen HI.out.1.1 0
          have b4 : wr.cell? ⟨w.heap.size, 4, none⟩ = some (.slice (some ad) cB.length c4) := (blk_cell HI.out.1.2.1 4).trans rfl
          have b0 : wr.cell? ⟨w.heap.size + 1, 0, none⟩ = some (.int .i64 tb) := (blk_cell HI.out.1.2.2.1 0).trans rfl
          have hcl : ∀ W', Drawn0 wr W' → W'.cell? ⟨w.heap.size, 4, none⟩ = some (.slice (some ad) cB.length c4) ∧ W'.cell? ⟨w.heap.size + 1, 0, none⟩ = some (.int .i64 tb) ∧ W'.cell? (ad.add tb.toNat) = some (.int .u32 lit) := fun W' hd => by
            obtain ⟨n, rfl⟩ := hd.out
            exact ⟨b4, b0, hk⟩
          have hcs : ∀ (W' : World) (u : Value), Drawn0 wr W' → (W'.setCell ⟨w1.heap.size, 0, none⟩ u).cell? ⟨w.heap.size, 4, none⟩ = some (.slice (some ad) cB.length c4) ∧ (W'.setCell ⟨w1.heap.size, 0, none⟩ u).cell? ⟨w.heap.size + 1, 0, none⟩ = some (.int .i64 tb) ∧ (W'.setCell ⟨w1.heap.size, 0, none⟩ u).cell? (ad.add tb.toNat) = some (.int .u32 lit) := fun W' u hd => by
            have h := hcl W' hd
            have hl1 := HL1.out
            have hne : (ad.add tb.toNat).block ≠ w1.heap.size := by omega
            exact ⟨(World.cell?_of_block (Below.heap_setCell _ _ _ _ (by simp; omega))).trans h.1, (World.cell?_of_block (Below.heap_setCell _ _ _ _ (by simp; omega))).trans h.2.1, (World.cell?_of_block (Below.heap_setCell _ _ _ _ hne)).trans h.2.2⟩
          have HCL := Aside0.mk hcl
          have HCS := Aside0.mk hcs
          clear hcl hcs hlv hviv hrx hbl
          gi_wp2_with fail
          refine region_round (S := fun W' => (W'.cell? ⟨w.heap.size, 4, none⟩ = some (.slice (some ad) cB.length c4) ∧ W'.cell? ⟨w.heap.size + 1, 0, none⟩ = some (.int .i64 tb) ∧ W'.cell? (ad.add tb.toNat) = some (.int .u32 lit)) ∧ (Drawn0 wr W' ∨ ∃ (Wd : World) (u : Value), Drawn0 wr Wd ∧ W' = Wd.setCell ⟨w1.heap.size, 0, none⟩ u)) (by kernel_rfl) (noDefer_of (by kernel_rfl)) (by rintro ⟨_, _, h⟩; exact h) ⟨HCL.out _ ⟨⟨1, rfl⟩⟩, .inl ⟨⟨1, rfl⟩⟩⟩ (fun hHeld => ?_)
          have hd0 : Drawn0 wr wr.drew := ⟨⟨1, rfl⟩⟩
          refine wpAnyH_take (i := 1) (v := ?_) rfl (by kernel_rfl) (by kernel_rfl) (by kernel_rfl) (fun _ _ _ h => h) (Or.inl ⟨by rfl, ?_⟩) (by assumption) ?_
          rotate_left
          · intro w hSw
            go_simp
            try with_reducible rfl
          simp only [List.getElem_toArray, List.getElem_cons_succ, List.getElem_cons_zero, Act.put, List.setIfInBounds_toArray, List.set_cons_zero, List.set_cons_succ]
          refine wpAnyH_take (i := 2) (v := ?_) rfl (by kernel_rfl) (by kernel_rfl) (by kernel_rfl) (fun _ _ _ h => h) (Or.inl ⟨by rfl, ?_⟩) (by assumption) ?_
          rotate_left
          · intro w hSw
            go_simp
            try with_reducible rfl
          simp only [List.getElem_toArray, List.getElem_cons_succ, List.getElem_cons_zero, Act.put, List.setIfInBounds_toArray, List.set_cons_zero, List.set_cons_succ]
          refine wpAnyH_take (i := 3) (v := ?_) rfl (by kernel_rfl) (by kernel_rfl) (by kernel_rfl) (fun _ _ _ h => h) (Or.inl ⟨by rfl, ?_⟩) (by assumption) ?_
          rotate_left
          · intro w hSw
            go_simp
            try with_reducible rfl
          simp only [List.getElem_toArray, List.getElem_cons_succ, List.getElem_cons_zero, Act.put, List.setIfInBounds_toArray, List.set_cons_zero, List.set_cons_succ]
          refine wpAnyH_take (i := 4) (v := ?_) rfl (by kernel_rfl) (by kernel_rfl) (by kernel_rfl) (fun _ _ _ h => h) (Or.inl ⟨by rfl, ?_⟩) (by assumption) ?_
          rotate_left
          · intro w hSw
            go_simp
            try with_reducible rfl
          simp only [List.getElem_toArray, List.getElem_cons_succ, List.getElem_cons_zero, Act.put, List.setIfInBounds_toArray, List.set_cons_zero, List.set_cons_succ]
          refine wpAnyH_take (i := 5) (v := ?_) rfl (by kernel_rfl) (by kernel_rfl) (by kernel_rfl) (fun _ _ _ h => h) (Or.inl ⟨by rfl, ?_⟩) (by assumption) ?_
          rotate_left
          · intro w hSw
            go_simp
            try with_reducible rfl
          simp only [List.getElem_toArray, List.getElem_cons_succ, List.getElem_cons_zero, Act.put, List.setIfInBounds_toArray, List.set_cons_zero, List.set_cons_succ]
          refine wpAnyH_take (i := 6) (v := ?_) rfl (by kernel_rfl) (by kernel_rfl) (by kernel_rfl) (fun _ _ _ h => h) (Or.inl ⟨by rfl, ?_⟩) (by assumption) ?_
          rotate_left
          · intro w hSw
            go_simp
            try with_reducible rfl
          simp only [List.getElem_toArray, List.getElem_cons_succ, List.getElem_cons_zero, Act.put, List.setIfInBounds_toArray, List.set_cons_zero, List.set_cons_succ]
          refine wpAnyH_take (i := 7) (v := ?_) rfl (by kernel_rfl) (by kernel_rfl) (by kernel_rfl) (fun _ _ _ h => h) (Or.inl ⟨by rfl, ?_⟩) (by assumption) ?_
          rotate_left
          · intro w hSw
            go_simp
            try with_reducible rfl
          simp only [List.getElem_toArray, List.getElem_cons_succ, List.getElem_cons_zero, Act.put, List.setIfInBounds_toArray, List.set_cons_zero, List.set_cons_succ]
          refine wpAnyH_ready (rs := [0, 8]) (by kernel_rfl) (by simp) ?_
          refine AllReadyH.cons rfl (fun K hK => ?_) (AllReadyH.cons rfl (fun K hK => ?_) AllReadyH.nil)
          · go_simp
            refine hK.out _ _ ⟨HCL.out _ hd0, .inl hd0⟩ (fun hHeld => ?_)
            clear hK K
            refine wpAnyH_ready (rs := [8]) (by kernel_rfl) (by simp) ?_
            refine AllReadyH.cons rfl (fun K hK => ?_) AllReadyH.nil
            go_simp
            go_at_call 25
            refine (HVL.out _ hd0).mono ?_
            rintro e wa ⟨rfl, hda⟩
            have hd1 := drawn_trans hd0 hda
            clear hda
            go_wp2_with fail
            refine hK.out _ _ ⟨HCL.out _ hd1, .inl hd1⟩ (fun hHeld => ?_)
            clear hK K
            refine wpAnyH_ready (rs := [9]) (by kernel_rfl) (by simp) ?_
            refine AllReadyH.cons rfl (fun K hK => ?_) AllReadyH.nil
            go_simp
            go_at_call 63
            refine (HAN.out _ (hd1)).mono ?_
            rintro e wb ⟨rfl, hda⟩
            have hd2 := drawn_trans hd1 hda
            clear hda
            go_wp2_with fail
            refine hK.out _ _ ⟨HCL.out _ hd2, .inl hd2⟩ (fun hHeld => ?_)
            clear hK K
            refine wpAnyH_ready (rs := [10]) (by kernel_rfl) (by simp) ?_
            refine AllReadyH.cons rfl (fun K hK => ?_) AllReadyH.nil
            have h6b : wb.cell? ⟨w1.heap.size, 0, none⟩ = some (.int .u8 v) := by obtain ⟨n, rfl⟩ := hd2.out; exact h6
            have f6b : wb.frozen? ⟨w1.heap.size, 0, none⟩ = false := by obtain ⟨n, rfl⟩ := hd2.out; exact f6
            go_simp
            refine hK.out _ _ ⟨HCS.out _ _ hd2, .inr ⟨_, _, hd2, rfl⟩⟩ (fun hHeld => ?_)
            clear hK K
            refine wpAnyH_done (by kernel_rfl) ?_ _
            have HI2 := Aside0.mk (HI.out.store (by have := HL1.out; omega) (by omega) (by omega) HM.out hd2 v')
            generalize wb.setCell ⟨w1.heap.size, 0, none⟩ (.int .u8 v') = wz at HI2 ⊢
            have z6 : wz.cell? ⟨w1.heap.size, 0, none⟩ = some (.int .u8 v') := (blk_cell HI2.out.1.1 0).trans rfl
            have hpl : (pre ++ [x]).length = pre.length + 1 := by simp
            by_cases hz : v' = 0
            · have hzb : (v' == 0) = true := by simp [hz]
              gi_wp2_with fail
              refine ⟨HI2.out.2.2.1, rfl, by rw [hpl, HSU.out, hz], ?_, HI2.out.1.2.2.2⟩
              have h := HI2.out.1.1
              rwa [hz] at h
            · have hzb : (v' == 0) = false := by simp [hz]
              gi_wp2_with fail
              exact ⟨HI2.out.2.2.1, HI2.out.2.2.2, HI2.out.2.1, by show SI _ _ _ _ _ (sureF _ _ _ _ (pre ++ [x]).length); rw [hpl, HSU.out]; exact HI2.out.1⟩
          · go_simp
            go_at_call 25
            refine (HVL.out _ hd0).mono ?_
            rintro e wa ⟨rfl, hda⟩
            have hd1 := drawn_trans hd0 hda
            clear hda
            go_wp2_with fail
            refine hK.out _ _ ⟨HCL.out _ hd1, .inl hd1⟩ (fun hHeld => ?_)
            clear hK K
            refine wpAnyH_ready (rs := [0]) (by kernel_rfl) (by simp) ?_
            refine AllReadyH.cons rfl (fun K hK => ?_) AllReadyH.nil
            have h6a : wa.cell? ⟨w1.heap.size, 0, none⟩ = some (.int .u8 v) := by obtain ⟨n, rfl⟩ := hd1.out; exact h6
            go_simp
            refine hK.out _ _ ⟨HCL.out _ hd1, .inl hd1⟩ (fun hHeld => ?_)
            clear hK K
            refine wpAnyH_ready (rs := [9]) (by kernel_rfl) (by simp) ?_
            refine AllReadyH.cons rfl (fun K hK => ?_) AllReadyH.nil
            go_simp
            go_at_call 63
            refine (HAN.out _ (hd1)).mono ?_
            rintro e wb ⟨rfl, hda⟩
            have hd2 := drawn_trans hd1 hda
            clear hda
            go_wp2_with fail
            refine hK.out _ _ ⟨HCL.out _ hd2, .inl hd2⟩ (fun hHeld => ?_)
            clear hK K
            refine wpAnyH_ready (rs := [10]) (by kernel_rfl) (by simp) ?_
            refine AllReadyH.cons rfl (fun K hK => ?_) AllReadyH.nil
            have h6b : wb.cell? ⟨w1.heap.size, 0, none⟩ = some (.int .u8 v) := by obtain ⟨n, rfl⟩ := hd2.out; exact h6
            have f6b : wb.frozen? ⟨w1.heap.size, 0, none⟩ = false := by obtain ⟨n, rfl⟩ := hd2.out; exact f6
            go_simp
            refine hK.out _ _ ⟨HCS.out _ _ hd2, .inr ⟨_, _, hd2, rfl⟩⟩ (fun hHeld => ?_)
            clear hK K
            refine wpAnyH_done (by kernel_rfl) ?_ _
            have HI2 := Aside0.mk (HI.out.store (by have := HL1.out; omega) (by omega) (by omega) HM.out hd2 v')
            generalize wb.setCell ⟨w1.heap.size, 0, none⟩ (.int .u8 v') = wz at HI2 ⊢
            have z6 : wz.cell? ⟨w1.heap.size, 0, none⟩ = some (.int .u8 v') := (blk_cell HI2.out.1.1 0).trans rfl
            have hpl : (pre ++ [x]).length = pre.length + 1 := by simp
            by_cases hz : v' = 0
            · have hzb : (v' == 0) = true := by simp [hz]
              gi_wp2_with fail
              refine ⟨HI2.out.2.2.1, rfl, by rw [hpl, HSU.out, hz], ?_, HI2.out.1.2.2.2⟩
              have h := HI2.out.1.1
              rwa [hz] at h
            · have hzb : (v' == 0) = false := by simp [hz]
              gi_wp2_with fail
              exact ⟨HI2.out.2.2.1, HI2.out.2.2.2, HI2.out.2.1, by show SI _ _ _ _ _ (sureF _ _ _ _ (pre ++ [x]).length); rw [hpl, HSU.out]; exact HI2.out.1⟩
        · have hx1 : ((x.i : Int) == (tF.length : Int) - 1) = false := by rw [HXI.out]; simp; omega
          have hsu : sureF cK (rd cB tb) tF.length vs (pre.length + 1) = (cK.map (val x.l)).foldl and1 V0 := by
            unfold sureF stepF
            rw [if_neg hlast, HV0.out, HXL.out]
          have HSU := Aside0.mk hsu
          clear hsu hlv hviv
          generalize (cK.map (val x.l)).foldl and1 V0 = v at HSU HI
          obtain ⟨wz, hwz⟩ : ∃ wz : World, wz = wr := ⟨_, rfl⟩
          subst hwz
          have z6 : wz.cell? ⟨w1.heap.size, 0, none⟩ = some (.int .u8 v) := (blk_cell HI.out.1.1 0).trans rfl
          have hpl : (pre ++ [x]).length = pre.length + 1 := by simp
          by_cases hz : v = 0
          · have hzb : (v == 0) = true := by simp [hz]
            gi_wp2_with fail
            refine ⟨HI.out.2.2.1, rfl, by rw [hpl, HSU.out, hz], ?_, HI.out.1.2.2.2⟩
            have h := HI.out.1.1
            rwa [hz] at h
          · have hzb : (v == 0) = false := by simp [hz]
            gi_wp2_with fail
            exact ⟨HI.out.2.2.1, HI.out.2.2.2, HI.out.2.1, by show SI _ _ _ _ _ (sureF _ _ _ _ (pre ++ [x]).length); rw [hpl, HSU.out]; exact HI.out.1⟩
  case done =>
    rintro D xs W hD ⟨hxl, _⟩ ⟨h6, _, _, hB⟩ hK
    have hxl2 : xs.length = tF.length := hxl
    rw [hxl2] at h6
    have hc6 : W.cell? ⟨w1.heap.size, 0, none⟩ = some (.int .u8 (sureF cK (rd cB tb) tF.length vs tF.length)) := (blk_cell h6 0).trans rfl
    have HBW := Aside0.mk hB
    have HK := Aside0.mk hK
    have HD := Aside0.mk hD
    clear hB hK hD hxl hxl2 h6
    gi_wp2
    refine ⟨by simp, .inl ⟨_, _, rfl, run_takeDeferred HK.out, ?_⟩⟩
    refine ⟨.tuple #[.int .u8 (sureF cK (rd cB tb) tF.length vs tF.length), .int .i64 0], by simp [results, Tryd.results15, go_sem], rfl, ?_⟩
    exact HBW.out.trans (belowK_b (w := w) (Nat.le_refl _) _ D _ _ (by have := HD.out; have := HB2.out.size; omega) HK.out rfl rfl)
  case stop =>
    rintro D id pre W hD ⟨hpl, _⟩ ⟨rfl, hv, h6, hB⟩ hK
    have hz := sureF_zero cK (rd cB tb) tF.length vs hv (show pre.length ≤ tF.length from hpl)
    have hc6 : W.cell? ⟨w1.heap.size, 0, none⟩ = some (.int .u8 0) := (blk_cell h6 0).trans rfl
    have HBW := Aside0.mk hB
    have HK := Aside0.mk hK
    have HD := Aside0.mk hD
    have HZ := Aside0.mk hz
    clear hB hK hD h6 hv hpl hz
    gi_wp2
    refine ⟨by simp, .inl ⟨_, _, rfl, run_takeDeferred HK.out, ?_⟩⟩
    refine ⟨.tuple #[.int .u8 0, .int .i64 0], by simp [results, Tryd.results15, go_sem], by rw [HZ.out], ?_⟩
    exact HBW.out.trans (belowK_b (w := w) (Nat.le_refl _) _ D _ _ (by have := HD.out; have := HB2.out.size; omega) HK.out rfl rfl)
end Go.Proofs.YthpnooookkpkaaaDoor.F
namespace Go.Proofs.YthpnooookkpkaaaDoor.F
open Go.RowKit Go.Proofs.YthpnooookkpkaaaDoorW.PrintWords Go.Proofs.YthpnooookkpkaaaDoorW.PrintLast Go.Proofs.YthpnooookkpkaaaDoorW.PrintMore

def u8B (l : List Int) : Bool := l.all fun x => decide (0 ≤ x) && decide (x < 256)
def twB (I : List Int) (F : List (List Int)) : Bool := u8B I && F.all u8B
theorem u8B_iff {l : List Int} (h : u8B l = true) : ∀ x ∈ l, 0 ≤ x ∧ x < 256 := by
  unfold u8B at h
  simpa only [List.all_eq_true, Bool.and_eq_true, decide_eq_true_iff] using h
theorem isV_of {l : List Int} {n : Int} (h : u8B l = true) (hv : valsB l n = true) : (l.length : Int) = n ∧ ∀ x ∈ l, isV x := by
  unfold valsB at hv
  simp only [Bool.and_eq_true, decide_eq_true_iff, List.all_eq_true] at hv
  refine ⟨hv.1, fun x hx => ?_⟩
  have h1 := u8B_iff h x hx
  have h2 := hv.2 x hx
  unfold isV
  omega
theorem fitsB_iff {c : Circ} {t : Trc} (h : fitsB c t = true) : mayB c = true ∧ 0 ≤ t.bad ∧ t.bad < c.B.length ∧ t.F.length ≠ 0 ∧ t.F.length ≤ 256 ∧ valsB t.I c.L.length = true ∧ ∀ l ∈ t.F, valsB l c.n = true := by
  unfold fitsB at h
  simp only [Bool.and_eq_true, decide_eq_true_iff, List.all_eq_true] at h
  obtain ⟨⟨⟨⟨⟨⟨⟨h1, h2⟩, h3⟩, h4⟩, h5⟩, h6⟩, _⟩, h8⟩ := h
  exact ⟨h1, h2, h3, h4, h5, h6, h8⟩
theorem mayB_iff {c : Circ} (h : mayB c = true) : 0 ≤ c.n ∧ c.n ≤ 16384 ∧ c.n + c.L.length + c.G.length ≤ 16384 ∧ (∀ x ∈ c.B, x / 2 ≤ c.vars) ∧ (∀ x ∈ c.K, x / 2 ≤ c.vars) ∧ (∀ x ∈ c.L, x.f0 / 2 ≤ c.vars) ∧
    ∀ i < c.G.length, (rd_T84 c.G i).f0 / 2 < c.n + c.L.length + 1 + i ∧ (rd_T84 c.G i).f1 ≤ (rd_T84 c.G i).f0 := by
  unfold mayB litsOK at h
  simp only [Bool.and_eq_true, decide_eq_true_iff, List.all_eq_true, List.mem_range] at h
  obtain ⟨⟨⟨⟨⟨⟨⟨h1, h2⟩, h3⟩, _⟩, h5⟩, h6⟩, h7⟩, h8⟩ := h
  exact ⟨h1, h2, h3, h5.2, h6.2, fun x hx => (h7 x hx).2, h8⟩
theorem Fit.of {c : Circ} {t : Trc} (hwf : c.wf) (hu : twB t.I t.F = true) (h : fitsB c t = true) : Fit c t := by
  obtain ⟨h1, h2, h3, h4, h5, h6, h7⟩ := fitsB_iff h
  obtain ⟨m1, m2, m3, _⟩ := mayB_iff h1
  unfold twB at hu
  simp only [Bool.and_eq_true, List.all_eq_true] at hu
  have hi := isV_of hu.1 h6
  exact ⟨fun g hg => ⟨⟨(hwf.gates g hg).1, (hwf.gates g hg).2.1⟩, ⟨(hwf.gates g hg).2.2.1, (hwf.gates g hg).2.2.2⟩⟩, fun x hx => ⟨(hwf.lats x hx).1, (hwf.lats x hx).2.1⟩, ⟨m2, by omega⟩, h5, by have := hi.1; omega, hi.2,
    fun l hl => (isV_of (hu.2 l hl) (h7 l hl)).1, fun l hl => (isV_of (hu.2 l hl) (h7 l hl)).2⟩
theorem Fit.vs {c : Circ} {t : Trc} (h : Fit c t) (n : Nat) : ∀ x ∈ vsF c.L c.G t.F t.I n, isV x := isV_frame (isV_st h.inputsV h.initV n) (isV_getD h.inputsV n)
def sureL (K : List Int) (bad : Int) : Int → List (List Int) → Int
  | v, [] => v
  | v, [x] => and1 ((K.map (val x)).foldl and1 v) (val x bad)
  | v, x :: xs => sureL K bad ((K.map (val x)).foldl and1 v) xs
theorem sureL_fold (K : List Int) (bad : Int) : ∀ (l : List (List Int)) (v : Int), sureL K bad v l = (askedF K bad l).foldl and1 v := by
  intro l
  induction l with
  | nil => intro v; rfl
  | cons x l ih =>
    intro v
    cases l with
    | nil => simp [sureL, askedF, List.foldl_append]
    | cons y l =>
      show sureL K bad ((K.map (val x)).foldl and1 v) (y :: l) = (K.map (val x) ++ askedF K bad (y :: l)).foldl and1 v
      rw [ih, List.foldl_append]
theorem sureF_L (K : List Int) (bad : Int) (total : Nat) (vs : Nat → List Int) : ∀ m n : Nat, n + m = total → sureF K bad total vs total = sureL K bad (sureF K bad total vs n) ((List.range' n m).map vs) := by
  intro m
  induction m with
  | zero => intro n hn; obtain rfl : n = total := by omega
            rfl
  | succ m ih =>
    intro n hn
    rw [ih (n + 1) (by omega), List.range'_succ, List.map_cons]
    cases m with
    | zero =>
      show stepF K bad total vs (sureF K bad total vs n) n = and1 _ _
      unfold stepF
      rw [if_pos (by omega)]
    | succ m =>
      rw [List.range'_succ, List.map_cons]
      show sureL K bad (stepF K bad total vs (sureF K bad total vs n) n) _ = sureL K bad ((K.map (val (vs n))).foldl and1 (sureF K bad total vs n)) _
      unfold stepF
      rw [if_neg (by omega)]
theorem sure_eq (L : List S71) (G : List S84) (K : List Int) (bad : Int) (I : List Int) (F : List (List Int)) : sureF K bad F.length (vsF L G F I) F.length = surelyF L G K bad I F := by
  rw [sureF_L K bad F.length (vsF L G F I) F.length 0 (by omega), ← List.range_eq_range', framesF_map, sureL_fold]
  rfl
def sim_Run.f (a0_0 : Int) (l0_1 : List (S71)) (l0_2 : List (S84)) (l0_3 : List Int) (l0_4 : List Int) (l0_5 : List Int) (a1_0 : Int) (l1_1 : List Int) (l1_2 : List (List Int)) : Option ((List (List Int)) × Int) :=
  if (wfB a0_0 l0_1 l0_2 l0_3 l0_4 l0_5 && twB l1_1 l1_2) = true then (if fitsB (pc a0_0 l0_1 l0_2 l0_3 l0_4 l0_5) (pt a1_0 l1_1 l1_2) = true then some (framesF l0_1 l0_2 l1_1 l1_2, 0) else some ([], 2)) else none
theorem sim_Run.calls (a0_0 : Int) (A0_1 : Option Addr) (c0_1 : Nat) (l0_1 : List (S71)) (A0_2 : Option Addr) (c0_2 : Nat) (l0_2 : List (S84)) (A0_3 : Option Addr) (c0_3 : Nat) (l0_3 : List Int) (A0_4 : Option Addr) (c0_4 : Nat) (l0_4 : List Int) (A0_5 : Option Addr) (c0_5 : Nat) (l0_5 : List Int) (a1_0 : Int) (A1_1 : Option Addr) (c1_1 : Nat) (l1_1 : List Int) (A1_2 : Option Addr) (c1_2 : Nat) (l1_2 : List (List Int)) (r1 : List (List Int)) (r2 : Int) (w : World) (hr0_1 : Kd.C k71 w A0_1 l0_1.length l0_1) (hc0_1 : l0_1.length ≤ c0_1) (hr0_2 : Kd.C k84 w A0_2 l0_2.length l0_2) (hc0_2 : l0_2.length ≤ c0_2) (hr0_3 : Kd.C (Kd.int .u32) w A0_3 l0_3.length l0_3) (hc0_3 : l0_3.length ≤ c0_3) (hr0_4 : Kd.C (Kd.int .u32) w A0_4 l0_4.length l0_4) (hc0_4 : l0_4.length ≤ c0_4) (hr0_5 : Kd.C (Kd.int .u32) w A0_5 l0_5.length l0_5) (hc0_5 : l0_5.length ≤ c0_5) (hr1_1 : Kd.C (Kd.int .u8) w A1_1 l1_1.length l1_1) (hc1_1 : l1_1.length ≤ c1_1) (hr1_2 : Kd.C (Kd.slice 5 (Kd.int .u8)) w A1_2 l1_2.length l1_2) (hc1_2 : l1_2.length ≤ c1_2) (h : sim_Run.f a0_0 l0_1 l0_2 l0_3 l0_4 l0_5 a1_0 l1_1 l1_2 = some (r1, r2)) :
    Calls Tryd.prog 19 #[.agg #[.int .i64 a0_0, .slice A0_1 l0_1.length c0_1, .slice A0_2 l0_2.length c0_2, .slice A0_3 l0_3.length c0_3, .slice A0_4 l0_4.length c0_4, .slice A0_5 l0_5.length c0_5], .agg #[.int .i64 a1_0, .slice A1_1 l1_1.length c1_1, .slice A1_2 l1_2.length c1_2]] w fun e w' => ∃ v0_ : Value, e = .returned (.tuple #[v0_, .int .i64 r2]) ∧ Kd.S (Kd.slice 5 (Kd.int .u8)) 27 w' w.heap.size (fun _ => True) v0_ r1 ∧ Below w.heap.size w w' := by
  unfold sim_Run.f at h
  split at h
  · rename_i hw
    rw [Bool.and_eq_true] at hw
    have hwf : Circ.wf ⟨a0_0, A0_1, c0_1, l0_1, A0_2, c0_2, l0_2, A0_3, c0_3, l0_3, A0_4, c0_4, l0_4, A0_5, c0_5, l0_5⟩ := wf_of_wfB hw.1
    have hok : Circ.ok ⟨a0_0, A0_1, c0_1, l0_1, A0_2, c0_2, l0_2, A0_3, c0_3, l0_3, A0_4, c0_4, l0_4, A0_5, c0_5, l0_5⟩ w := ⟨hr0_1, hc0_1, hr0_2, hc0_2, hr0_3, hc0_3, hr0_4, hc0_4, hr0_5, hc0_5⟩
    have htk : Trc.ok ⟨a1_0, A1_1, c1_1, l1_1, A1_2, c1_2, l1_2⟩ w := ⟨hr1_1, hc1_1, hr1_2, hc1_2⟩
    split at h
    · rename_i hf
      have hF : Fit ⟨a0_0, A0_1, c0_1, l0_1, A0_2, c0_2, l0_2, A0_3, c0_3, l0_3, A0_4, c0_4, l0_4, A0_5, c0_5, l0_5⟩ ⟨a1_0, A1_1, c1_1, l1_1, A1_2, c1_2, l1_2⟩ := Fit.of hwf hw.2 hf
      have hh := Option.some.inj h
      rw [Prod.mk.injEq] at hh
      obtain ⟨rfl, rfl⟩ := hh
      have hr := Run_fit _ _ w hwf hok htk hf hF.frames _ _ hF.runs
      dsimp only at hr
      rw [framesF_map] at hr
      exact hr
    · rename_i hf
      have hh := Option.some.inj h
      rw [Prod.mk.injEq] at hh
      obtain ⟨rfl, rfl⟩ := hh
      exact (Run_unfit _ _ w hwf hok htk (Bool.eq_false_iff.2 hf)).mono fun e w' he => ⟨_, he.1, Kd.S_nil _ _ _ _ _, he.2⟩
  · cases h
def sim_Surely.f (a0_0 : Int) (l0_1 : List (S71)) (l0_2 : List (S84)) (l0_3 : List Int) (l0_4 : List Int) (l0_5 : List Int) (a1_0 : Int) (l1_1 : List Int) (l1_2 : List (List Int)) : Option (Int × Int) :=
  if (wfB a0_0 l0_1 l0_2 l0_3 l0_4 l0_5 && twB l1_1 l1_2) = true then (if fitsB (pc a0_0 l0_1 l0_2 l0_3 l0_4 l0_5) (pt a1_0 l1_1 l1_2) = true then some (surelyF l0_1 l0_2 l0_5 (rd l0_4 a1_0) l1_1 l1_2, 0) else some (0, 2)) else none
theorem sim_Surely.calls (a0_0 : Int) (A0_1 : Option Addr) (c0_1 : Nat) (l0_1 : List (S71)) (A0_2 : Option Addr) (c0_2 : Nat) (l0_2 : List (S84)) (A0_3 : Option Addr) (c0_3 : Nat) (l0_3 : List Int) (A0_4 : Option Addr) (c0_4 : Nat) (l0_4 : List Int) (A0_5 : Option Addr) (c0_5 : Nat) (l0_5 : List Int) (a1_0 : Int) (A1_1 : Option Addr) (c1_1 : Nat) (l1_1 : List Int) (A1_2 : Option Addr) (c1_2 : Nat) (l1_2 : List (List Int)) (r1 : Int) (r2 : Int) (w : World) (hr0_1 : Kd.C k71 w A0_1 l0_1.length l0_1) (hc0_1 : l0_1.length ≤ c0_1) (hr0_2 : Kd.C k84 w A0_2 l0_2.length l0_2) (hc0_2 : l0_2.length ≤ c0_2) (hr0_3 : Kd.C (Kd.int .u32) w A0_3 l0_3.length l0_3) (hc0_3 : l0_3.length ≤ c0_3) (hr0_4 : Kd.C (Kd.int .u32) w A0_4 l0_4.length l0_4) (hc0_4 : l0_4.length ≤ c0_4) (hr0_5 : Kd.C (Kd.int .u32) w A0_5 l0_5.length l0_5) (hc0_5 : l0_5.length ≤ c0_5) (hr1_1 : Kd.C (Kd.int .u8) w A1_1 l1_1.length l1_1) (hc1_1 : l1_1.length ≤ c1_1) (hr1_2 : Kd.C (Kd.slice 5 (Kd.int .u8)) w A1_2 l1_2.length l1_2) (hc1_2 : l1_2.length ≤ c1_2) (h : sim_Surely.f a0_0 l0_1 l0_2 l0_3 l0_4 l0_5 a1_0 l1_1 l1_2 = some (r1, r2)) :
    Calls Tryd.prog 15 #[.agg #[.int .i64 a0_0, .slice A0_1 l0_1.length c0_1, .slice A0_2 l0_2.length c0_2, .slice A0_3 l0_3.length c0_3, .slice A0_4 l0_4.length c0_4, .slice A0_5 l0_5.length c0_5], .agg #[.int .i64 a1_0, .slice A1_1 l1_1.length c1_1, .slice A1_2 l1_2.length c1_2]] w fun e w' => e = .returned (.tuple #[.int .u8 r1, .int .i64 r2]) ∧ Below w.heap.size w w' := by
  unfold sim_Surely.f at h
  split at h
  · rename_i hw
    rw [Bool.and_eq_true] at hw
    have hwf : Circ.wf ⟨a0_0, A0_1, c0_1, l0_1, A0_2, c0_2, l0_2, A0_3, c0_3, l0_3, A0_4, c0_4, l0_4, A0_5, c0_5, l0_5⟩ := wf_of_wfB hw.1
    have hok : Circ.ok ⟨a0_0, A0_1, c0_1, l0_1, A0_2, c0_2, l0_2, A0_3, c0_3, l0_3, A0_4, c0_4, l0_4, A0_5, c0_5, l0_5⟩ w := ⟨hr0_1, hc0_1, hr0_2, hc0_2, hr0_3, hc0_3, hr0_4, hc0_4, hr0_5, hc0_5⟩
    have htk : Trc.ok ⟨a1_0, A1_1, c1_1, l1_1, A1_2, c1_2, l1_2⟩ w := ⟨hr1_1, hc1_1, hr1_2, hc1_2⟩
    split at h
    · rename_i hf
      have hF : Fit ⟨a0_0, A0_1, c0_1, l0_1, A0_2, c0_2, l0_2, A0_3, c0_3, l0_3, A0_4, c0_4, l0_4, A0_5, c0_5, l0_5⟩ ⟨a1_0, A1_1, c1_1, l1_1, A1_2, c1_2, l1_2⟩ := Fit.of hwf hw.2 hf
      have hh := Option.some.inj h
      rw [Prod.mk.injEq] at hh
      obtain ⟨rfl, rfl⟩ := hh
      obtain ⟨_, b0, b1, _⟩ := fitsB_iff hf
      have hbl : u32 (rd l0_4 a1_0) := by
        have h1 : a1_0.toNat < l0_4.length := by have : (0 : Int) ≤ a1_0 := b0; have : a1_0 < (l0_4.length : Int) := b1; omega
        unfold rd
        rw [List.getD_eq_getElem?_getD, List.getElem?_eq_getElem h1]
        exact (hwf.lits l0_4 (.inr (.inl rfl))).2 _ (List.getElem_mem h1)
      have hr := Surely_fit _ _ w hwf hok htk hf hF.frames ⟨b0, b1⟩ (fun k hk => (hwf.lits l0_5 (.inr (.inr rfl))).2 k hk) hbl _ _ hF.runs hF.vs
      dsimp only at hr
      rw [sure_eq] at hr
      exact hr
    · rename_i hf
      have hh := Option.some.inj h
      rw [Prod.mk.injEq] at hh
      obtain ⟨rfl, rfl⟩ := hh
      exact (Surely_unfit _ _ w hwf hok htk (Bool.eq_false_iff.2 hf)).mono fun e w' he => ⟨he.1, he.2⟩
  · cases h
end Go.Proofs.YthpnooookkpkaaaDoor.F
/-! The document's May, Fits and Vars in plain words. -/
namespace Go.Proofs.YthpnooookkpkaaaDoor.F
open Go.RowKit Go.Proofs.YthpnooookkpkaaaDoorW.PrintWords
theorem rd_get {l : List Int} {i : Nat} (h : i < l.length) : rd l (i : Int) = l[i] := by
  unfold rd
  rw [Int.toNat_natCast, List.getD_eq_getElem?_getD, List.getElem?_eq_getElem h]
  rfl
theorem values_l (l : List Int) (n : Int) (hl : l.length ≤ 9223372036854775807) : ∀ (m i k : Nat), i + m = l.length → m + 1 ≤ k →
    inquestref03_values.l0 k l n (i : Int) = some (decide ((l.length : Int) = n) && (l.drop i).all fun x => decide (x ≤ 2)) := by
  intro m
  induction m with
  | zero =>
    intro i k hi hk
    obtain ⟨k, rfl⟩ : ∃ j, k = j + 1 := ⟨k - 1, by omega⟩
    simp only [inquestref03_values.l0]
    rw [if_neg (by omega), List.drop_eq_nil_of_le (by omega), List.all_nil, Bool.and_true]
    congr 1
  | succ m ih =>
    intro i k hi hk
    obtain ⟨k, rfl⟩ : ∃ j, k = j + 1 := ⟨k - 1, by omega⟩
    have hil : i < l.length := by omega
    have hw : wrap64 ((i : Int) + 1) = ((i + 1 : Nat) : Int) := by unfold wrap64; omega
    have hd : l.drop i = l[i] :: l.drop (i + 1) := List.drop_eq_getElem_cons hil
    simp only [inquestref03_values.l0]
    rw [if_pos (by omega), if_pos (by omega), rd_get hil, hw, hd, List.all_cons]
    by_cases h2 : l[i] > 2
    · rw [if_pos h2, decide_eq_false (show ¬ l[i] ≤ 2 by omega), Bool.false_and, Bool.and_false]
    · rw [if_neg h2, ih (i + 1) k (by omega) (by omega), decide_eq_true (show l[i] ≤ 2 by omega), Bool.true_and]
theorem values_f (l : List Int) (n : Int) (hl : l.length ≤ 9223372036854775807) (k : Nat) (hk : l.length + 1 ≤ k) : inquestref03_values.f k l n = some (valsB l n) := by
  unfold inquestref03_values.f valsB
  exact values_l l n hl l.length 0 k (by omega) hk
theorem half_u32 {x : Int} (h : 0 ≤ x ∧ x < 4294967296) : (Int.tdiv x 2) % 4294967296 = x / 2 := by
  rw [Int.tdiv_eq_ediv_of_nonneg h.1]
  omega
theorem lits_l (l : List Int) (V : Int) (hl : l.length ≤ 9223372036854775807) (hu : ∀ x ∈ l, 0 ≤ x ∧ x < 4294967296) : ∀ (m i k : Nat), i + m = l.length → m + 1 ≤ k →
    inquestref03_lits.l0 k l V (i : Int) = some (decide (l.length ≤ 1024) && (l.drop i).all fun x => decide (x / 2 ≤ V)) := by
  intro m
  induction m with
  | zero =>
    intro i k hi hk
    obtain ⟨k, rfl⟩ : ∃ j, k = j + 1 := ⟨k - 1, by omega⟩
    simp only [inquestref03_lits.l0]
    rw [if_neg (by omega), List.drop_eq_nil_of_le (by omega), List.all_nil, Bool.and_true]
    congr 1
    rw [decide_eq_decide]
    omega
  | succ m ih =>
    intro i k hi hk
    obtain ⟨k, rfl⟩ : ∃ j, k = j + 1 := ⟨k - 1, by omega⟩
    have hil : i < l.length := by omega
    have hw : wrap64 ((i : Int) + 1) = ((i + 1 : Nat) : Int) := by unfold wrap64; omega
    have hd : l.drop i = l[i] :: l.drop (i + 1) := List.drop_eq_getElem_cons hil
    simp only [inquestref03_lits.l0]
    rw [if_pos (by omega), if_pos (by omega), rd_get hil, hw, half_u32 (hu _ (List.getElem_mem hil)), hd, List.all_cons]
    by_cases h2 : l[i] / 2 > V
    · rw [if_pos h2, decide_eq_false (show ¬ l[i] / 2 ≤ V by omega), Bool.false_and, Bool.and_false]
    · rw [if_neg h2, ih (i + 1) k (by omega) (by omega), decide_eq_true (show l[i] / 2 ≤ V by omega), Bool.true_and]
theorem lits_f (l : List Int) (V : Int) (hl : l.length ≤ 9223372036854775807) (hu : ∀ x ∈ l, 0 ≤ x ∧ x < 4294967296) (k : Nat) (hk : l.length + 1 ≤ k) : inquestref03_lits.f k l V = some (litsOK V l) := by
  unfold inquestref03_lits.f litsOK
  exact lits_l l V hl hu l.length 0 k (by omega) hk
theorem w64 {x : Int} (h : -9223372036854775808 ≤ x ∧ x ≤ 9223372036854775807) : wrap64 x = x := by unfold wrap64; omega
theorem w64_3 {n l i : Int} (hn : 0 ≤ n ∧ n ≤ 16384) (hl : 0 ≤ l ∧ l ≤ 16384) (hi : 0 ≤ i ∧ i ≤ 16384) : wrap64 (wrap64 (wrap64 (n + l) + 1) + i) = n + l + 1 + i := by
  rw [w64 (x := n + l) (by omega), w64 (x := n + l + 1) (by omega), w64 (x := n + l + 1 + i) (by omega)]
theorem rd71_get {L : List S71} {i : Nat} (h : i < L.length) : rd_T71 L (i : Int) = L[i] := by
  show L.getD (i : Int).toNat _ = _
  rw [Int.toNat_natCast, List.getD_eq_getElem?_getD, List.getElem?_eq_getElem h]
  rfl
theorem rd84_get {G : List S84} {i : Nat} (h : i < G.length) : rd_T84 G (i : Int) = G[i] := by
  show G.getD (i : Int).toNat _ = _
  rw [Int.toNat_natCast, List.getD_eq_getElem?_getD, List.getElem?_eq_getElem h]
  rfl
/-- a circuit as the document's May asks it: its numbers are of their kinds, its lists are no longer than any -/
structure Kinds (n : Int) (L : List S71) (G : List S84) (O B K : List Int) : Prop where
  nn : -9223372036854775808 ≤ n ∧ n ≤ 9223372036854775807
  lL : L.length ≤ 9223372036854775807
  lG : G.length ≤ 9223372036854775807
  lO : O.length ≤ 9223372036854775807
  lB : B.length ≤ 9223372036854775807
  lK : K.length ≤ 9223372036854775807
  uL : ∀ x ∈ L, (0 ≤ x.f0 ∧ x.f0 < 4294967296)
  uG : ∀ g ∈ G, (0 ≤ g.f0 ∧ g.f0 < 4294967296)
  uO : ∀ x ∈ O, 0 ≤ x ∧ x < 4294967296
  uB : ∀ x ∈ B, 0 ≤ x ∧ x < 4294967296
  uK : ∀ x ∈ K, 0 ≤ x ∧ x < 4294967296
section
variable {n : Int} {L : List S71} {G : List S84} {O B K : List Int}
def restB (V : Int) (O B K : List Int) : Bool := litsOK V O && litsOK V B && litsOK V K
theorem may_l1 (h : Kinds n L G O B K) (hn : 0 ≤ n ∧ n ≤ 16384) (hL : L.length ≤ 16384) (hG : G.length ≤ 16384) (V : Int) : ∀ (m i k : Nat), i + m = G.length → m + O.length + B.length + K.length + 2 ≤ k →
    inquestref03_May.l1 k V (i : Int) n L G O B K = some (((List.range' i m).all fun j => decide ((rd_T84 G j).f0 / 2 < n + L.length + 1 + j) && decide ((rd_T84 G j).f1 ≤ (rd_T84 G j).f0)) && restB V O B K) := by
  intro m
  induction m with
  | zero =>
    intro i k hi hk
    obtain ⟨k, rfl⟩ : ∃ j, k = j + 1 := ⟨k - 1, by omega⟩
    simp only [inquestref03_May.l1]
    rw [if_neg (by omega), lits_f O V h.lO h.uO k (by omega), lits_f B V h.lB h.uB k (by omega), lits_f K V h.lK h.uK k (by omega)]
    unfold restB
    cases litsOK V O <;> cases litsOK V B <;> cases litsOK V K <;> rfl
  | succ m ih =>
    intro i k hi hk
    obtain ⟨k, rfl⟩ : ∃ j, k = j + 1 := ⟨k - 1, by omega⟩
    have hil : i < G.length := by omega
    have hg := h.uG _ (List.getElem_mem hil)
    have hw : wrap64 ((i : Int) + 1) = ((i + 1 : Nat) : Int) := by unfold wrap64; omega
    have hw2 : wrap64 (wrap64 (wrap64 (n + (L.length : Int)) + 1) + (i : Int)) = n + (L.length : Int) + 1 + (i : Int) := by
      have hi2 : i ≤ 16384 := Nat.le_trans (Nat.le_of_lt hil) hG
      clear ih hw hk hg hi hil hG
      exact w64_3 hn ⟨Int.natCast_nonneg _, by omega⟩ ⟨Int.natCast_nonneg _, by omega⟩
    have e1 : (i : Int) < (G.length : Int) := Int.ofNat_lt.mpr hil
    have hd : (List.range' i (m + 1)) = i :: List.range' (i + 1) m := List.range'_succ
    have hq := rd84_get hil
    simp only [inquestref03_May.l1]
    rw [if_pos e1, if_pos (Int.natCast_nonneg _), hq, half_u32 hg, hw, hw2, hd, List.all_cons, hq]
    clear hw hw2 hd hq
    by_cases h1 : G[i].f0 / 2 ≥ n + (L.length : Int) + 1 + (i : Int)
    · rw [if_pos h1, decide_eq_false (show ¬ G[i].f0 / 2 < n + (L.length : Int) + 1 + (i : Int) by omega)]
      simp only [Bool.false_and]
    · rw [if_neg h1]
      by_cases h2 : G[i].f0 < G[i].f1
      · rw [if_pos h2, decide_eq_false (show ¬ G[i].f1 ≤ G[i].f0 by omega), Bool.and_false]
        simp only [Bool.false_and]
      · rw [if_neg h2, ih (i + 1) k (by omega) (by omega), decide_eq_true (show G[i].f0 / 2 < n + (L.length : Int) + 1 + (i : Int) by omega), decide_eq_true (show G[i].f1 ≤ G[i].f0 by omega)]
        simp only [Bool.true_and]
theorem may_l0 (h : Kinds n L G O B K) (V : Int) (R : Bool) (N : Nat) (hR : ∀ k, N ≤ k → inquestref03_May.l1 k V 0 n L G O B K = some R) : ∀ (m i k : Nat), i + m = L.length → m + N + 1 ≤ k →
    inquestref03_May.l0 k V (i : Int) n L G O B K = some (((L.drop i).all fun x => decide (x.f1 ≤ 2) && decide (x.f0 / 2 ≤ V)) && R) := by
  intro m
  induction m with
  | zero =>
    intro i k hi hk
    obtain ⟨k, rfl⟩ : ∃ j, k = j + 1 := ⟨k - 1, by omega⟩
    simp only [inquestref03_May.l0]
    rw [if_neg (by omega), List.drop_eq_nil_of_le (by omega), hR k (by omega)]
    rfl
  | succ m ih =>
    intro i k hi hk
    obtain ⟨k, rfl⟩ : ∃ j, k = j + 1 := ⟨k - 1, by omega⟩
    have hil : i < L.length := by omega
    have hll := h.lL
    have hg := h.uL _ (List.getElem_mem hil)
    have hw : wrap64 ((i : Int) + 1) = ((i + 1 : Nat) : Int) := by unfold wrap64; omega
    have hd : L.drop i = L[i] :: L.drop (i + 1) := List.drop_eq_getElem_cons hil
    simp only [inquestref03_May.l0]
    rw [if_pos (by omega), if_pos (by omega), rd71_get hil, half_u32 hg, hw, hd, List.all_cons]
    by_cases h1 : L[i].f0 / 2 > V
    · rw [if_pos h1, decide_eq_false (show ¬ L[i].f0 / 2 ≤ V by omega), Bool.and_false]
      simp only [Bool.false_and]
    · rw [if_neg h1]
      by_cases h2 : L[i].f1 > 2
      · rw [if_pos h2, decide_eq_false (show ¬ L[i].f1 ≤ 2 by omega)]
        simp only [Bool.false_and]
      · rw [if_neg h2, ih (i + 1) k (by omega) (by omega), decide_eq_true (show L[i].f0 / 2 ≤ V by omega), decide_eq_true (show L[i].f1 ≤ 2 by omega)]
        simp only [Bool.true_and]
/-- enough rounds -/
def fuel03 (L : List S71) (G : List S84) (O B K : List Int) : Nat := L.length + G.length + O.length + B.length + K.length + 5
theorem May_f (h : Kinds n L G O B K) (k : Nat) (hk : fuel03 L G O B K ≤ k) : inquestref03_May.f k n L G O B K = some (mayB (pc n L G O B K)) := by
  unfold fuel03 at hk
  obtain ⟨k, rfl⟩ : ∃ j, k = j + 1 := ⟨k - 1, by omega⟩
  have hj : ∀ b, inquestref03_May.j0 (k + 1) true n L G O B K = some b ↔ b = false := fun b => by simp [inquestref03_May.j0, eq_comm]
  have hno : ¬ (0 ≤ n ∧ n ≤ 16384 ∧ n + L.length + G.length ≤ 16384) → mayB (pc n L G O B K) = false := fun hx => by
    rw [Bool.eq_false_iff]
    intro hm
    obtain ⟨m1, m2, m3, _⟩ := mayB_iff hm
    exact hx ⟨m1, m2, m3⟩
  unfold inquestref03_May.f
  by_cases h0 : n < 0
  · rw [if_pos h0, (hj false).2 rfl, hno (by omega)]
  · rw [if_neg h0]
    by_cases h1 : n > 16384
    · rw [if_pos h1, (hj false).2 rfl, hno (by omega)]
    · rw [if_neg h1]
      by_cases h2 : (L.length : Int) > 16384
      · rw [if_pos h2, (hj false).2 rfl, hno (by omega)]
      · rw [if_neg h2]
        by_cases h3 : (G.length : Int) > 16384
        · rw [decide_eq_true h3, (hj false).2 rfl, hno (by omega)]
        · rw [decide_eq_false h3]
          have hw : wrap64 (wrap64 (n + (L.length : Int)) + (G.length : Int)) = n + L.length + G.length := by rw [w64 (x := n + (L.length : Int)) (by omega), w64 (by omega)]
          simp only [inquestref03_May.j0]
          rw [if_neg (by decide), hw]
          by_cases h4 : n + (L.length : Int) + (G.length : Int) > 16384
          · rw [if_pos h4, hno (by omega)]
          · rw [if_neg h4]
            have hl := may_l0 h (n + L.length + G.length) _ (G.length + O.length + B.length + K.length + 2) (fun k hk => may_l1 h ⟨by omega, by omega⟩ (by omega) (by omega) (n + L.length + G.length) G.length 0 k (by omega) (by omega)) L.length 0 k (by omega) (by omega)
            rw [show ((0 : Nat) : Int) = 0 from rfl] at hl
            rw [hl]
            unfold mayB restB
            rw [List.drop_zero, ← List.range_eq_range']
            have e : (pc n L G O B K).vars = n + L.length + G.length := rfl
            rw [e, decide_eq_true (show 0 ≤ (pc n L G O B K).n by show 0 ≤ n; omega), decide_eq_true (show (pc n L G O B K).n ≤ 16384 by show n ≤ 16384; omega), decide_eq_true (show n + (L.length : Int) + (G.length : Int) ≤ 16384 by omega)]
            congr 1
            show (_ && _) = (_ && _)
            generalize hq : ((List.range G.length).all fun j => decide ((rd_T84 G j).f0 / 2 < n + L.length + 1 + j) && decide ((rd_T84 G j).f1 ≤ (rd_T84 G j).f0)) = q
            have hq2 : ((List.range (pc n L G O B K).G.length).all fun j => decide ((rd_T84 (pc n L G O B K).G j).f0 / 2 < (pc n L G O B K).n + (pc n L G O B K).L.length + 1 + j) && decide ((rd_T84 (pc n L G O B K).G j).f1 ≤ (rd_T84 (pc n L G O B K).G j).f0)) = q := hq
            rw [hq2]
            show (_ && (q && (litsOK _ O && litsOK _ B && litsOK _ K))) = (true && true && true && litsOK _ O && litsOK _ B && litsOK _ K && _ && q)
            generalize litsOK (n + L.length + G.length) O = o1
            generalize litsOK (n + L.length + G.length) B = o2
            generalize litsOK (n + L.length + G.length) K = o3
            generalize hq3 : (L.all fun x => decide (x.f1 ≤ 2) && decide (x.f0 / 2 ≤ n + L.length + G.length)) = o4
            have hq4 : ((pc n L G O B K).L.all fun x => decide (x.f1 ≤ 2) && decide (x.f0 / 2 ≤ n + L.length + G.length)) = o4 := hq3
            rw [hq4]
            cases q <;> cases o1 <;> cases o2 <;> cases o3 <;> cases o4 <;> rfl
theorem Vars_f (h : Kinds n L G O B K) (hm : mayB (pc n L G O B K) = true) (k : Nat) (hk : fuel03 L G O B K ≤ k) : inquestref03_Vars.f k n L G O B K = some (n + L.length + G.length) := by
  unfold inquestref03_Vars.f
  obtain ⟨m1, m2, m3, _⟩ := mayB_iff hm
  have m1 : 0 ≤ n := m1
  have m2 : n ≤ 16384 := m2
  have m3 : n + (L.length : Int) + (G.length : Int) ≤ 16384 := m3
  rw [May_f h k hk, hm, Option.bind_some, if_pos rfl]
  congr 1
  unfold wrap64
  omega
end
end Go.Proofs.YthpnooookkpkaaaDoor.F
/-! The document's Fits in plain words. -/
namespace Go.Proofs.YthpnooookkpkaaaDoor.F
open Go.RowKit Go.Proofs.YthpnooookkpkaaaDoorW.PrintWords
theorem rdL4_get {l : List (List Int)} {i : Nat} (h : i < l.length) : rd_L4 l (i : Int) = l[i] := by
  show l.getD (i : Int).toNat _ = _
  rw [Int.toNat_natCast, List.getD_eq_getElem?_getD, List.getElem?_eq_getElem h]
  rfl
section
variable {n : Int} {L : List S71} {G : List S84} {O B K : List Int}
def initB (L : List S71) (I : List Int) (i m : Nat) : Bool := (List.range' i m).all fun i => decide ((rd_T71 L i).f1 = 2) || decide ((rd_T71 L i).f1 = rd I i)
theorem fits_l1 (b : Int) (I : List Int) (F : List (List Int)) (hI : I.length ≤ 9223372036854775807) (hLI : I.length = L.length) : ∀ (m i k : Nat), i + m = I.length → m + 1 ≤ k →
    inquestref03_Fits.l1 k (i : Int) n L G O B K b I F = some (initB L I i m) := by
  intro m
  induction m with
  | zero =>
    intro i k hi hk
    obtain ⟨k, rfl⟩ : ∃ j, k = j + 1 := ⟨k - 1, by omega⟩
    simp only [inquestref03_Fits.l1]
    rw [if_neg (by omega)]
    rfl
  | succ m ih =>
    intro i k hi hk
    obtain ⟨k, rfl⟩ : ∃ j, k = j + 1 := ⟨k - 1, by omega⟩
    have e1 : (i : Int) < (I.length : Int) := by omega
    have e2 : (i : Int) < (L.length : Int) := by omega
    have e3 : (0 : Int) ≤ (i : Int) := by omega
    have hr := ih (i + 1) k (by omega) (by omega)
    have hw : wrap64 ((i : Int) + 1) = ((i + 1 : Nat) : Int) := by unfold wrap64; omega
    have hd : (List.range' i (m + 1)) = i :: List.range' (i + 1) m := List.range'_succ
    simp only [inquestref03_Fits.l1]
    unfold initB
    rw [if_pos e1, if_pos e3, if_pos e2, hw, hr, hd, List.all_cons]
    by_cases h1 : (rd_T71 L (i : Int)).f1 = 2
    · rw [if_pos h1, decide_eq_true h1, Bool.true_or, Bool.true_and]
      rfl
    · rw [if_neg h1, decide_eq_false h1, Bool.false_or]
      by_cases h2 : (rd_T71 L (i : Int)).f1 = rd I (i : Int)
      · rw [if_pos h2, decide_eq_true h2, Bool.true_and]
        rfl
      · rw [if_neg h2, decide_eq_false h2, Bool.false_and]
theorem fits_l0 (b : Int) (I : List Int) (F : List (List Int)) (hF : F.length ≤ 9223372036854775807) (R : Bool) (N : Nat) (hR : ∀ k, N ≤ k → inquestref03_Fits.l1 k 0 n L G O B K b I F = some R)
    (hl : ∀ l ∈ F, l.length ≤ 9223372036854775807 ∧ l.length + 1 ≤ N) : ∀ (m i k : Nat), i + m = F.length → m + N + 1 ≤ k →
    inquestref03_Fits.l0 k (i : Int) n L G O B K b I F = some (((F.drop i).all fun l => valsB l n) && R) := by
  intro m
  induction m with
  | zero =>
    intro i k hi hk
    obtain ⟨k, rfl⟩ : ∃ j, k = j + 1 := ⟨k - 1, by omega⟩
    simp only [inquestref03_Fits.l0]
    rw [if_neg (by omega), hR k (by omega), List.drop_eq_nil_of_le (by omega), List.all_nil, Bool.true_and]
  | succ m ih =>
    intro i k hi hk
    obtain ⟨k, rfl⟩ : ∃ j, k = j + 1 := ⟨k - 1, by omega⟩
    have hil : i < F.length := by omega
    have e1 : (i : Int) < (F.length : Int) := by omega
    have e3 : (0 : Int) ≤ (i : Int) := by omega
    have hr := ih (i + 1) k (by omega) (by omega)
    have hm := hl _ (List.getElem_mem hil)
    have hv := values_f F[i] n hm.1 k (by omega)
    have hw : wrap64 ((i : Int) + 1) = ((i + 1 : Nat) : Int) := by unfold wrap64; omega
    have hd : F.drop i = F[i] :: F.drop (i + 1) := List.drop_eq_getElem_cons hil
    simp only [inquestref03_Fits.l0]
    rw [if_pos e1, if_pos e3, rdL4_get hil, hv, hw, hr, hd, List.all_cons, Option.bind_some]
    cases valsB F[i] n
    · rw [if_neg (by decide), Bool.false_and, Bool.false_and]
    · rw [if_pos rfl, Bool.true_and]
/-- enough rounds for the document's Fits -/
def fuelT (I : List Int) (F : List (List Int)) : Nat := I.length + F.length + (F.map List.length).sum + 5
theorem len_le_sum : ∀ (F : List (List Int)), ∀ l ∈ F, l.length ≤ (F.map List.length).sum
  | [], l, h => by simp at h
  | a :: F, l, h => by
    rcases List.mem_cons.mp h with rfl | h
    · simp
    · have := len_le_sum F l h
      simp only [List.map_cons, List.sum_cons]
      omega
theorem Fits_f (h : Kinds n L G O B K) (b : Int) (I : List Int) (F : List (List Int)) (hI : I.length ≤ 9223372036854775807) (hF : F.length ≤ 9223372036854775807) (hl : ∀ l ∈ F, l.length ≤ 9223372036854775807)
    (k : Nat) (hk : fuel03 L G O B K + fuelT I F ≤ k) : inquestref03_Fits.f k n L G O B K b I F = some (fitsB (pc n L G O B K) (pt b I F)) := by
  have hk1 : fuel03 L G O B K ≤ k := by omega
  have hk2 : fuelT I F ≤ k := by omega
  unfold fuelT at hk2
  have hk3 : I.length + 1 ≤ k := by omega
  obtain ⟨k', hk'⟩ : ∃ j, k = j + 1 := ⟨k - 1, by omega⟩
  have hj : inquestref03_Fits.j0 k true n L G O B K b I F = some false := by subst hk'; simp [inquestref03_Fits.j0]
  unfold inquestref03_Fits.f
  rw [May_f h k hk1, Option.bind_some]
  have hq : fitsB (pc n L G O B K) (pt b I F) = (mayB (pc n L G O B K) && decide (0 ≤ b) && decide (b < (B.length : Int)) && decide (F.length ≠ 0) && decide (F.length ≤ 256) && valsB I (L.length : Int) && initB L I 0 L.length && (F.all fun l => valsB l n)) := by
    unfold fitsB initB
    rw [← List.range_eq_range']
    rfl
  rw [hq]
  clear hq
  generalize mayB (pc n L G O B K) = q
  cases q
  · rw [if_neg (by decide), hj]
    simp only [Bool.false_and]
  · rw [if_pos rfl]
    by_cases h0 : b < 0
    · rw [if_pos h0, hj, decide_eq_false (show ¬ 0 ≤ b by omega)]
      simp only [Bool.false_and, Bool.and_false]
    · rw [if_neg h0, decide_eq_true (show 0 ≤ b by omega)]
      by_cases h1 : b ≥ (B.length : Int)
      · rw [if_pos h1, hj, decide_eq_false (show ¬ b < (B.length : Int) by omega)]
        simp only [Bool.false_and, Bool.and_false]
      · rw [if_neg h1, decide_eq_true (show b < (B.length : Int) by omega), values_f I (L.length : Int) hI k hk3, Option.bind_some]
        have hv : valsB I (L.length : Int) = true → I.length = L.length := fun e => by
          unfold valsB at e
          rw [Bool.and_eq_true, decide_eq_true_eq] at e
          exact Int.ofNat_inj.mp e.1
        generalize valsB I (L.length : Int) = v at hv ⊢
        cases v
        · rw [if_neg (by decide), hj]
          simp only [Bool.false_and, Bool.and_false]
        · rw [if_pos rfl]
          have hv := hv rfl
          by_cases h2 : (F.length : Int) < 1
          · rw [if_pos h2, hj, decide_eq_false (show ¬ F.length ≠ 0 by omega)]
            simp only [Bool.false_and, Bool.and_false]
          · rw [if_neg h2, decide_eq_true (show F.length ≠ 0 by omega)]
            by_cases h3 : (F.length : Int) > 256
            · rw [decide_eq_true h3, hj, decide_eq_false (show ¬ F.length ≤ 256 by omega)]
              simp only [Bool.false_and, Bool.and_false]
            · rw [decide_eq_false h3, decide_eq_true (show F.length ≤ 256 by omega)]
              subst hk'
              simp only [inquestref03_Fits.j0]
              have h0 := fits_l0 (n := n) (L := L) (G := G) (O := O) (B := B) (K := K) b I F hF (initB L I 0 I.length) (I.length + 1 + (F.map List.length).sum + 1)
                (fun k hk => fits_l1 b I F hI hv I.length 0 k (by omega) (by omega)) (fun l hm => ⟨hl l hm, by have := len_le_sum F l hm; omega⟩) F.length 0 k' (by omega) (by omega)
              rw [show ((0 : Nat) : Int) = 0 from rfl, List.drop_zero, hv] at h0
              rw [if_neg (by decide), h0]
              simp only [Bool.true_and]
              congr 1
              exact Bool.and_comm _ _
end
end Go.Proofs.YthpnooookkpkaaaDoor.F
/-! The trace whose X are bits, in plain words: what it is made to refines what it was. -/
namespace Go.Proofs.YthpnooookkpkaaaDoor.F
open Go.RowKit Go.Proofs.YthpnooookkpkaaaDoorW.PrintWords
theorem copy_l0 (I : List Int) (b : Int) (F : List (List Int)) (hF : F.length ≤ 1000000) (hl : ∀ l ∈ F, l.length ≤ 1000000) (J : List Int) (c : Int) : ∀ (m i k : Nat) (acc : List (List Int)), i + m = F.length → m + 1 ≤ k → acc.length = i →
    inquestref03_CopyTrace.l0 k (i : Int) b I F c J acc = some (c, J, acc ++ F.drop i) := by
  intro m
  induction m with
  | zero =>
    intro i k acc hi hk ha
    obtain ⟨k, rfl⟩ : ∃ j, k = j + 1 := ⟨k - 1, by omega⟩
    simp only [inquestref03_CopyTrace.l0]
    rw [if_neg (by omega), List.drop_eq_nil_of_le (by omega), List.append_nil]
  | succ m ih =>
    intro i k acc hi hk ha
    obtain ⟨k, rfl⟩ : ∃ j, k = j + 1 := ⟨k - 1, by omega⟩
    have hil : i < F.length := by omega
    have e1 : (i : Int) < (F.length : Int) := by omega
    have e3 : (0 : Int) ≤ (i : Int) := by omega
    have e4 : ([] : List Int).length + F[i].length < 140737488355328 := by
      have := hl _ (List.getElem_mem hil)
      simp only [List.length_nil]
      omega
    have e5 : acc.length < 5864062014805 := by omega
    have hr := ih (i + 1) k (acc ++ [F[i]]) (by omega) (by omega) (by simp [ha])
    have hd : F.drop i = F[i] :: F.drop (i + 1) := List.drop_eq_getElem_cons hil
    have hw : wrap64 ((i : Int) + 1) = ((i + 1 : Nat) : Int) := by unfold wrap64; omega
    simp only [inquestref03_CopyTrace.l0]
    rw [if_pos e1, if_pos e3, rdL4_get hil, if_pos e4, if_pos e5, hw, List.nil_append, hr, hd, List.append_assoc]
    rfl
theorem copy_f (b : Int) (I : List Int) (F : List (List Int)) (hI : I.length ≤ 1000000) (hF : F.length ≤ 1000000) (hl : ∀ l ∈ F, l.length ≤ 1000000) (k : Nat) (hk : F.length + 1 ≤ k) : inquestref03_CopyTrace.f k b I F = some (b, I, F) := by
  unfold inquestref03_CopyTrace.f
  have e4 : ([] : List Int).length + I.length < 140737488355328 := by
    simp only [List.length_nil]
    omega
  have h := copy_l0 I b F hF hl ([] ++ I) b F.length 0 k [] (by omega) hk rfl
  rw [show ((0 : Nat) : Int) = 0 from rfl] at h
  rw [if_pos e4, h]
  rfl
/-- so far as i the list is made to bits, from there on it is as it was -/
structure Part (orig cur : List Int) (i : Nat) : Prop where
  len : cur.length = orig.length
  lo : ∀ j, j < i → Ref (at0 orig j) (at0 cur j)
  hi : ∀ j, i ≤ j → at0 cur j = at0 orig j
theorem Part.start (l : List Int) : Part l l 0 := ⟨rfl, fun _ h => absurd h (by omega), fun _ _ => rfl⟩
theorem at0_set {l : List Int} {i : Nat} (h : i < l.length) (v : Int) (j : Nat) : at0 (l.set i v) j = if i = j then v else at0 l j := by
  unfold at0
  rw [List.getD_eq_getElem?_getD, List.getD_eq_getElem?_getD, List.getElem?_set]
  by_cases e : i = j
  · rw [if_pos e, if_pos e, if_pos h]
    rfl
  · rw [if_neg e, if_neg e]
theorem Part.put {orig cur : List Int} {i : Nat} (h : Part orig cur i) (hi : i < orig.length) {v : Int} (hv : Ref (at0 orig i) v) : Part orig (cur.set i v) (i + 1) := by
  have hc : i < cur.length := by rw [h.len]; exact hi
  refine ⟨by rw [List.length_set]; exact h.len, fun j hj => ?_, fun j hj => ?_⟩
  · rw [at0_set hc]
    by_cases e : i = j
    · subst e
      rw [if_pos rfl]
      exact hv
    · rw [if_neg e]
      exact h.lo j (by omega)
  · rw [at0_set hc, if_neg (by omega)]
    exact h.hi j (by omega)
theorem Part.keep {orig cur : List Int} {i : Nat} (h : Part orig cur i) (hv : Ref (at0 orig i) (at0 cur i)) : Part orig cur (i + 1) := by
  refine ⟨h.len, fun j hj => ?_, fun j hj => h.hi j (by omega)⟩
  by_cases e : j = i
  · subst e
    exact hv
  · exact h.lo j (by omega)
theorem Part.refl {orig cur : List Int} (h : Part orig cur orig.length) : RefL orig cur := ⟨h.len.symm, fun i hi => h.lo i hi⟩
theorem rd_at0 (l : List Int) (i : Nat) : rd l (i : Int) = at0 l i := by
  unfold rd at0
  rw [Int.toNat_natCast]
theorem rdL4_set {F : List (List Int)} {r : Nat} (h : r < F.length) (x : List Int) : rd_L4 (F.set r x) (r : Int) = x := by
  show (F.set r x).getD (r : Int).toNat _ = _
  rw [Int.toNat_natCast, List.getD_eq_getElem?_getD, List.getElem?_set, if_pos rfl, if_pos h]
  rfl
theorem bits_or {bits : List Bool} (p : Nat) : (rdOf false bits (p : Int) = true) ∨ ¬ (rdOf false bits (p : Int) = true) := by cases rdOf false bits (p : Int) <;> simp
theorem filled_l2 (bits : List Bool) (b : Int) (I : List Int) (F0 : List (List Int)) (r : Nat) (hr : r < F0.length) (x46 x47 : Int) (orig : List Int) (hv : ∀ x ∈ orig, isV x) (ho : orig.length ≤ 1000000) : ∀ (m i p : Nat) (cur : List Int), i + m = orig.length → Part orig cur i → p + m ≤ 1000000000000000 →
    ∃ p' row, RefL orig row ∧ p' ≤ p + m ∧ ∀ k, inquestlaw07_filled.l2 (k + m + 1) bits (p : Int) (r : Int) x46 x47 (orig.length : Int) (i : Int) b I (F0.set r cur) = inquestlaw07_filled.l1 k bits (p' : Int) x46 (wrap64 (x47 + 1)) b I (F0.set r row) := by
  intro m
  induction m with
  | zero =>
    intro i p cur hi hp hb
    obtain rfl : i = orig.length := by omega
    refine ⟨p, cur, hp.refl, by omega, fun k => ?_⟩
    simp only [inquestlaw07_filled.l2]
    rw [if_neg (by omega)]
  | succ m ih =>
    intro i p cur hi hp hb
    have hlt : i < orig.length := by omega
    have e1 : (i : Int) < (orig.length : Int) := by omega
    have e2 : (0 : Int) ≤ (r : Int) := by omega
    have e3 : (r : Int) < ((F0.set r cur).length : Int) := by rw [List.length_set]; omega
    have e4 : (0 : Int) ≤ (i : Int) := by omega
    have e5 : (i : Int) < (cur.length : Int) := by rw [hp.len]; omega
    have e6 : (0 : Int) ≤ (p : Int) := by omega
    have hw : wrap64 ((i : Int) + 1) = ((i + 1 : Nat) : Int) := by unfold wrap64; omega
    have hw2 : wrap64 ((p : Int) + 1) = ((p + 1 : Nat) : Int) := by unfold wrap64; omega
    have hcur := hp.hi i (Nat.le_refl i)
    have hiv := isV_at hv i
    have step : ∀ k, inquestlaw07_filled.l2 (k + (m + 1) + 1) bits (p : Int) (r : Int) x46 x47 (orig.length : Int) (i : Int) b I (F0.set r cur) =
        if at0 cur i = 2 then (if (p : Int) < (bits.length : Int) then (if rdOf false bits (p : Int) = true then inquestlaw07_filled.l2 (k + m + 1) bits ((p + 1 : Nat) : Int) (r : Int) x46 x47 (orig.length : Int) ((i + 1 : Nat) : Int) b I (F0.set r (cur.set i 1))
          else inquestlaw07_filled.l2 (k + m + 1) bits ((p + 1 : Nat) : Int) (r : Int) x46 x47 (orig.length : Int) ((i + 1 : Nat) : Int) b I (F0.set r (cur.set i 0)))
          else inquestlaw07_filled.l2 (k + m + 1) bits ((p + 1 : Nat) : Int) (r : Int) x46 x47 (orig.length : Int) ((i + 1 : Nat) : Int) b I (F0.set r (cur.set i 0)))
        else inquestlaw07_filled.l2 (k + m + 1) bits (p : Int) (r : Int) x46 x47 (orig.length : Int) ((i + 1 : Nat) : Int) b I (F0.set r cur) := by
      intro k
      rw [show k + (m + 1) + 1 = (k + m + 1) + 1 by omega]
      conv => lhs; unfold inquestlaw07_filled.l2
      rw [if_pos e1, if_pos e2, if_pos e3, if_pos e4, rdL4_set hr cur, if_pos e5, rd_at0, hw, hw2]
      have e7 : (i : Int) < (((cur.set i 0).length : Nat) : Int) := by rw [List.length_set]; exact e5
      have t1 : (i : Int).toNat = i := rfl
      have t2 : (r : Int).toNat = r := rfl
      simp only [t1, t2, Option.bind_some, List.set_set, rdL4_set hr, if_pos e6, if_pos e7]
    by_cases h2 : at0 cur i = 2
    · have h2o : at0 orig i = 2 := hcur.symm.trans h2
      by_cases h3 : (p : Int) < (bits.length : Int)
      · by_cases h4 : rdOf false bits (p : Int) = true
        · obtain ⟨p', row, g1, g2, g3⟩ := ih (i + 1) (p + 1) (cur.set i 1) (by omega) (hp.put hlt ⟨Or.inr rfl, Or.inl h2o⟩) (by omega)
          refine ⟨p', row, g1, by omega, fun k => ?_⟩
          rw [step, if_pos h2, if_pos h3, if_pos h4]
          exact g3 k
        · obtain ⟨p', row, g1, g2, g3⟩ := ih (i + 1) (p + 1) (cur.set i 0) (by omega) (hp.put hlt ⟨Or.inl rfl, Or.inl h2o⟩) (by omega)
          refine ⟨p', row, g1, by omega, fun k => ?_⟩
          rw [step, if_pos h2, if_pos h3, if_neg h4]
          exact g3 k
      · obtain ⟨p', row, g1, g2, g3⟩ := ih (i + 1) (p + 1) (cur.set i 0) (by omega) (hp.put hlt ⟨Or.inl rfl, Or.inl h2o⟩) (by omega)
        refine ⟨p', row, g1, by omega, fun k => ?_⟩
        rw [step, if_pos h2, if_neg h3]
        exact g3 k
    · have hrf : Ref (at0 orig i) (at0 cur i) := by
        rw [hcur] at h2 ⊢
        rcases hiv with e | e | e
        · exact ⟨Or.inl e, Or.inr rfl⟩
        · exact ⟨Or.inr e, Or.inr rfl⟩
        · exact absurd e h2
      obtain ⟨p', row, g1, g2, g3⟩ := ih (i + 1) p cur (by omega) (hp.keep hrf) (by omega)
      refine ⟨p', row, g1, by omega, fun k => ?_⟩
      rw [step, if_neg h2]
      exact g3 k
structure PartL (F C : List (List Int)) (r : Nat) : Prop where
  len : C.length = F.length
  lo : ∀ j, j < r → RefL (rd_L4 F (j : Int)) (rd_L4 C (j : Int))
  hi : ∀ j, r ≤ j → rd_L4 C (j : Int) = rd_L4 F (j : Int)
theorem rdL4_set_ne {F : List (List Int)} {r j : Nat} (h : r ≠ j) (x : List Int) : rd_L4 (F.set r x) (j : Int) = rd_L4 F (j : Int) := by
  show (F.set r x).getD (j : Int).toNat _ = F.getD (j : Int).toNat _
  rw [Int.toNat_natCast, List.getD_eq_getElem?_getD, List.getD_eq_getElem?_getD, List.getElem?_set, if_neg h]
theorem set_self {F : List (List Int)} {r : Nat} (h : r < F.length) : F.set r (rd_L4 F (r : Int)) = F := by
  rw [rdL4_get h]
  exact List.set_getElem_self h
theorem PartL.done {F C : List (List Int)} (h : PartL F C F.length) : RefLL F C := by
  refine ⟨h.len.symm, fun i hi hc => ?_⟩
  have e := h.lo i hi
  rw [rdL4_get hi, rdL4_get hc] at e
  exact e
theorem filled_l1 (bits : List Bool) (b : Int) (I : List Int) (F : List (List Int)) (hv : ∀ l ∈ F, ∀ x ∈ l, isV x) (ho : ∀ l ∈ F, l.length ≤ 1000000) (hF : F.length ≤ 1000000) : ∀ (m r p : Nat) (C : List (List Int)), r + m = F.length → PartL F C r → p + m * 1000000 ≤ 100000000000000 →
    ∃ C' N, RefLL F C' ∧ ∀ k, N ≤ k → inquestlaw07_filled.l1 k bits (p : Int) (F.length : Int) (r : Int) b I C = some (b, I, C') := by
  intro m
  induction m with
  | zero =>
    intro r p C hi hp hb
    obtain rfl : r = F.length := by omega
    refine ⟨C, 1, hp.done, fun k hk => ?_⟩
    obtain ⟨k, rfl⟩ : ∃ j, k = j + 1 := ⟨k - 1, by omega⟩
    unfold inquestlaw07_filled.l1
    rw [if_neg (by omega)]
  | succ m ih =>
    intro r p C hi hp hb
    have hlt : r < F.length := by omega
    have hrc : r < C.length := by rw [hp.len]; exact hlt
    have hcur : rd_L4 C (r : Int) = F[r] := (hp.hi r (Nat.le_refl r)).trans (rdL4_get hlt)
    have hmem := List.getElem_mem hlt
    have hol := ho _ hmem
    obtain ⟨p', row, g1, g2, g3⟩ := filled_l2 bits b I C r hrc (F.length : Int) (r : Int) F[r] (hv _ hmem) hol F[r].length 0 p F[r] (by omega) (Part.start _) (by omega)
    have hp2 : PartL F (C.set r row) (r + 1) := by
      refine ⟨by rw [List.length_set]; exact hp.len, fun j hj => ?_, fun j hj => ?_⟩
      · by_cases e : r = j
        · subst e
          rw [rdL4_set hrc, rdL4_get hlt]
          exact g1
        · rw [rdL4_set_ne e]
          exact hp.lo j (by omega)
      · rw [rdL4_set_ne (by omega)]
        exact hp.hi j (by omega)
    obtain ⟨C', N, q1, q2⟩ := ih (r + 1) p' (C.set r row) (by omega) hp2 (by omega)
    refine ⟨C', N + F[r].length + 2, q1, fun k hk => ?_⟩
    have e1 : (r : Int) < (F.length : Int) := by omega
    have e2 : (0 : Int) ≤ (r : Int) := by omega
    have e3 : (r : Int) < (C.length : Int) := by omega
    have hw : wrap64 ((r : Int) + 1) = ((r + 1 : Nat) : Int) := by unfold wrap64; omega
    have hs := set_self hrc
    rw [hcur] at hs
    have g4 := g3 (k - F[r].length - 2)
    rw [hs, hw, q2 _ (by omega), show k - F[r].length - 2 + F[r].length + 1 = k - 1 by omega] at g4
    obtain ⟨k, rfl⟩ : ∃ j, k = j + 1 := ⟨k - 1, by omega⟩
    unfold inquestlaw07_filled.l1
    rw [if_pos e1, if_pos e2, if_pos e3, hcur]
    exact g4
theorem filled_l0 (bits : List Bool) (b : Int) (orig : List Int) (F : List (List Int)) (hvI : ∀ x ∈ orig, isV x) (hoI : orig.length ≤ 1000000) (hv : ∀ l ∈ F, ∀ x ∈ l, isV x) (ho : ∀ l ∈ F, l.length ≤ 1000000) (hF : F.length ≤ 1000000) : ∀ (m i p : Nat) (cur : List Int), i + m = orig.length → Part orig cur i → p + m ≤ 1000000 →
    ∃ I' C' N, RefL orig I' ∧ RefLL F C' ∧ ∀ k, N ≤ k → inquestlaw07_filled.l0 k bits (p : Int) (orig.length : Int) (i : Int) b cur F = some (b, I', C') := by
  intro m
  induction m with
  | zero =>
    intro i p cur hi hp hb
    obtain rfl : i = orig.length := by omega
    obtain ⟨C', N, q1, q2⟩ := filled_l1 bits b cur F hv ho hF F.length 0 p F (by omega) ⟨rfl, fun _ h => absurd h (by omega), fun _ _ => rfl⟩ (by omega)
    refine ⟨cur, C', N + 1, hp.refl, q1, fun k hk => ?_⟩
    obtain ⟨k, rfl⟩ : ∃ j, k = j + 1 := ⟨k - 1, by omega⟩
    unfold inquestlaw07_filled.l0
    rw [if_neg (by omega)]
    exact q2 k (by omega)
  | succ m ih =>
    intro i p cur hi hp hb
    have hlt : i < orig.length := by omega
    have e1 : (i : Int) < (orig.length : Int) := by omega
    have e4 : (0 : Int) ≤ (i : Int) := by omega
    have e5 : (i : Int) < (cur.length : Int) := by rw [hp.len]; omega
    have e6 : (0 : Int) ≤ (p : Int) := by omega
    have hw : wrap64 ((i : Int) + 1) = ((i + 1 : Nat) : Int) := by unfold wrap64; omega
    have hw2 : wrap64 ((p : Int) + 1) = ((p + 1 : Nat) : Int) := by unfold wrap64; omega
    have hcur := hp.hi i (Nat.le_refl i)
    have hiv := isV_at hvI i
    have step : ∀ k, inquestlaw07_filled.l0 (k + 1) bits (p : Int) (orig.length : Int) (i : Int) b cur F =
        if at0 cur i = 2 then (if (p : Int) < (bits.length : Int) then (if rdOf false bits (p : Int) = true then inquestlaw07_filled.l0 k bits ((p + 1 : Nat) : Int) (orig.length : Int) ((i + 1 : Nat) : Int) b (cur.set i 1) F
          else inquestlaw07_filled.l0 k bits ((p + 1 : Nat) : Int) (orig.length : Int) ((i + 1 : Nat) : Int) b (cur.set i 0) F)
          else inquestlaw07_filled.l0 k bits ((p + 1 : Nat) : Int) (orig.length : Int) ((i + 1 : Nat) : Int) b (cur.set i 0) F)
        else inquestlaw07_filled.l0 k bits (p : Int) (orig.length : Int) ((i + 1 : Nat) : Int) b cur F := by
      intro k
      conv => lhs; unfold inquestlaw07_filled.l0
      rw [if_pos e1, if_pos e4, if_pos e5, rd_at0, hw, hw2]
      have t1 : (i : Int).toNat = i := rfl
      simp only [t1, Option.bind_some, List.set_set, if_pos e6]
    by_cases h2 : at0 cur i = 2
    · have h2o : at0 orig i = 2 := hcur.symm.trans h2
      by_cases h3 : (p : Int) < (bits.length : Int)
      · by_cases h4 : rdOf false bits (p : Int) = true
        · obtain ⟨I', C', N, g1, g2, g3⟩ := ih (i + 1) (p + 1) (cur.set i 1) (by omega) (hp.put hlt ⟨Or.inr rfl, Or.inl h2o⟩) (by omega)
          refine ⟨I', C', N + 1, g1, g2, fun k hk => ?_⟩
          obtain ⟨k, rfl⟩ : ∃ j, k = j + 1 := ⟨k - 1, by omega⟩
          rw [step, if_pos h2, if_pos h3, if_pos h4]
          exact g3 k (by omega)
        · obtain ⟨I', C', N, g1, g2, g3⟩ := ih (i + 1) (p + 1) (cur.set i 0) (by omega) (hp.put hlt ⟨Or.inl rfl, Or.inl h2o⟩) (by omega)
          refine ⟨I', C', N + 1, g1, g2, fun k hk => ?_⟩
          obtain ⟨k, rfl⟩ : ∃ j, k = j + 1 := ⟨k - 1, by omega⟩
          rw [step, if_pos h2, if_pos h3, if_neg h4]
          exact g3 k (by omega)
      · obtain ⟨I', C', N, g1, g2, g3⟩ := ih (i + 1) (p + 1) (cur.set i 0) (by omega) (hp.put hlt ⟨Or.inl rfl, Or.inl h2o⟩) (by omega)
        refine ⟨I', C', N + 1, g1, g2, fun k hk => ?_⟩
        obtain ⟨k, rfl⟩ : ∃ j, k = j + 1 := ⟨k - 1, by omega⟩
        rw [step, if_pos h2, if_neg h3]
        exact g3 k (by omega)
    · have hrf : Ref (at0 orig i) (at0 cur i) := by
        rw [hcur] at h2 ⊢
        rcases hiv with e | e | e
        · exact ⟨Or.inl e, Or.inr rfl⟩
        · exact ⟨Or.inr e, Or.inr rfl⟩
        · exact absurd e h2
      obtain ⟨I', C', N, g1, g2, g3⟩ := ih (i + 1) p cur (by omega) (hp.keep hrf) (by omega)
      refine ⟨I', C', N + 1, g1, g2, fun k hk => ?_⟩
      obtain ⟨k, rfl⟩ : ∃ j, k = j + 1 := ⟨k - 1, by omega⟩
      rw [step, if_neg h2]
      exact g3 k (by omega)
/-- the trace whose X are bits: it refines the trace -/
theorem filled_f (b : Int) (I : List Int) (F : List (List Int)) (bits : List Bool) (hvI : ∀ x ∈ I, isV x) (hoI : I.length ≤ 1000000) (hv : ∀ l ∈ F, ∀ x ∈ l, isV x) (ho : ∀ l ∈ F, l.length ≤ 1000000) (hF : F.length ≤ 1000000) :
    ∃ I' C' k, RefL I I' ∧ RefLL F C' ∧ inquestlaw07_filled.f k b I F bits = some (b, I', C') := by
  obtain ⟨I', C', N, g1, g2, g3⟩ := filled_l0 bits b I F hvI hoI hv ho hF I.length 0 0 I (by omega) (Part.start I) (by omega)
  refine ⟨I', C', N + F.length + 1, g1, g2, ?_⟩
  unfold inquestlaw07_filled.f
  rw [copy_f b I F hoI hF ho _ (by omega), Option.bind_some]
  exact g3 _ (by omega)
end Go.Proofs.YthpnooookkpkaaaDoor.F
