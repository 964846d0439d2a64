/- Texts of this session for the claim of SimSure: functions of the program as plain Lean functions, that the machine's calls come to them, and plain facts of these. -/
import Derived.Test.YthpnooookkpkaaaDoorMSimSure2
import Derived.Test.YthpnooookkpkaaaDoorMSimSure0
import Derived.Test.YthpnooookkpkaaaDoorMSimSure3
import Derived.WalkKit
import Derived.OwnWalkIn
import Derived.TacticsInMore
import Derived.LoopNIn
import Derived.LoopIn
import Derived.Maps.OwnIn
import Derived.Sort.LoopGhostIn
import Derived.Maps.AppendAt
import Derived.Laws.BitsAllLaws
namespace Go.Proofs.YthpnooookkpkaaaDoor.F
open Go.Shelf Go.RowKit Go.Proofs.YthpnooookkpkaaaDoorW.PrintWords Go.Proofs.YthpnooookkpkaaaDoorW.PrintLast Go.Proofs.YthpnooookkpkaaaDoorW.PrintMore
attribute [local go_sem] Oper.semAt_some

/-- sim.frames: the circuit and the trace are boxed; the function value has the boxes -/
theorem frames_c (c : Circ) (t : Trc) (w : World) : Calls Tryd.prog 62 #[c.val, t.val] w fun e w' =>
    e = .returned (.func (.func 112) #[] #[.pointer (some ⟨w.heap.size + 1, 0, none⟩), .pointer (some ⟨w.heap.size, 0, none⟩)]) ∧ w' = (w.alloc (.cells c.cells 26)).alloc (.cells t.cells 30) := by
  unfold Circ.val Circ.cells Trc.val Trc.cells
  go_enter Tryd.func62, Tryd.ntmps62
  go_wp2_with fail
  go_ret
  exact ⟨rfl, rfl⟩

/-- a frame's values as they come -/
structure Fr where
  i : Nat
  A : Option Addr
  c : Nat
  l : List Int
def Fr.encs (x : Fr) : Array Value := #[.int .i64 x.i, .slice x.A x.l.length x.c]
/-- they can be read; the two boxes lie -/
def Fr.Rd (bc bt : Nat) (c : Circ) (t : Trc) (x : Fr) (m : Nat) (W : World) : Prop :=
  Kd.R (Kd.int .u8) 5 W m (fun k => m ≤ k) (.slice x.A x.l.length x.c) x.l ∧ W.heap[bc]? = some (.cells c.cells 26 (0, 0)) ∧ W.heap[bt]? = some (.cells t.cells 30 (0, 0))
/-- the states and the values of a run, frame by frame -/
def Runs (c : Circ) (I : List Int) (F : List (List Int)) (st vs : Nat → List Int) : Prop :=
  st 0 = I ∧ ∀ i, i < F.length → (∃ k, sim_frame.f k c.n c.L c.G c.O c.B c.K (st i) (F.getD i []) = some (vs i)) ∧ ∃ k, sim_next.f k c.n c.L c.G c.O c.B c.K (vs i) = some (st (i + 1))
def Next (vs : Nat → List Int) (n : Nat) (pre : List Fr) (x : Fr) : Prop := pre.length < n ∧ x.i = pre.length ∧ x.l = vs pre.length
def Come (vs : Nat → List Int) (xs : List Fr) : Prop := ∀ i x, xs[i]? = some x → x.i = i ∧ x.l = vs i
theorem grown_below {w w' : World} (h : Below w.heap.size w w') : w.grownBy w' none := ⟨h.os, h.tape, h.output, h.size, fun k hk _ => h.block k hk⟩
theorem Come.snoc {vs : Nat → List Int} {pre : List Fr} {kk : Nat} (h : pre.length = kk ∧ Come vs pre) (A : Option Addr) (c : Nat) : Come vs (pre ++ [⟨kk, A, c, vs kk⟩]) := by
  intro i x hx
  rw [List.getElem?_append] at hx
  split at hx
  · exact h.2 i x hx
  · have hi0 : i - pre.length = 0 := by
      have := (List.getElem?_eq_some_iff.mp hx).1
      simpa using this
    rw [hi0] at hx
    obtain rfl := Option.some.inj hx
    have : i = kk := by have := h.1; omega
    subst this
    exact ⟨rfl, rfl⟩
set_option maxHeartbeats 1000000 in
theorem frames_iterates (n : Nat) (c : Circ) (t : Trc) (w0 w : World) (hc : c.ok w0) (ht : t.ok w0) (hb : Below w0.heap.size w0 w) (bc bt : Nat) (hbc : w.heap[bc]? = some (.cells c.cells 26 (0, 0))) (hbt : w.heap[bt]? = some (.cells t.cells 30 (0, 0)))
    (st vs : Nat → List Int) (hr : Runs c t.I t.F st vs) :
    Iterates Fence.wide n Tryd.prog 112 #[.pointer (some ⟨bt, 0, none⟩), .pointer (some ⟨bc, 0, none⟩)] Fr.encs (Fr.Rd bc bt c t) (Next vs t.F.length) w0.heap.size (fun xs => xs.length = t.F.length ∧ Come vs xs) (fun pre => pre.length ≤ t.F.length ∧ Come vs pre) w := by
  obtain ⟨tb, A1, c1, tI, A2, c2, tF⟩ := t
  intro l J Jx W hW hJ hJx hY h0
  have HR := Aside0.mk hr
  have HC := Aside0.mk hc
  have HT := Aside0.mk ht
  have HY := Aside0.mk hY
  have HJ := Aside0.mk hJ
  have HJX := Aside0.mk hJx
  have HB0 := Aside0.mk (below_step hb hW)
  have BC0 := Aside0.mk (blk_below hbc hW)
  have BT0 := Aside0.mk (blk_below hbt hW)
  have HJ0 := Aside0.mk h0
  clear hr hc ht hY hJ hJx hb hW hbc hbt h0
  have q1 : W.cell? ⟨bt, 1, none⟩ = some (.slice A1 tI.length c1) := (blk_cell BT0.out 1).trans rfl
  have q2 : W.cell? ⟨bt, 2, none⟩ = some (.slice A2 tF.length c2) := (blk_cell BT0.out 2).trans rfl
  have HM2 := Aside0.mk (Kd.C_max HT.out.r2)
  have HI0 := Aside0.mk HT.out.h1
  refine callsIn_of_wp Tryd.func112 rfl trivial ?_ rfl
  simp only [Tryd.ntmps112, List.size_toArray, List.length_cons, List.length_nil, Nat.reduceAdd, Nat.reduceSub, Array.replicate_succ, Array.replicate_zero, List.push_toArray, List.append_toArray, List.nil_append, List.cons_append]
  gi_wp2
  gi_loopg [4, 13] tF.length (fun gg s4 s13 wr => ∃ (kk : Nat) (As : Option Addr) (cs : Nat) (ls : List Int) (pre : List Fr), kk ≤ tF.length ∧ tF.length - kk ≤ gg ∧ s13 = .int .i64 kk ∧ s4 = .slice As ls.length cs ∧ ls.length ≤ cs ∧ Aside0 (ls = st kk) ∧ Aside0 (pre.length = kk ∧ Come vs pre) ∧ Aside0 (Kd.C (Kd.int .u8) wr As ls.length ls) ∧ Aside0 (J pre wr) ∧ Aside0 (Below w0.heap.size w0 wr) ∧ Aside0 (wr.heap[bc]? = some (.cells c.cells 26 (0, 0))) ∧ Aside0 (wr.heap[bt]? = some (.cells (Trc.cells ⟨tb, A1, c1, tI, A2, c2, tF⟩) 30 (0, 0))))
  case atStart => exact ⟨0, A1, c1, tI, [], by omega, by omega, rfl, rfl, HI0.out, ⟨HR.out.1.symm⟩, ⟨rfl, fun i x h => by simp at h⟩, ⟨Kd.C_below HT.out.r1 HB0.out⟩, HJ0, HB0, BC0, BT0⟩
  case round =>
    clear q1 q2 HJ0 HB0 BC0 BT0
    obtain ⟨kk, As, cs, ls, pre, hkk, hgg, rfl, rfl, hlc, HS, HP, HCS, HJP, HB, BC, BT⟩ := hrel
    by_cases hlt : kk < tF.length
    · have hltz : (kk : Int) < (tF.length : Int) := by omega
      obtain ⟨ad, Ai, ci, rfl, hi, hli, HCi⟩ := at_L4 (Kd.C_below HT.out.r2 HB.out) (kk : Int) (by omega) (by omega)
      rw [Int.toNat_natCast] at hi
      have p0 : wr.cell? ⟨bc, 0, none⟩ = some (.int .i64 c.n) := (blk_cell BC.out 0).trans rfl
      have p1 : wr.cell? ⟨bc, 1, none⟩ = some (.slice c.A1 c.L.length c.c1) := (blk_cell BC.out 1).trans rfl
      have p2 : wr.cell? ⟨bc, 2, none⟩ = some (.slice c.A2 c.G.length c.c2) := (blk_cell BC.out 2).trans rfl
      have p3 : wr.cell? ⟨bc, 3, none⟩ = some (.slice c.A3 c.O.length c.c3) := (blk_cell BC.out 3).trans rfl
      have p4 : wr.cell? ⟨bc, 4, none⟩ = some (.slice c.A4 c.B.length c.c4) := (blk_cell BC.out 4).trans rfl
      have p5 : wr.cell? ⟨bc, 5, none⟩ = some (.slice c.A5 c.K.length c.c5) := (blk_cell BC.out 5).trans rfl
      have hcr := HC.out.below HB.out
      obtain ⟨⟨kf, hkf⟩, ⟨kn, hkn⟩⟩ := HR.out.2 kk hlt
      have hrd : tF.getD kk [] = rd_L4 tF (kk : Int) := by unfold rd_L4; rw [Int.toNat_natCast]
      rw [hrd, ← HS.out] at hkf
      have HF := Aside0.mk (sim_frame.calls kf c.n c.A1 c.c1 c.L c.A2 c.c2 c.G c.A3 c.c3 c.O c.A4 c.c4 c.B c.A5 c.c5 c.K _ As cs ls _ Ai ci (rd_L4 tF (kk : Int)) (vs kk) wr hcr.r1 hcr.h1 hcr.r2 hcr.h2 hcr.r3 hcr.h3 hcr.r4 hcr.h4 hcr.r5 hcr.h5
        (Kd.V_mk hlc (Kd.C_F (Kd.heap_int _) HCS.out)) (Kd.V_mk hli (Kd.C_F (Kd.heap_int _) HCi)) hkf)
      have HKN := Aside0.mk hkn
      clear hkf hkn hcr hrd HCi
      gi_wp2_with fail
      refine ⟨trivial, (fun h => by cases h), (callsIn_wide.2 HF.out).mono ?_⟩
      rintro e w1 ⟨v, rfl, hv, hb1⟩
      obtain ⟨Av, cv, rfl, hlv, hCv⟩ := Kd.R_reads hv
      have HV := Aside0.mk hv
      have HB01 := Aside0.mk hb1
      have HB1 := Aside0.mk (below_step HB.out hb1)
      have BC1 := Aside0.mk (blk_below BC.out hb1)
      have BT1 := Aside0.mk (blk_below BT.out hb1)
      have HLV := Aside0.mk hlv
      clear hv hb1 hCv hlv p0 p1 p2 p3 p4 p5 HF HB HCS
      obtain ⟨fn, tmps, assign, body, hy, hR⟩ := HY.out pre ⟨kk, Av, cv, vs kk⟩ wr w1 ⟨by rw [HP.out.1]; exact hlt, HP.out.1.symm, by rw [HP.out.1]⟩ HJP.out HB01.out ⟨HV.out, BC1.out, BT1.out⟩
      dsimp only [Fr.encs] at hy
      gi_wp2
      refine ⟨(fun h => by cases h), hR.mono ?_⟩
      rintro e w3 (⟨rfl, hJ3, hb3, hx3⟩ | ⟨rfl, hJx3⟩)
      · obtain ⟨hx3, hbc3, hbt3⟩ := hx3
        obtain ⟨hn3, hl3, hC3⟩ := Kd.R_reads' hx3
        have HB3 := Aside0.mk (HB1.out.trans hb3)
        have BC3 := Aside0.mk hbc3
        have BT3 := Aside0.mk hbt3
        have HJ3 := Aside0.mk hJ3
        have p0 : w3.cell? ⟨bc, 0, none⟩ = some (.int .i64 c.n) := (blk_cell BC3.out 0).trans rfl
        have p1 : w3.cell? ⟨bc, 1, none⟩ = some (.slice c.A1 c.L.length c.c1) := (blk_cell BC3.out 1).trans rfl
        have p2 : w3.cell? ⟨bc, 2, none⟩ = some (.slice c.A2 c.G.length c.c2) := (blk_cell BC3.out 2).trans rfl
        have p3 : w3.cell? ⟨bc, 3, none⟩ = some (.slice c.A3 c.O.length c.c3) := (blk_cell BC3.out 3).trans rfl
        have p4 : w3.cell? ⟨bc, 4, none⟩ = some (.slice c.A4 c.B.length c.c4) := (blk_cell BC3.out 4).trans rfl
        have p5 : w3.cell? ⟨bc, 5, none⟩ = some (.slice c.A5 c.K.length c.c5) := (blk_cell BC3.out 5).trans rfl
        have hcr := HC.out.below HB3.out
        have HN := Aside0.mk (sim_next.calls kn c.n c.A1 c.c1 c.L c.A2 c.c2 c.G c.A3 c.c3 c.O c.A4 c.c4 c.B c.A5 c.c5 c.K Av cv (vs kk) (st (kk + 1)) w3 hcr.r1 hcr.h1 hcr.r2 hcr.h2 hcr.r3 hcr.h3 hcr.r4 hcr.h4 hcr.r5 hcr.h5 hC3 hl3 HKN.out)
        clear hJ3 hb3 hx3 hbc3 hbt3 hn3 hC3 hcr hy hR
        gi_wp2
        refine ⟨trivial, (fun h => by cases h), (callsIn_wide.2 HN.out).mono ?_⟩
        rintro e w4 ⟨v4, rfl, hv4, hb4⟩
        obtain ⟨A4, c4, rfl, hl4, hC4⟩ := Kd.R_reads hv4
        have HB4 := Aside0.mk (below_step HB3.out hb4)
        have BC4 := Aside0.mk (blk_below BC3.out hb4)
        have BT4 := Aside0.mk (blk_below BT3.out hb4)
        have HJ4 := Aside0.mk (HJ.out _ w3 w4 none HJ3.out (grown_below hb4) (fun r e => by cases e))
        have HC4 := Aside0.mk hC4
        clear hv4 hb4 hC4 p0 p1 p2 p3 p4 p5 HN
        gi_wp2
        have hm2 := HM2.out
        gi_roundg (tF.length - (kk + 1))
        case measure => omega
        case rel =>
          exact ⟨kk + 1, A4, c4, st (kk + 1), pre ++ [⟨kk, Av, cv, vs kk⟩], by omega, by omega, (by congr 1; unfold wrap64; omega), rfl, hl4, ⟨rfl⟩, ⟨by simp [HP.out.1], Come.snoc HP.out _ _⟩, HC4, HJ4, HB4, BC4, BT4⟩
      · gi_wp2
        refine bodyPost_ret (results_none rfl _ _ _) rfl ?_
        exact ⟨⟨_, rfl⟩, .inr ⟨_, ⟨by have := HP.out.1; simp; omega, Come.snoc HP.out _ _⟩, hJx3⟩⟩
    · have hkk' : kk = tF.length := by omega
      have hltz : ¬ (kk : Int) < (tF.length : Int) := by omega
      gi_wp2
      go_end0
      exact ⟨⟨_, rfl⟩, .inl ⟨pre, ⟨by rw [HP.out.1, hkk'], HP.out.2⟩, HJP.out⟩⟩
end Go.Proofs.YthpnooookkpkaaaDoor.F
namespace Go.Proofs.YthpnooookkpkaaaDoor.F
open Go.Shelf Go.RowKit Go.Maps Go.Proofs.YthpnooookkpkaaaDoorW.PrintWords Go.Proofs.YthpnooookkpkaaaDoorW.PrintLast Go.Proofs.YthpnooookkpkaaaDoorW.PrintMore
attribute [local go_sem] Oper.semAt_some

theorem S_rest {α : Type} {d : Kd α} {e base : Nat} {ok : Nat → Prop} {v : Value} {xs : List α} {W W' : World} {row : Option Nat} (h : Kd.S d e W base ok v xs) (hg : W.grownBy W' row) (hr : ∀ r, row = some r → ∃ o : Obj, W.heap[r]? = some o ∧ o.isCells = false) : Kd.S d e W' base ok v xs :=
  Kd.S_mono (Kd.S_step (Kd.S_bound h) (fun k hk hlt => hg.block k hlt (fun e => by
    obtain ⟨o, h1, h2⟩ := hr k e.symm
    obtain ⟨_, _, _, q, _, cells, hc⟩ := hk
    rw [hc] at h1
    obtain rfl := Option.some.inj h1
    exact Bool.noConfusion h2))) (fun _ hk => hk.1)
theorem R_rest {α : Type} {d : Kd α} {e base : Nat} {ok : Nat → Prop} {v : Value} {xs : List α} {W W' : World} {row : Option Nat} (h : d.R e W base ok v xs) (hg : W.grownBy W' row) (hr : ∀ r, row = some r → ∃ o : Obj, W.heap[r]? = some o ∧ o.isCells = false) : d.R e W' base ok v xs :=
  Kd.R_mono (Kd.R_step (Kd.R_bound h) (fun k hk hlt => hg.block k hlt (fun e => by
    obtain ⟨o, h1, h2⟩ := hr k e.symm
    obtain ⟨_, _, _, q, _, cells, hc⟩ := hk
    rw [hc] at h1
    obtain rfl := Option.some.inj h1
    exact Bool.noConfusion h2))) (fun _ hk => hk.1)
theorem blk_rest {W W' : World} {row : Option Nat} {k : Nat} {cs : Array Value} {e : Nat} (h : W.heap[k]? = some (.cells cs e (0, 0))) (hg : W.grownBy W' row) (hr : ∀ r, row = some r → ∃ o : Obj, W.heap[r]? = some o ∧ o.isCells = false) : W'.heap[k]? = some (.cells cs e (0, 0)) :=
  (hg.block k (Array.getElem?_eq_some_iff.1 h).1 (fun e => by
    obtain ⟨o, h1, h2⟩ := hr k e.symm
    rw [h] at h1
    obtain rfl := Option.some.inj h1
    exact Bool.noConfusion h2)).trans h
/-- what is no cells stays where only rows of cells turn -/
theorem keeps_row {D : Nat} {W W' : World} {row : Option Nat} (hg : W.grownBy W' row) (hr : ∀ r, row = some r → ∃ cs e, W.heap[r]? = some (.cells cs e (0, 0))) : KeepsFrom D W W' :=
  ⟨hg.size, fun k o _ hk ho => (hg.block k (Array.getElem?_eq_some_iff.1 hk).1 (fun e => by
    obtain ⟨cs, q, h1⟩ := hr k e.symm
    rw [hk] at h1
    obtain rfl := Option.some.inj h1
    exact Bool.noConfusion ho)).trans hk⟩
/-- the rows that come are such -/
theorem Fr.Rd_own (B bc bt : Nat) (c : Circ) (t : Trc) (m : Nat) : OwnFrom B (fun x => Fr.Rd bc bt c t x m) := fun _ _ _ _ h hg hr =>
  ⟨R_rest h.1 hg (fun r e => (hr r e).2), blk_rest h.2.1 hg (fun r e => (hr r e).2), blk_rest h.2.2 hg (fun r e => (hr r e).2)⟩
/-- append(v, row) in a round -/
theorem append_in {F : Fence} {n : Nat} {ops : Array Oper} {rest : List Oper} {o : Oper} {a : Act} {Q : Exit → Act → World → Prop} {W : World} (base : Nat) (hgd : o.guard = none) (s x : Operand)
    (ho : o.op = .call { callee := .builtin .append, args := #[s, x], argTypes := #[28, 28] }) (v vx : Value) (xs : List (List Int)) (p : List Int) (okp : Nat → Prop) (hs : a.eval s = v) (hx : a.eval x = .slice (some ⟨W.heap.size, 0, none⟩) 1 1)
    (hp : Kd.R (Kd.int .u8) 5 W base okp vx p) (hokp : ∀ k, okp k → some k ≠ v.ownBlock) (HO : Kd.S (Kd.slice 5 (Kd.int .u8)) 27 W base (fun k => ¬ okp k) v xs) (hbase : base ≤ W.heap.size) (hl : (xs.length + 1) * 24 ≤ 140737488355328)
    (h : ∀ v1 w1, Kd.S (Kd.slice 5 (Kd.int .u8)) 27 w1 base (fun _ => True) v1 (xs ++ [p]) → W.grownBy w1 v.ownBlock → wpListIn F n Tryd.prog ops Q rest (a.put o.dst v1) w1) :
    wpListIn F n Tryd.prog ops Q (o :: rest) a (W.alloc (.cells #[vx] 27)) := by
  obtain ⟨f, hf, hR⟩ := Kd.S_tag (okv := fun k => True ∧ ¬ okp k) (Kd.S_mono HO (fun k hk => ⟨trivial, hk⟩)) xs.length okp (fun _ hk h2 => h2.2 hk)
  obtain ⟨h0, inner, hown, hr⟩ := Kd.R_mono (ok' := fun _ => True) hR (fun _ hk => hk.1)
  obtain ⟨i0, hi, hzz⟩ := Option.map_eq_some_iff.1 info27
  simp only [Prod.mk.injEq] at hzz
  obtain ⟨hz0, hz1, hz2⟩ := hzz
  rw [List.length_zipIdx] at hown
  refine wpListIn_append_own_at (W.alloc (.cells #[vx] 27)) hgd s x 28 ho base 27 i0 _ 1 24 Tryd.underlying28 hi hz0 hz1 hz2 rfl (by decide) v xs.length inner hs (hown.alloc _) ⟨W.heap.size, 0, none⟩ 1 1 [vx] hx rfl
    (by simpa using World.news_of_block (cs := #[vx]) (t := 27) (fr := (0, 0)) (heap_alloc_new W (.cells #[vx] 27))) (fun u hu => ?_) (by simp only [maxLen]; omega) hl (by simp; omega) ?_
  · rw [List.mem_singleton.1 hu]
    obtain ⟨A, c, rfl⟩ := Kd.R_slice hp
    rfl
  · intro v1 w1 hown1 hg _ hat
    have hg1 := World.grownBy.trans (World.grownBy_alloc W _ _) hg
    refine h v1 w1 ⟨f, ?_⟩ hg1
    rw [Kd.zip_snoc]
    refine Kd.R_appended (d := Kd.tag f (Kd.slice 5 (Kd.int .u8))) (okp := okp) (cs := [vx]) h0 hr ?_ (fun k hk => ⟨trivial, hokp k hk⟩) (fun _ _ => trivial) (by rw [List.length_zipIdx]; exact hown1) hg1 (by
      rcases hat with hat | hat
      · exact .inl hat
      · exact .inr ⟨_, hat, by simp⟩)
    exact ⟨vx, rfl, Kd.R_mono hp (fun k hk => ⟨hk, hf k hk⟩)⟩
theorem blks2 (w : World) (o1 o2 : Obj) : ((w.alloc o1).alloc o2).heap[w.heap.size]? = some o1 ∧ ((w.alloc o1).alloc o2).heap[w.heap.size + 1]? = some o2 := by
  refine ⟨blk_alloc (blk_new w o1) o2, ?_⟩
  have h := blk_new (w.alloc o1) o2
  rwa [World.size_alloc] at h
theorem blks3 (w : World) (o1 o2 o3 : Obj) : (((w.alloc o1).alloc o2).alloc o3).heap[w.heap.size]? = some o1 ∧ (((w.alloc o1).alloc o2).alloc o3).heap[w.heap.size + 1]? = some o2 ∧ (((w.alloc o1).alloc o2).alloc o3).heap[w.heap.size + 1 + 1]? = some o3 := by
  obtain ⟨h1, h2⟩ := blks2 w o1 o2
  refine ⟨blk_alloc h1 o3, blk_alloc h2 o3, ?_⟩
  have h := blk_new ((w.alloc o1).alloc o2) o3
  rwa [World.size_alloc, World.size_alloc] at h
theorem come_map {vs : Nat → List Int} {xs : List Fr} {n : Nat} (hl : xs.length = n) (h : Come vs xs) : xs.map Fr.l = (List.range n).map vs := by
  refine List.ext_getElem (by simp [hl]) (fun i h1 h2 => ?_)
  simp only [List.length_map] at h1
  simp only [List.getElem_map, List.getElem_range]
  exact (h i _ (List.getElem?_eq_getElem h1)).2
set_option maxHeartbeats 2000000 in
/-- sim.Run of a trace that fits -/
theorem Run_fit (c : Circ) (t : Trc) (w : World) (hwf : c.wf) (hc : c.ok w) (ht : t.ok w) (hf : fitsB c t = true) (hlen : t.F.length ≤ 256) (st vs : Nat → List Int) (hr : Runs c t.I t.F st vs) :
    Calls Tryd.prog 19 #[c.val, t.val] w fun e w' => ∃ v, e = .returned (.tuple #[v, .int .i64 0]) ∧ Kd.S (Kd.slice 5 (Kd.int .u8)) 27 w' w.heap.size (fun _ => True) v ((List.range t.F.length).map vs) ∧ Below w.heap.size w w' := by
  have HF := Aside0.mk (fun W (hb : Below w.heap.size w W) => Fits_c c t W hwf (hc.below hb) (ht.below hb))
  have HC := Aside0.mk hc
  have HT := Aside0.mk ht
  have HR := Aside0.mk hr
  rw [hf] at HF
  clear hwf hc ht hr hf
  have HFR := Aside0.mk (fun W => frames_c c t W)
  unfold Circ.val Circ.cells Trc.val Trc.cells at HF HFR ⊢
  refine (callsIn_wide (n := 3)).1 ?_
  refine callsIn_of_wp_marks Tryd.func19 rfl trivial ?_ rfl
  simp only [Tryd.ntmps19, List.size_toArray, List.length_cons, List.length_nil, Nat.reduceAdd, Nat.reduceSub, Array.replicate_succ, Array.replicate_zero, List.push_toArray, List.append_toArray, List.nil_append, List.cons_append]
  gi_wp2_with fail
  refine ⟨trivial, (callsIn_wide.2 (HF.out _ (below_alloc (below_alloc (below_alloc (Below.refl _ _) _) _) _))).mono ?_⟩
  rintro e w1 ⟨rfl, hb1⟩
  obtain ⟨k2, k3, k4⟩ := blks3 w (.cells #[.int .i64 c.n, .slice c.A1 c.L.length c.c1, .slice c.A2 c.G.length c.c2, .slice c.A3 c.O.length c.c3, .slice c.A4 c.B.length c.c4, .slice c.A5 c.K.length c.c5] 26) (.cells #[.int .i64 t.bad, .slice t.A1 t.I.length t.c1, .slice t.A2 t.F.length t.c2] 30) (.cells #[.slice none 0 0] 28)
  have K2 := Aside0.mk (blk_below k2 hb1)
  have K3 := Aside0.mk (blk_below k3 hb1)
  have K4 := Aside0.mk (blk_below k4 hb1)
  have HB1 := Aside0.mk (below_step (below_alloc (below_alloc (below_alloc (Below.refl _ w) _) _) _) hb1)
  clear hb1 k2 k3 k4 HF
  have p0 : w1.cell? ⟨w.heap.size, 0, none⟩ = some (.int .i64 c.n) := (blk_cell K2.out 0).trans rfl
  have p1 : w1.cell? ⟨w.heap.size, 1, none⟩ = some (.slice c.A1 c.L.length c.c1) := (blk_cell K2.out 1).trans rfl
  have p2 : w1.cell? ⟨w.heap.size, 2, none⟩ = some (.slice c.A2 c.G.length c.c2) := (blk_cell K2.out 2).trans rfl
  have p3 : w1.cell? ⟨w.heap.size, 3, none⟩ = some (.slice c.A3 c.O.length c.c3) := (blk_cell K2.out 3).trans rfl
  have p4 : w1.cell? ⟨w.heap.size, 4, none⟩ = some (.slice c.A4 c.B.length c.c4) := (blk_cell K2.out 4).trans rfl
  have p5 : w1.cell? ⟨w.heap.size, 5, none⟩ = some (.slice c.A5 c.K.length c.c5) := (blk_cell K2.out 5).trans rfl
  have q0 : w1.cell? ⟨w.heap.size + 1, 0, none⟩ = some (.int .i64 t.bad) := (blk_cell K3.out 0).trans rfl
  have q1 : w1.cell? ⟨w.heap.size + 1, 1, none⟩ = some (.slice t.A1 t.I.length t.c1) := (blk_cell K3.out 1).trans rfl
  have q2 : w1.cell? ⟨w.heap.size + 1, 2, none⟩ = some (.slice t.A2 t.F.length t.c2) := (blk_cell K3.out 2).trans rfl
  gi_wp2_with fail
  refine ⟨trivial, (callsIn_wide.2 (HFR.out _)).mono ?_⟩
  rintro e w2 ⟨rfl, hw2⟩
  clear p0 p1 p2 p3 p4 p5 q0 q1 q2 HFR
  obtain ⟨kc, kt⟩ := blks2 w1 (.cells #[.int .i64 c.n, .slice c.A1 c.L.length c.c1, .slice c.A2 c.G.length c.c2, .slice c.A3 c.O.length c.c3, .slice c.A4 c.B.length c.c4, .slice c.A5 c.K.length c.c5] 26) (.cells #[.int .i64 t.bad, .slice t.A1 t.I.length t.c1, .slice t.A2 t.F.length t.c2] 30)
  have hb2 : Below w1.heap.size w1 w2 := by rw [hw2]; exact below_alloc (below_alloc (Below.refl _ _) _) _
  rw [← hw2] at kc kt
  have KC := Aside0.mk kc
  have KT := Aside0.mk kt
  have L4 := Aside0.mk (blk_below K4.out hb2)
  have HB2 := Aside0.mk (below_step HB1.out hb2)
  have HLT := Aside0.mk (show w.heap.size + 1 + 1 < w1.heap.size from blk_lt K4.out)
  clear kc kt hb2 hw2 K2 K3 K4
  gi_wp2_with fail
  refine wpIn_over (gf := 112) (lb := #[.pointer (some ⟨w1.heap.size + 1, 0, none⟩), .pointer (some ⟨w1.heap.size, 0, none⟩)]) rfl (by decide) rfl trivial (enters_of Tryd.func112 (by kernel_rfl) rfl)
    (frames_iterates 2 c t w w2 HC.out HT.out HB2.out w1.heap.size (w1.heap.size + 1) KC.out KT.out st vs HR.out) HB2.out.size (Below.refl _ _) (fun _ => rfl) (fun m => Fr.Rd_own _ _ _ _ _ m)
    (fun pre W => (∃ v, W.heap[w.heap.size + 1 + 1]? = some (.cells #[v] 28 (0, 0)) ∧ Kd.S (Kd.slice 5 (Kd.int .u8)) 27 W w.heap.size (fun _ => True) v (pre.map Fr.l)) ∧ Below w.heap.size w W)
    (fun _ _ _ => False) ?own (fun _ _ _ _ _ h _ _ => h) ⟨⟨_, L4.out, Kd.S_nil _ _ _ _ _⟩, HB2.out⟩
    (fun x => { tmps := #[.agg #[.int .i64 c.n, .slice c.A1 c.L.length c.c1, .slice c.A2 c.G.length c.c2, .slice c.A3 c.O.length c.c3, .slice c.A4 c.B.length c.c4, .slice c.A5 c.K.length c.c5], .agg #[.int .i64 t.bad, .slice t.A1 t.I.length t.c1, .slice t.A2 t.F.length t.c2], .pointer (some ⟨w.heap.size, 0, none⟩), .pointer (some ⟨w.heap.size + 1, 0, none⟩), .pointer (some ⟨w.heap.size + 1 + 1, 0, none⟩), .int .i64 0, undef, .slice x.A x.l.length x.c, .agg #[.int .i64 c.n, .slice c.A1 c.L.length c.c1, .slice c.A2 c.G.length c.c2, .slice c.A3 c.O.length c.c3, .slice c.A4 c.B.length c.c4, .slice c.A5 c.K.length c.c5], .agg #[.int .i64 t.bad, .slice t.A1 t.I.length t.c1, .slice t.A2 t.F.length t.c2], .bool true, .bool false, .agg #[.int .i64 c.n, .slice c.A1 c.L.length c.c1, .slice c.A2 c.G.length c.c2, .slice c.A3 c.O.length c.c3, .slice c.A4 c.B.length c.c4, .slice c.A5 c.K.length c.c5], .agg #[.int .i64 t.bad, .slice t.A1 t.I.length t.c1, .slice t.A2 t.F.length t.c2], .func (.func 112) #[] #[.pointer (some ⟨w1.heap.size + 1, 0, none⟩), .pointer (some ⟨w1.heap.size, 0, none⟩)], .int .i64 x.i, .slice x.A x.l.length x.c, undef, undef, undef, undef, undef], defers := [] }) ?assign ?body ?done ?stop
  case own =>
    rintro pre W W' row ⟨⟨v, h1, h2⟩, h3⟩ hg hr
    exact ⟨⟨v, blk_rest h1 hg (fun r e => (hr r e).2), S_rest h2 hg (fun r e => (hr r e).2)⟩, h3.grown hg h3.size (fun k e => Nat.le_trans HB2.out.size (hr k e).1)⟩
  case assign =>
    intro l x W K hK
    dsimp only [Fr.encs]
    gi_wp2
    exact hK
  case body =>
    rintro l pre x W0 W ⟨hn, -, -⟩ ⟨⟨v, hb4, hS⟩, hB⟩ hW ⟨hx, hbc, hbt⟩
    have hS2 := Kd.S_below (Kd.S_mono (ok' := fun k => ¬ W0.heap.size ≤ k) (Kd.S_bound hS) (fun k hk h => absurd hk.2.2.1 (Nat.not_lt.2 h))) hW
    have h4 := blk_from hW hb4
    have hvb : ∀ k, v.ownBlock = some k → k < W0.heap.size := fun k hk => by
      obtain ⟨inner, ho⟩ := Kd.S_own hS
      exact own_lt ho k hk
    obtain ⟨A', c', rfl⟩ := Kd.R_slice (Kd.S_R hS)
    have hc4 : W.cell? ⟨w.heap.size + 1 + 1, 0, none⟩ = some (.slice A' (pre.map Fr.l).length c') := (blk_cell h4 0).trans rfl
    have hf4 : W.frozen? ⟨w.heap.size + 1 + 1, 0, none⟩ = false := blk_frozen h4 0
    have hlen2 : ((pre.map Fr.l).length + 1) * 24 ≤ 140737488355328 := by rw [List.length_map]; omega
    rw [List.length_map] at hc4 hS2 hvb h4
    have HX := Aside0.mk hx
    have HS2 := Aside0.mk hS2
    have HVB := Aside0.mk hvb
    have HW := Aside0.mk hW
    have HBB := Aside0.mk hB
    have H4 := Aside0.mk h4
    have HBC := Aside0.mk hbc
    have HBT := Aside0.mk hbt
    clear hS hS2 hb4 hW hB hx hvb h4 hbc hbt
    gi_wp2_with (gi_at_builtin; refine append_in w.heap.size rfl _ _ rfl (.slice A' pre.length c') (.slice x.A x.l.length x.c) (pre.map Fr.l) x.l (fun k => W0.heap.size ≤ k) rfl rfl (Kd.R_lower HX.out HBB.out.size) (fun k hk e => absurd (HVB.out k e.symm) (Nat.not_lt.2 hk)) HS2.out (Nat.le_trans HBB.out.size HW.out.size) hlen2 ?_; intro v1 w3 hS3 hg3; obtain ⟨A3, c3, rfl⟩ := Kd.R_slice (Kd.S_R hS3); have h43 := blk_grown H4.out hg3 (Kd.S_ne HS2.out H4.out (by decide)); have hc43 : w3.cell? ⟨w.heap.size + 1 + 1, 0, none⟩ = some (.slice A' pre.length c') := (blk_cell h43 0).trans rfl; have hf43 : w3.frozen? ⟨w.heap.size + 1 + 1, 0, none⟩ = false := blk_frozen h43 0; have H43 := Aside0.mk h43; have HS3 := Aside0.mk hS3; have HG3 := Aside0.mk hg3; clear h43 hS3 hg3)
    have hrow : ∀ k, (Value.slice A' pre.length c').ownBlock = some k → w.heap.size ≤ k ∧ ∃ cs e, W.heap[k]? = some (.cells cs e (0, 0)) := fun k hk => by
      obtain ⟨inner, ho⟩ := Kd.S_own HS2.out
      obtain ⟨cs, h⟩ := own_typed ho k hk
      exact ⟨own_base ho k hk, cs, 27, h⟩
    have hbW := (below_step HBB.out HW.out)
    have hb3 : Below w.heap.size W w3 := (Below.refl _ _).grown HG3.out hbW.size (fun k e => (hrow k e).1)
    refine ⟨(keeps_row HG3.out (fun r e => (hrow r e).2)).trans ((KeepsOthers.setCell _ _ _).from _), hb3.setCell (p := ⟨w.heap.size + 1 + 1, 0, none⟩) (by simp; omega) _, ⟨?_, ?_, ?_⟩, ⟨_, blk_set H43.out 0 _, ?_⟩, (hbW.trans hb3).setCell (p := ⟨w.heap.size + 1 + 1, 0, none⟩) (by simp; omega) _⟩
    · exact Kd.R_set (Kd.R_grown HX.out HG3.out (fun k hk e => absurd (HVB.out k e.symm) (Nat.not_lt.2 hk))) H43.out (by decide) 0 _
    · exact blk_far (blk_grown HBC.out HG3.out (Kd.S_ne HS2.out HBC.out (by decide))) (by have := HLT.out; simp; omega) _
    · exact blk_far (blk_grown HBT.out HG3.out (Kd.S_ne HS2.out HBT.out (by decide))) (by have := HLT.out; simp; omega) _
    · have h := Kd.S_set HS3.out H43.out (by decide) 0 (.slice A3 (pre.map Fr.l ++ [x.l]).length c3)
      rw [List.map_append]
      simpa using h
  case done =>
    rintro D xs W hD ⟨hxl, hcome⟩ ⟨⟨v, hb4, hS⟩, hB⟩ hK
    obtain ⟨A', c', rfl⟩ := Kd.R_slice (Kd.S_R hS)
    have hc4 : W.cell? ⟨w.heap.size + 1 + 1, 0, none⟩ = some (.slice A' (xs.map Fr.l).length c') := (blk_cell hb4 0).trans rfl
    have hf4 : W.frozen? ⟨w.heap.size + 1 + 1, 0, none⟩ = false := blk_frozen hb4 0
    have HXS := Aside0.mk (come_map hxl hcome)
    have HS := Aside0.mk hS
    have HBW := Aside0.mk hB
    have HK := Aside0.mk hK
    have HB4 := Aside0.mk hb4
    have HD := Aside0.mk hD
    clear hS hB hK hb4 hD hxl hcome
    gi_wp2
    have hb4 := blk_set HB4.out 0 (.slice A' xs.length c')
    have hK := (KeepsOthers.setCell W ⟨w.heap.size + 1 + 1, 0, none⟩ (.slice A' xs.length c')).same D _ HK.out rfl
    have hD4 : w.heap.size + 1 + 1 ≠ D := by
      have h1 := blk_lt L4.out
      have := HD.out
      omega
    have hc5 : ((W.setCell ⟨w.heap.size + 1 + 1, 0, none⟩ (.slice A' xs.length c')).putObj D (.deferred none)).cell? ⟨w.heap.size + 1 + 1, 0, none⟩ = some (.slice A' xs.length c') := (blk_cell ((World.putObj_heap_other hD4).trans hb4) 0).trans rfl
    refine ⟨by simp, .inl ⟨_, _, rfl, run_takeDeferred hK, ?_⟩⟩
    refine ⟨.tuple #[.slice A' xs.length c', .int .i64 0], by simp [results, Tryd.results19, go_sem, hc5], _, rfl, ?_, ?_⟩
    · rw [← HXS.out]
      have h := Kd.S_set HS.out HB4.out (by decide) 0 (.slice A' xs.length c')
      have h2 := S_rest h (grownBy_putObj' _ D (.deferred none)) (fun r e => by cases e; exact ⟨_, hK, rfl⟩)
      simpa using h2
    · exact ((HBW.out.setCell (p := ⟨w.heap.size + 1 + 1, 0, none⟩) (by simp; omega) _).trans (belowK_b (w := w) (Nat.le_refl _) _ D _ _ (by have := HD.out; have := HB2.out.size; omega) hK rfl rfl))
  case stop =>
    rintro D id pre W _ _ h _
    exact h.elim
end Go.Proofs.YthpnooookkpkaaaDoor.F
/-! The printed functions of a frame, in plain words. -/
namespace Go.Proofs.YthpnooookkpkaaaDoor.F
open Go.RowKit Go.Proofs.YthpnooookkpkaaaDoorW.PrintWords
theorem not1_f {v : Int} (h : isV v) : tern_Not1.f v = some (not1 v) := by rcases h with rfl | rfl | rfl <;> decide
theorem and1_f {a b : Int} (ha : isV a) (hb : isV b) (k : Nat) : tern_And1.f (k + 1) a b = some (and1 a b) := by
  rcases ha with rfl | rfl | rfl <;> rcases hb with rfl | rfl | rfl <;> simp [tern_And1.f, tern_And1.j0, and1] <;> decide
theorem isV_not1 {v : Int} (h : isV v) : isV (not1 v) := by rcases h with rfl | rfl | rfl <;> simp [isV, not1]
theorem isV_and1 (a b : Int) : isV (and1 a b) := by
  unfold and1 isV
  split
  · exact .inl rfl
  · split
    · exact .inr (.inl rfl)
    · exact .inr (.inr rfl)
theorem isV_at {l : List Int} (h : ∀ x ∈ l, isV x) (i : Nat) : isV (at0 l i) := by
  unfold at0
  rw [List.getD_eq_getElem?_getD]
  rcases Nat.lt_or_ge i l.length with hi | hi
  · rw [List.getElem?_eq_getElem hi]; exact h _ (List.getElem_mem hi)
  · rw [List.getElem?_eq_none hi]; exact .inl rfl
theorem isV_val {l : List Int} (h : ∀ x ∈ l, isV x) (lit : Int) : isV (val l lit) := by
  unfold val
  split
  · exact .inr (.inr rfl)
  · split
    · exact isV_not1 (isV_at h _)
    · exact isV_at h _
theorem isV_le {v : Int} (h : isV v) : ¬ v > 2 := by rcases h with rfl | rfl | rfl <;> decide
theorem odd_u32 {x : Int} (h0 : 0 ≤ x) (h1 : x < 4294967296) : Go.bits .and .u32 x 1 = x % 2 := by
  rw [u32_and x 1 h0 h1 (by decide) (by decide)]
  have : (1 : Int).toNat = 1 := rfl
  rw [this, Nat.and_one_is_mod]
  omega
theorem val_f {l : List Int} (hl : ∀ x ∈ l, isV x) {lit : Int} (h0 : 0 ≤ lit) (h1 : lit < 4294967296) (k : Nat) : sim_Value.f (k + 1) l lit = some (val l lit) := by
  have hw : wrap64 (lit / 2) = lit / 2 := by unfold wrap64; omega
  have hv := isV_at hl (lit / 2).toNat
  have hrd : rd l (lit / 2) = at0 l (lit / 2).toNat := rfl
  unfold sim_Value.f val
  rw [hw]
  by_cases hge : lit / 2 ≥ (l.length : Int)
  · rw [if_pos hge, if_pos (.inl (by omega))]
    simp [sim_Value.j0]
  · have hlt : ¬ (l.length ≤ (lit / 2).toNat ∨ at0 l (lit / 2).toNat > 2) := fun h => h.elim (by omega) (isV_le hv)
    rw [if_neg hge, if_pos (by omega), if_pos (by omega), if_neg hlt, hrd, decide_eq_false (isV_le hv)]
    simp only [sim_Value.j0]
    rw [odd_u32 h0 h1, hrd, not1_f hv]
    by_cases ho : lit % 2 = 1
    · rw [if_neg (by decide), if_pos (by omega), if_pos (by omega), if_pos (by omega), if_pos ho]
      rfl
    · rw [if_neg (by decide), if_neg (by omega), if_pos (by omega), if_pos (by omega), if_neg ho]
def u32 (x : Int) : Prop := 0 ≤ x ∧ x < 4294967296
theorem isV_gates (gs : List S84) : ∀ vars : List Int, (∀ x ∈ vars, isV x) → ∀ x ∈ gatesF vars gs, isV x := by
  induction gs with
  | nil => intro vars h; exact h
  | cons g gs ih =>
    intro vars h
    refine ih _ (fun x hx => ?_)
    rcases List.mem_append.1 hx with hx | hx
    · exact h x hx
    · rw [List.mem_singleton.1 hx]; exact isV_and1 _ _
theorem frame_l0 (G : List S84) (hGl : G.length ≤ 100000000) (hG : ∀ g ∈ G, u32 g.f0 ∧ u32 g.f1) : ∀ (m i : Nat) (x7 : List Int), i + m = G.length → (∀ x ∈ x7, isV x) → x7.length + m ≤ 1000000000 →
    sim_frame.l0 (m + 2) x7 G (G.length : Int) (i : Int) = some (gatesF x7 (G.drop i)) := by
  intro m
  induction m with
  | zero =>
    intro i x7 hi _ _
    unfold sim_frame.l0
    rw [if_neg (by omega), List.drop_eq_nil_of_le (by omega)]
    rfl
  | succ m ih =>
    intro i x7 hi hx hlen
    have hil : i < G.length := by omega
    have hg := hG _ (List.getElem_mem hil)
    have hrd : rd_T84 G (i : Int) = G[i] := by
      show G.getD (i : Int).toNat _ = _
      rw [Int.toNat_natCast, List.getD_eq_getElem?_getD, List.getElem?_eq_getElem hil]
      rfl
    unfold sim_frame.l0
    rw [if_pos (by omega), if_pos (by omega), if_pos (by omega), hrd, val_f hx hg.1.1 hg.1.2, Option.bind_some, val_f hx hg.2.1 hg.2.2, Option.bind_some, and1_f (isV_val hx _) (isV_val hx _), Option.bind_some, if_pos (by omega)]
    have hw : wrap64 ((i : Int) + 1) = ((i + 1 : Nat) : Int) := by unfold wrap64; omega
    rw [hw, ih (i + 1) _ (by omega) (fun x h => ?_) (by simp; omega), List.drop_eq_getElem_cons hil]
    · rfl
    · rcases List.mem_append.1 h with h | h
      · exact hx x h
      · rw [List.mem_singleton.1 h]; exact isV_and1 _ _
theorem next_l0 (vars : List Int) (hv : ∀ x ∈ vars, isV x) (L : List S71) (hLl : L.length ≤ 100000000) (hL : ∀ x ∈ L, u32 x.f0) : ∀ (m i : Nat) (acc : List Int), i + m = L.length → acc.length + m ≤ 1000000000 →
    sim_next.l0 (m + 2) vars acc L (L.length : Int) (i : Int) = some (acc ++ (L.drop i).map fun x => val vars x.f0) := by
  intro m
  induction m with
  | zero =>
    intro i acc hi _
    unfold sim_next.l0
    rw [if_neg (by omega), List.drop_eq_nil_of_le (by omega)]
    simp
  | succ m ih =>
    intro i acc hi hlen
    have hil : i < L.length := by omega
    have hg := hL _ (List.getElem_mem hil)
    have hrd : rd_T71 L (i : Int) = L[i] := by
      show L.getD (i : Int).toNat _ = _
      rw [Int.toNat_natCast, List.getD_eq_getElem?_getD, List.getElem?_eq_getElem hil]
      rfl
    unfold sim_next.l0
    rw [if_pos (by omega), if_pos (by omega), if_pos (by omega), hrd, val_f hv hg.1 hg.2, Option.bind_some, if_pos (by omega)]
    have hw : wrap64 ((i : Int) + 1) = ((i + 1 : Nat) : Int) := by unfold wrap64; omega
    rw [hw, ih (i + 1) _ (by omega) (by simp; omega), List.drop_eq_getElem_cons hil, List.map_cons, List.append_assoc]
    rfl
theorem frame_f {n : Int} {L : List S71} {G : List S84} {O B K : List Int} (hG : ∀ g ∈ G, u32 g.f0 ∧ u32 g.f1) {s i : List Int} (hs : ∀ x ∈ s, isV x) (hi : ∀ x ∈ i, isV x) (hl : s.length + i.length + G.length ≤ 100000000) :
    sim_frame.f (G.length + 2) n L G O B K s i = some (frameF G s i) := by
  unfold sim_frame.f slices_Concat_uint8_uint8.f
  have hf : ([[0], i, s] : List (List Int)).flatten = [0] ++ i ++ s := by simp
  rw [hf, if_pos ⟨by simp, by simp; omega⟩, Option.bind_some]
  have h := frame_l0 G (by omega) hG G.length 0 ([0] ++ i ++ s) (by omega) (fun x hx => ?_) (by simp; omega)
  · simpa [frameF] using h
  · simp only [List.mem_append, List.mem_singleton] at hx
    rcases hx with (rfl | hx) | hx
    · exact .inl rfl
    · exact hi x hx
    · exact hs x hx
theorem next_f {n : Int} {L : List S71} {G : List S84} {O B K : List Int} (hL : ∀ x ∈ L, u32 x.f0) {v : List Int} (hv : ∀ x ∈ v, isV x) (hl : L.length ≤ 100000000) :
    sim_next.f (L.length + 2) n L G O B K v = some (nextF L v) := by
  unfold sim_next.f
  have h := next_l0 v hv L hl hL L.length 0 [] (by omega) (by simp; omega)
  simpa [nextF] using h
/-- the states, frame by frame -/
def stF (L : List S71) (G : List S84) (F : List (List Int)) (I : List Int) : Nat → List Int
  | 0 => I
  | n + 1 => nextF L (frameF G (stF L G F I n) (F.getD n []))
def vsF (L : List S71) (G : List S84) (F : List (List Int)) (I : List Int) (n : Nat) : List Int := frameF G (stF L G F I n) (F.getD n [])
theorem stF_cons (L : List S71) (G : List S84) (i : List Int) (F : List (List Int)) (I : List Int) (n : Nat) : stF L G (i :: F) I (n + 1) = stF L G F (nextF L (frameF G I i)) n := by
  induction n with
  | zero => rfl
  | succ n ih =>
    show nextF L (frameF G (stF L G (i :: F) I (n + 1)) ((i :: F).getD (n + 1) [])) = _
    rw [ih]
    rfl
theorem vsF_cons (L : List S71) (G : List S84) (i : List Int) (F : List (List Int)) (I : List Int) (n : Nat) : vsF L G (i :: F) I (n + 1) = vsF L G F (nextF L (frameF G I i)) n := by
  unfold vsF
  rw [stF_cons]
  rfl
theorem framesF_map (L : List S71) (G : List S84) (F : List (List Int)) : ∀ I : List Int, (List.range F.length).map (vsF L G F I) = framesF L G I F := by
  induction F with
  | nil => intro I; rfl
  | cons i F ih =>
    intro I
    rw [List.length_cons, List.range_succ_eq_map, List.map_cons, List.map_map]
    show vsF L G (i :: F) I 0 :: _ = frameF G I i :: framesF L G (nextF L (frameF G I i)) F
    congr 1
    rw [← ih]
    exact List.map_congr_left fun n _ => vsF_cons L G i F I n
theorem isV_frame {G : List S84} {s i : List Int} (hs : ∀ x ∈ s, isV x) (hi : ∀ x ∈ i, isV x) : ∀ x ∈ frameF G s i, isV x := by
  refine isV_gates G _ (fun x hx => ?_)
  simp only [List.mem_append, List.mem_singleton] at hx
  rcases hx with (rfl | hx) | hx
  · exact .inl rfl
  · exact hi x hx
  · exact hs x hx
theorem isV_next {L : List S71} {v : List Int} (hv : ∀ x ∈ v, isV x) : ∀ x ∈ nextF L v, isV x := by
  intro x hx
  obtain ⟨y, _, rfl⟩ := List.mem_map.1 hx
  exact isV_val hv _
theorem isV_getD {F : List (List Int)} (hF : ∀ l ∈ F, ∀ x ∈ l, isV x) (n : Nat) : ∀ x ∈ F.getD n [], isV x := by
  rw [List.getD_eq_getElem?_getD]
  rcases Nat.lt_or_ge n F.length with hn | hn
  · rw [List.getElem?_eq_getElem hn]; exact hF _ (List.getElem_mem hn)
  · rw [List.getElem?_eq_none hn]; simp
theorem isV_st {L : List S71} {G : List S84} {F : List (List Int)} {I : List Int} (hF : ∀ l ∈ F, ∀ x ∈ l, isV x) (hI : ∀ x ∈ I, isV x) : ∀ n, ∀ x ∈ stF L G F I n, isV x
  | 0 => hI
  | n + 1 => isV_next (isV_frame (isV_st hF hI n) (isV_getD hF n))
theorem stF_len {L : List S71} {G : List S84} {F : List (List Int)} {I : List Int} (hI : I.length = L.length) : ∀ n, (stF L G F I n).length = L.length
  | 0 => hI
  | _ + 1 => nextF_len _ _
theorem getD_len {F : List (List Int)} {N : Nat} (hF : ∀ l ∈ F, l.length ≤ N) (n : Nat) : (F.getD n []).length ≤ N := by
  rw [List.getD_eq_getElem?_getD]
  rcases Nat.lt_or_ge n F.length with hn | hn
  · rw [List.getElem?_eq_getElem hn]; exact hF _ (List.getElem_mem hn)
  · rw [List.getElem?_eq_none hn]; simp
/-- a circuit and a trace that fit: what is known -/
structure Fit (c : Circ) (t : Trc) : Prop where
  gates : ∀ g ∈ c.G, u32 g.f0 ∧ u32 g.f1
  latches : ∀ x ∈ c.L, u32 x.f0
  many : c.n ≤ 16384 ∧ c.L.length + c.G.length ≤ 16384
  frames : t.F.length ≤ 256
  init : t.I.length = c.L.length
  initV : ∀ x ∈ t.I, isV x
  inputs : ∀ l ∈ t.F, (l.length : Int) = c.n
  inputsV : ∀ l ∈ t.F, ∀ x ∈ l, isV x
theorem Fit.runs {c : Circ} {t : Trc} (h : Fit c t) : Runs c t.I t.F (stF c.L c.G t.F t.I) (vsF c.L c.G t.F t.I) := by
  refine ⟨rfl, fun i _ => ⟨⟨_, frame_f h.gates (isV_st h.inputsV h.initV i) (isV_getD h.inputsV i) ?_⟩, ⟨_, next_f h.latches (isV_frame (isV_st h.inputsV h.initV i) (isV_getD h.inputsV i)) ?_⟩⟩⟩
  · have h1 := stF_len (L := c.L) (G := c.G) (F := t.F) h.init i
    have h2 := getD_len (F := t.F) (N := 16384) (fun l hl => by have := h.inputs l hl; have := h.many.1; omega) i
    have := h.many.2
    omega
  · have := h.many.2
    omega
end Go.Proofs.YthpnooookkpkaaaDoor.F
namespace Go.Proofs.YthpnooookkpkaaaDoor.F
open Go.Shelf Go.RowKit Go.Maps Go.Proofs.YthpnooookkpkaaaDoorW.PrintWords Go.Proofs.YthpnooookkpkaaaDoorW.PrintLast Go.Proofs.YthpnooookkpkaaaDoorW.PrintMore
set_option maxHeartbeats 2000000 in
theorem Run_unfit (c : Circ) (t : Trc) (w : World) (hwf : c.wf) (hc : c.ok w) (ht : t.ok w) (hf : fitsB c t = false) :
    Calls Tryd.prog 19 #[c.val, t.val] w fun e w' => e = .returned (.tuple #[.slice none 0 0, .int .i64 2]) ∧ Below w.heap.size w w' := by
  have HF := Aside0.mk (fun W (hb : Below w.heap.size w W) => Fits_c c t W hwf (hc.below hb) (ht.below hb))
  rw [hf] at HF
  clear hwf hc ht hf
  unfold Circ.val Circ.cells Trc.val Trc.cells at HF ⊢
  refine (callsIn_wide (n := 3)).1 ?_
  refine callsIn_of_wp_marks Tryd.func19 rfl trivial ?_ rfl
  simp only [Tryd.ntmps19, List.size_toArray, List.length_cons, List.length_nil, Nat.reduceAdd, Nat.reduceSub, Array.replicate_succ, Array.replicate_zero, List.push_toArray, List.append_toArray, List.nil_append, List.cons_append]
  gi_wp2_with fail
  refine ⟨trivial, (callsIn_wide.2 (HF.out _ (below_alloc (below_alloc (below_alloc (Below.refl _ _) _) _) _))).mono ?_⟩
  rintro e w1 ⟨rfl, hb1⟩
  obtain ⟨k2, k3, k4⟩ := blks3 w (.cells #[.int .i64 c.n, .slice c.A1 c.L.length c.c1, .slice c.A2 c.G.length c.c2, .slice c.A3 c.O.length c.c3, .slice c.A4 c.B.length c.c4, .slice c.A5 c.K.length c.c5] 26) (.cells #[.int .i64 t.bad, .slice t.A1 t.I.length t.c1, .slice t.A2 t.F.length t.c2] 30) (.cells #[.slice none 0 0] 28)
  have K4 := Aside0.mk (blk_below k4 hb1)
  have c4 : w1.cell? ⟨w.heap.size + 1 + 1, 0, none⟩ = some (.slice none 0 0) := (blk_cell K4.out 0).trans rfl
  have f4 : w1.frozen? ⟨w.heap.size + 1 + 1, 0, none⟩ = false := blk_frozen K4.out 0
  have HB1 := Aside0.mk (below_step (below_alloc (below_alloc (below_alloc (Below.refl _ w) _) _) _) hb1)
  clear hb1 k2 k3 k4 HF
  gi_wp2
  have hc5 : (w1.setCell ⟨w.heap.size + 1 + 1, 0, none⟩ (.slice none 0 0)).cell? ⟨w.heap.size + 1 + 1, 0, none⟩ = some (.slice none 0 0) := (blk_cell (blk_set K4.out 0 _) 0).trans rfl
  refine ⟨.tuple #[.slice none 0 0, .int .i64 2], by simp [results, Tryd.results19, go_sem, hc5], rfl, ?_⟩
  exact HB1.out.setCell (p := ⟨w.heap.size + 1 + 1, 0, none⟩) (by simp; omega) _
set_option maxHeartbeats 2000000 in
theorem Surely_unfit (c : Circ) (t : Trc) (w : World) (hwf : c.wf) (hc : c.ok w) (ht : t.ok w) (hf : fitsB c t = false) :
    Calls Tryd.prog 15 #[c.val, t.val] w fun e w' => e = .returned (.tuple #[.int .u8 0, .int .i64 2]) ∧ Below w.heap.size w w' := by
  have HF := Aside0.mk (fun W (hb : Below w.heap.size w W) => Fits_c c t W hwf (hc.below hb) (ht.below hb))
  rw [hf] at HF
  clear hwf hc ht hf
  unfold Circ.val Circ.cells Trc.val Trc.cells at HF ⊢
  refine (callsIn_wide (n := 3)).1 ?_
  refine callsIn_of_wp_marks Tryd.func15 rfl trivial ?_ rfl
  simp only [Tryd.ntmps15, List.size_toArray, List.length_cons, List.length_nil, Nat.reduceAdd, Nat.reduceSub, Array.replicate_succ, Array.replicate_zero, List.push_toArray, List.append_toArray, List.nil_append, List.cons_append]
  gi_wp2_with fail
  refine ⟨trivial, (callsIn_wide.2 (HF.out _ (below_alloc (below_alloc (Below.refl _ _) _) _))).mono ?_⟩
  rintro e w1 ⟨rfl, hb1⟩
  have HB1 := Aside0.mk (below_step (below_alloc (below_alloc (Below.refl _ w) _) _) hb1)
  clear hb1 HF
  gi_wp2
  refine ⟨.tuple #[.int .u8 0, .int .i64 2], by simp [results, Tryd.results15, go_sem], rfl, HB1.out⟩
end Go.Proofs.YthpnooookkpkaaaDoor.F
