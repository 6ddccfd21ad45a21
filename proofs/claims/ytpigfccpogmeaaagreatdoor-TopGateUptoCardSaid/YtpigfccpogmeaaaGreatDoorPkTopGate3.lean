/- Walks and plain facts, joined out of several texts: what the row of TopGate leads to. -/
import Derived.Test.YtpigfccpogmeaaaGreatDoorPkTopGate2
import Derived.Deep.WholeRow
import Derived.Laws.Tables
import Derived.Laws.CopyOwn
import Derived.Laws.FloatBits
import Derived.Lib.CountLaws
import Derived.Lib.IndexLaws
import Derived.Lib.Split
section
namespace Go.Proofs.YtpigfccpogmeaaaGreatDoor.S
open Go.RowKit Go.Proofs.YtpigfccpogmeaaaGreatDoorW.PrintWords Go.Proofs.YtpigfccpogmeaaaGreatDoorW.PrintLast Go.Proofs.YtpigfccpogmeaaaGreatDoorW.PrintMore
set_option linter.unusedVariables false
set_option linter.unusedSimpArgs false
def Has {α : Type} (o : Option α) : Prop := ∃ r, o = some r
theorem Has.some_ {α : Type} (r : α) : Has (some r) := ⟨r, rfl⟩
theorem Has.ite {α : Type} {c : Prop} [Decidable c] {a b : Option α} (h1 : Has a) (h2 : Has b) : Has (if c then a else b) := by
  split
  · exact h1
  exact h2
theorem Has.bind {α β : Type} {a : Option α} {f : α → Option β} (h : Has a) (k : ∀ x, Has (f x)) : Has (a.bind f) := by
  obtain ⟨r, rfl⟩ := h;exact k r
theorem Has.pos {α : Type} {c : Prop} [Decidable c] {a b : Option α} (hc : c) (h1 : Has a) : Has (if c then a else b) := by rw [zp hc]; exact h1
theorem has_weight (a : Nat) : Has (conf_weight.f a) := by
  unfold conf_weight.f math_IsInf.f math_Signbit.f
  repeat' first
    | exact Has.some_ _
    | refine Has.ite ?_ ?_
    | refine Has.bind ?_ (fun _ => ?_)
theorem rd_small {l : List S62} (h : ∀ t ∈ l, t.f0.size ≤ 1048576) (i : Int) : (rd_T62 l i).f0.size ≤ 1048576 := by
  unfold rd_T62;rw [List.getD_eq_getElem?_getD];cases e : l[i.toNat]? with
  | none => decide
  | some x => exact h x (List.mem_of_getElem? e)
theorem has_t1 (x0 : List S62) (l : List S62) (hl : l.length ≤ 100) : ∀ (n i k : Nat), i + n = l.length → n < k → Has (conf_targets.l1 k x0 l (l.length : Int) (i : Int))
  | n, i, 0, _, h => absurd h zO
  | n, i, k + 1, hn, hk => by
    unfold conf_targets.l1
    rcases n with _ | n
    · rw [zn zO];exact Has.ite (Has.some_ _) (Has.some_ _)
    refine Has.pos zO (Has.pos zO (Has.pos zO (Has.bind (has_weight _) (fun _ => Has.ite ?_ (Has.some_ _)))));rw [show wrap64 ((i : Int) + 1) = ((i + 1 : Nat) : Int) by unfold wrap64; omega];exact has_t1 x0 l hl n (i + 1) k zO zO
theorem has_t0 (l : List S62) (hl : l.length ≤ 100) (ht : ∀ t ∈ l, t.f0.size ≤ 1048576) : ∀ (n i k : Nat), i + n = l.length → n + 200 < k → Has (conf_targets.l0 k l l (l.length : Int) (i : Int))
  | n, i, 0, _, h => absurd h zO
  | n, i, k + 1, hn, hk => by
    unfold conf_targets.l0
    rcases n with _ | n
    · rw [zn zO];exact has_t1 l l hl l.length 0 k zO zO
    refine Has.pos zO (Has.pos zO (Has.pos zO (Has.bind ?_ (fun _ => Has.ite ?_ (Has.some_ _)))))
    · unfold conf_address.f;rw [zp (Nat.lt_of_le_of_lt (rd_small ht _) (by decide))];exact Has.some_ _
    rw [show wrap64 ((i : Int) + 1) = ((i + 1 : Nat) : Int) by unfold wrap64; omega];exact has_t0 l hl ht n (i + 1) k zO zO
theorem has_Check (a0 a1 a2 a3 : Int) (h p o : ByteArray) (l : List S62) (hh : h.size ≤ 1048576) (hp : p.size ≤ 1048576) (ho : o.size ≤ 1048576) (hl : l.length ≤ 100) (ht : ∀ t ∈ l, t.f0.size ≤ 1048576) : ∃ r, conf_Check.f 1000 a0 a1 a2 a3 h p o l = some r := by
  have H8 : ∀ k x4 x94 b0 b1 b2 b3, 400 < k → Has (conf_Check.j8 (k + 1) x4 x94 b0 b1 b2 b3 h p o l) := by
    intro k x4 x94 b0 b1 b2 b3 hk;have HT : Has (conf_targets.f k l) := has_t0 l hl ht l.length 0 k zO zO;have HH : Has (conf_host.f h) := by unfold conf_host.f; rw [zp zO]; exact Has.some_ _
    have HX : Has (conf_prefix.f p) := by unfold conf_prefix.f; rw [zp zO]; exact Has.some_ _
    unfold conf_Check.j8
    repeat' first
      | exact Has.some_ _
      | exact HT
      | exact HH
      | exact HX
      | refine Has.ite ?_ ?_
      | refine Has.bind ?_ (fun _ => ?_)
  have HO : Has (conf_poolName.f o) := by unfold conf_poolName.f; rw [zp zO]; exact Has.some_ _
  have H7 : ∀ k x3 x4 x41 b0 b1 b2 b3, 410 < k → Has (conf_Check.j7 (k + 1) x3 x4 x41 b0 b1 b2 b3 h p o l) := by
    intro k x3 x4 x41 b0 b1 b2 b3 hk;obtain ⟨k, rfl⟩ : ∃ q, k = q + 1 := ⟨k - 1, zO⟩;unfold conf_Check.j7
    repeat' first
      | exact Has.some_ _
      | exact HO
      | exact H8 _ _ _ _ _ _ _ zO
      | refine Has.ite ?_ ?_
      | refine Has.bind ?_ (fun _ => ?_)
  have H6 : ∀ k x3 x4 x41 b0 b1 b2 b3, 420 < k → Has (conf_Check.j6 (k + 1) x3 x4 x41 b0 b1 b2 b3 h p o l) := by
    intro k x3 x4 x41 b0 b1 b2 b3 hk;obtain ⟨k, rfl⟩ : ∃ q, k = q + 1 := ⟨k - 1, zO⟩;unfold conf_Check.j6
    repeat' first
      | exact H7 _ _ _ _ _ _ _ _ zO
      | refine Has.ite ?_ ?_
  have H5 : ∀ k x3 x4 x41 b0 b1 b2 b3, 430 < k → Has (conf_Check.j5 (k + 1) x3 x4 x41 b0 b1 b2 b3 h p o l) := by
    intro k x3 x4 x41 b0 b1 b2 b3 hk;obtain ⟨k, rfl⟩ : ∃ q, k = q + 1 := ⟨k - 1, zO⟩;unfold conf_Check.j5
    repeat' first
      | exact H7 _ _ _ _ _ _ _ _ zO
      | exact H6 _ _ _ _ _ _ _ _ zO
      | refine Has.ite ?_ ?_
  have H4 : ∀ k x3 x4 x5 x41 b0 b1 b2 b3, 440 < k → Has (conf_Check.j4 (k + 1) x3 x4 x5 x41 b0 b1 b2 b3 h p o l) := by
    intro k x3 x4 x5 x41 b0 b1 b2 b3 hk;obtain ⟨k, rfl⟩ : ∃ q, k = q + 1 := ⟨k - 1, zO⟩;unfold conf_Check.j4
    repeat' first
      | exact H7 _ _ _ _ _ _ _ _ zO
      | exact H5 _ _ _ _ _ _ _ _ zO
      | refine Has.ite ?_ ?_
  have H3 : ∀ k x3 x4 x5 x41 b0 b1 b2 b3, 450 < k → Has (conf_Check.j3 (k + 1) x3 x4 x5 x41 b0 b1 b2 b3 h p o l) := by
    intro k x3 x4 x5 x41 b0 b1 b2 b3 hk;obtain ⟨k, rfl⟩ : ∃ q, k = q + 1 := ⟨k - 1, zO⟩;unfold conf_Check.j3
    repeat' first
      | exact H7 _ _ _ _ _ _ _ _ zO
      | exact H4 _ _ _ _ _ _ _ _ _ zO
      | refine Has.ite ?_ ?_
  have H2 : ∀ k x3 x4 x5 b0 b1 b2 b3, 460 < k → Has (conf_Check.j2 (k + 1) x3 x4 x5 b0 b1 b2 b3 h p o l) := by
    intro k x3 x4 x5 b0 b1 b2 b3 hk;obtain ⟨k, rfl⟩ : ∃ q, k = q + 1 := ⟨k - 1, zO⟩;unfold conf_Check.j2
    repeat' first
      | exact H3 _ _ _ _ _ _ _ _ _ zO
      | refine Has.ite ?_ ?_
  have H1 : ∀ k x3 x4 b0 b1 b2 b3, 470 < k → Has (conf_Check.j1 (k + 1) x3 x4 b0 b1 b2 b3 h p o l) := by
    intro k x3 x4 b0 b1 b2 b3 hk;obtain ⟨k, rfl⟩ : ∃ q, k = q + 1 := ⟨k - 1, zO⟩;unfold conf_Check.j1
    repeat' first
      | exact H2 _ _ _ _ _ _ _ _ zO
      | refine Has.ite ?_ ?_
  have H0 : ∀ k x3 b0 b1 b2 b3, 480 < k → Has (conf_Check.j0 (k + 1) x3 b0 b1 b2 b3 h p o l) := by
    intro k x3 b0 b1 b2 b3 hk;obtain ⟨k, rfl⟩ : ∃ q, k = q + 1 := ⟨k - 1, zO⟩;unfold conf_Check.j0
    repeat' first
      | exact H1 _ _ _ _ _ _ _ zO
      | refine Has.ite ?_ ?_
  show Has _
  unfold conf_Check.f;have HK := H0 999
  repeat' first
    | exact HK _ _ _ _ _ zO
    | refine Has.ite ?_ ?_
open Go.RowKit Go.Maps Go.Proofs.YtpigfccpogmeaaaGreatDoorW.PrintWords Go.Proofs.YtpigfccpogmeaaaGreatDoorW.PrintLast Go.Proofs.YtpigfccpogmeaaaGreatDoorW.PrintMore
structure BlkSet (W W' : World) (g : Nat) (cs : Array Value) (t : TypeId) : Prop where
  blk : W'.heap[g]? = some (.cells cs t (0, 0))
  other : ∀ k, k ≠ g → W'.heap[k]? = W.heap[k]?
  size : W'.heap.size = W.heap.size
  os : W'.os = W.os
  tape : W'.tape = W.tape
  output : W'.output = W.output
theorem run_store_set {P : Program} {W : World} {g : Nat} {cs cs' : Array Value} {t : TypeId} (hg : W.heap[g]? = some (.cells cs t (0, 0))) (hi : (P.info? t).map (·.size) = some cs'.size) (ho : cs.size = cs'.size) (h1 : cs'.all (·.oneCell') = true) :
    (Instr.storeAt t (.pointer (some ⟨g, 0, none⟩)) (.agg cs')).run P W = .ok () (W.setRow g cs') := by
  simp only [Instr.storeAt, Instr.sureAddr, Sem.run_bind, Sem.run_pure, Result.andThen];exact run_storeVar_row _ _ t t cs cs' hg hi ho h1
theorem blkSet_row {W : World} {g : Nat} {cs cs' : Array Value} {t : TypeId} (hg : W.heap[g]? = some (.cells cs t (0, 0))) : BlkSet W (W.setRow g cs') g cs' t :=
  ⟨setRow_heap W g cs cs' t (0, 0) hg, fun k hk => setRow_other W g k cs' hk, size_setRow W g cs', rfl, rfl, rfl⟩
theorem wpList_store_set {P : Program} {ops : Array Oper} {rest : List Oper} {op : Oper} {a : Act} {W : World} {Q : Exit → Act → World → Prop} (hgd : op.guard = none) (t : TypeId) (x y : Operand) (ho : op.op = .store t x y)
    (g : Nat) (cs cs' : Array Value) (hx : a.eval x = .pointer (some ⟨g, 0, none⟩)) (hy : a.eval y = .agg cs') (hg : W.heap[g]? = some (.cells cs t (0, 0))) (hi : (P.info? t).map (·.size) = some cs'.size) (hs : cs.size = cs'.size) (h1 : cs'.all (·.oneCell') = true)
    (h : ∀ W', BlkSet W W' g cs' t → wpList P ops Q rest (a.put op.dst undef) W') : wpList P ops Q (op :: rest) a W :=
  wpList_plain hgd fun K hK => by
    unfold Oper.wp execOp;simp only [ho, hx, hy, run_store_set hg hi hs h1, Sem.run_bind, Sem.run_pure, Result.andThen_ok];exact hK _ _ (h _ (blkSet_row hg))
section
variable {W W' : World} {q : Nat} {cs' : Array Value} {tt : TypeId} {gs bp br bc : Nat} {v : Int} {DP DR DC : DataW Value} {base : Nat} {f : List UInt8 → List S62} {g : PK → ByteArray}
theorem StAt.bset (h : StAt W gs bp br bc v DP DR DC) {cs : Array Value} (hq : W.heap[q]? = some (.cells cs tt (0, 0))) (ht : 68 ≠ tt) (hb : BlkSet W W' q cs' tt) : StAt W' gs bp br bc v DP DR DC :=
  h.move (fun k _ hne => hb.other k hne) hq ht
theorem R_bset {α : Type} {d : Kd α} {e b : Nat} {ok : Nat → Prop} {x : Value} {xs : List α} (h : d.R e W b ok x xs) {cs : Array Value} (hq : W.heap[q]? = some (.cells cs tt (0, 0))) (ht : ∀ p, p ∈ e :: d.E → p ≠ tt) (hb : BlkSet W W' q cs' tt) : d.R e W' b ok x xs := by
  refine Kd.R_mono (Kd.R_move (Kd.R_bound h) (fun k hk2 => hb.other k ?_)) (fun _ hk => hk.1);rintro rfl;obtain ⟨_, _, _, p, hp, cells, hc⟩ := hk2;exact blk_ne hc hq (ht p hp) rfl
theorem StC.bset (h : StC W base DP DR DC f g) {cs : Array Value} (hq : W.heap[q]? = some (.cells cs tt (0, 0))) (ht : 62 ≠ tt) (hb : BlkSet W W' q cs' tt) : StC W' base DP DR DC f g :=
  ⟨fun n hn => by obtain ⟨x, h1, h2⟩ := h.pools n hn; exact ⟨x, h1, R_bset h2 hq (by intro q hq; rcases List.mem_cons.1 hq with rfl | hq; exact ht; cases hq) hb⟩, h.routes, h.clients⟩
theorem kept_bset {w : World} {S : Nat → Prop} (h : KeepW w W S) (hb : BlkSet W W' q cs' tt) (hS : S q ∨ w.heap.size ≤ q) : KeepW w W' S :=
  ⟨by rw [hb.size]; exact h.1, fun k hk hn => (hb.other k (by rintro rfl; rcases hS with hS | hS; exact hn hS; omega)).trans (h.2 k hk hn), hb.os.trans h.os, hb.tape.trans h.tape, hb.output.trans h.output⟩
theorem blk_bset {p : Nat} {cs : Array Value} {t : TypeId} {z : Nat × Nat} (h : W.heap[p]? = some (.cells cs t z)) (hb : BlkSet W W' q cs' tt) (hne : p ≠ q) : W'.heap[p]? = some (.cells cs t z) := (hb.other p hne).trans h
theorem size_bset {n : Nat} (h : n ≤ W.heap.size) (hb : BlkSet W W' q cs' tt) : n ≤ W'.heap.size := by rw [hb.size]; exact h
theorem StAt.bump (h : StAt W gs bp br bc v DP DR DC) (v' : Int) : StAt (W.setCell ⟨gs, 0, none⟩ (.int .i64 v')) gs bp br bc v' DP DR DC := by
  have hm : ∀ k, k ≠ gs → (W.setCell ⟨gs, 0, none⟩ (.int .i64 v')).heap[k]? = W.heap[k]? := fun k hk => Below.heap_setCell W ⟨gs, 0, none⟩ _ k hk
  exact ⟨(blk_put h.own 0 (.int .i64 v') rfl).trans rfl, ownsMap_move h.mp (hm _ (map_ne h.mp h.own)), ownsMap_move h.mr (hm _ (map_ne h.mr h.own)), ownsMap_move h.mc (hm _ (map_ne h.mc h.own))⟩
theorem blk_act {p : Nat} {cs : Array Value} {t : TypeId} {z : Nat × Nat} (h : W.heap[p]? = some (.cells cs t z)) (hs : StAt W gs bp br bc v DP DR DC) (hk : KeepW W W' (fun k => k = bp ∨ k = br)) : W'.heap[p]? = some (.cells cs t z) :=
  blk_kept h hk.kept (fun e => e.elim (fun e => map_ne hs.mp h e.symm) (fun e => map_ne hs.mr h e.symm))
end
theorem blk_cells {W : World} {g : Nat} {cs : List Value} {t : TypeId} (h : W.heap[g]? = some (.cells cs.toArray t (0, 0))) : ∀ (j : Nat) (u : Value), cs[j]? = some u → W.cell? ((⟨g, 0, none⟩ : Addr).add j) = some u := by
  intro j u hu;have hadd : (⟨g, 0, none⟩ : Addr).add j = ⟨g, j, none⟩ := by unfold Addr.add; split <;> simp_all
  rw [hadd];exact (blk_cell h j).trans (by simpa using hu)
theorem seen_cells {W : World} {g : Nat} {a b c : Value} {t : TypeId} (h : W.heap[g]? = some (.cells #[a, b, c] t (0, 0))) : ∀ (j : Nat) (u : Value), [b, c][j]? = some u → W.cell? ((⟨g, 1, none⟩ : Addr).add j) = some u := by
  intro j u hu;have hadd : (⟨g, 1, none⟩ : Addr).add j = ⟨g, 1 + j, none⟩ := by unfold Addr.add; split <;> simp_all
  rw [hadd];refine (blk_cell h (1 + j)).trans ?_
  match j, hu with
  | 0, hu => exact hu
  | 1, hu => exact hu
theorem one2 (a b : Int) : (#[.int .i64 a, .int .i64 b] : Array Value).all (·.oneCell') = true := by simp [Value.oneCell']
theorem one3 (a b c : Int) : (#[.int .i64 a, .int .i64 b, .int .i64 c] : Array Value).all (·.oneCell') = true := by simp [Value.oneCell']
theorem zeroSeen (w : World) : (zeroValue 73).run Tryz.prog w = .ok (.agg #[.int .i64 0, .int .i64 0, .int .i64 0]) w := by kernel_rfl
set_option maxRecDepth 100000 in
theorem look_seen {W : World} {gs bp br bc : Nat} {v : Int} {DP DR DC : DataW Value} {base : Nat} {f : List UInt8 → List S62} {g : PK → ByteArray} (hc : StC W base DP DR DC f g) {cl : Int} (hw : (Lit.int .i64 cl).wf = true) :
    ∃ sa sb sc : Int, ∀ W', StAt W' gs bp br bc v DP DR DC → (Instr.lookup 66 (.map (some bc)) (.int .i64 cl) false).run Tryz.prog W' = .ok (.agg #[.int .i64 sa, .int .i64 sb, .int .i64 sc]) W' := by
  have hkey := keyOf_int_mk Tryz.underlying3 hw;cases hh : has DC (.int .i64 cl)
  · refine ⟨0, 0, 0, fun W' h => ?_⟩;obtain ⟨v_, ps_, hrun, hv⟩ := h.mc.lookup keyedI Tryz.underlying66 (zeroSeen _) rfl hkey;have h1 := HR_inv hv;rw [atKey_of_not_has hh] at h1;injection h1 with h1
    rw [← h1] at hrun;exact hrun
  obtain ⟨a, b, c, h1⟩ := hc.clients _ hh;refine ⟨a, b, c, fun W' h => ?_⟩;obtain ⟨v_, ps_, hrun, hv⟩ := h.mc.lookup keyedI Tryz.underlying66 (zeroSeen _) rfl hkey;have h2 := HR_inv hv;rw [h1] at h2;injection h2 with h2
  rw [← h2] at hrun;exact hrun
def DoPost (w : World) (gs bp br bc : Nat) (v : Int) (DP DR DC : DataW Value) (base : Nat) (f : List UInt8 → List S62) (g : PK → ByteArray) (e : Ending) (w' : World) : Prop :=
  ∃ E V : Int, e = .returned (.agg #[.int .i64 E, .int .i64 V]) ∧ KeepW w w' (fun k => k = gs ∨ k = bp ∨ k = br ∨ k = bc) ∧ ∃ v' DP' DR' DC' f' g', StAt w' gs bp br bc v' DP' DR' DC' ∧ StC w' base DP' DR' DC' f' g' ∧ StP DP' DR' f' g' ∧ Maps.size DC' ≤ Maps.size DC + 1 ∧ ((v' = v ∧ DP' = DP ∧ DR' = DR ∧ f' = f ∧ g' = g) ∨ (E = 0 ∧ v' = v + 1))
theorem results_do {w : World} {gx : Nat} {cs : Array Value} (tmps : Array Value) (hp : tmps.getD 4 undef = .pointer (some ⟨gx, 0, none⟩)) (hx : w.heap[gx]? = some (.cells cs 38 (0, 0))) (hs : cs.size = 2) :
    (results Tryz.f7 tmps).run Tryz.prog w = .ok (.agg cs) w := by
  have h2 : tmps[4]?.getD undef = .pointer (some ⟨gx, 0, none⟩) := by simpa using hp
  have hi : (Tryz.prog.info? 38).map (·.size) = some cs.size := by rw [hs]; kernel_rfl
  simp [results, Tryz.results7, h2, asAddr, run_loadVar_row w gx 38 38 cs (0, 0) _ hx Tryz.underlying38 rfl hi]
noncomputable def do_T7 : Bool × List (List Nat × List Nat) := rtab .any (opsOf Tryz.f7 7)
theorem do_T7_is : rtab .any (opsOf Tryz.f7 7) = do_T7 := rfl
noncomputable def do_T14 : Bool × List (List Nat × List Nat) := rtab .any (opsOf Tryz.f7 14)
theorem do_T14_is : rtab .any (opsOf Tryz.f7 14) = do_T14 := rfl
noncomputable def do_T21 : Bool × List (List Nat × List Nat) := rtab .any (opsOf Tryz.f7 21)
theorem do_T21_is : rtab .any (opsOf Tryz.f7 21) = do_T21 := rfl

set_option maxHeartbeats 16000000 in
set_option maxRecDepth 100000 in
theorem do_ok {gs bp br bc : Nat} {v : Int} {DP DR DC : DataW Value} {f : List UInt8 → List S62} {g : PK → ByteArray} {w : World} {base : Nat} (h : StAt w gs bp br bc v DP DR DC) (hc : StC w base DP DR DC f g) (hp : StP DP DR f g) (hd : Apart3 bp br bc) (hn : base ≤ w.heap.size) (hv : 0 ≤ v ∧ v ≤ 1000000) (hdc : Maps.size DC ≤ 1000000)
    (ca ccl csq cex : Int) (ch cpx cpo : ByteArray) (At : Option Addr) (ct : Nat) (ts : List S62) (hts : Kd.C k62 w At ts.length ts) (hct : ts.length ≤ ct) (htl : ts.length ≤ 100) (hta : ∀ t ∈ ts, TgOk t) (hz : ch.size ≤ 1048576 ∧ cpx.size ≤ 1048576 ∧ cpo.size ≤ 1048576) (hcw : (Lit.int .i64 ccl).wf = true) :
    Calls Tryz.prog 7 #[.pointer (some ⟨gs, 0, none⟩), .agg #[.int .i64 ca, .int .i64 ccl, .int .i64 csq, .int .i64 cex, .string ch, .string cpx, .string cpo, .slice At ts.length ct]] w (DoPost w gs bp br bc v DP DR DC base f g) := by
  have HS := zN h;have HC := zN hc;have HP := zN hp;have HD := zN hd;have HK := zN (KeepW.refl w (fun k => k = gs ∨ k = bp ∨ k = br ∨ k = bc));have HN := zN hn;have HT := zN hts;have HV := zN hv;have HDC := zN hdc;have HCW := zN hcw;have HZZ := zN hz;have HTT := zN (And.intro hct (And.intro htl hta));obtain ⟨er, hck⟩ := has_Check ca ccl csq cex ch cpx cpo ts hz.1 hz.2.1 hz.2.2 htl (fun t ht => (hta t ht).1);have HCK := zN hck;have HW0 := zN (zh w.heap.size);clear h hc hp hd hn hts hz hct htl hta hv hdc hcw hck;have huS := Tryz.underlying68;have huC := Tryz.underlying35;have huR := Tryz.underlying38;have huE := Tryz.underlying73;go_enter Tryz.func7, Tryz.ntmps7;go_upto_region 1 with (((with_reducible refine gate_dst (N := 3) rfl ?_); refine zX #[.int .i64 ca, .int .i64 ccl, .int .i64 csq, .int .i64 cex, .string ch, .string cpx, .string cpo, .slice At ts.length ct] 35 rfl ?_; intro g3 hg w1 hbox hb; have G3 := zN hbox; replace HS := zN (HS.out.below hb); replace HC := zN (HC.out.below hb); replace HK := zN (HK.out.below hb); replace HN := zN (Nat.le_trans HN.out hb.size); replace HW0 := zN (Nat.le_trans HW0.out hb.size); replace HT := zN (Kd.C_below HT.out hb); clear hb hbox hg))
  have hb := below_alloc (Below.refl w1.heap.size w1) (.cells #[.int .i64 0, .int .i64 0] 38);have G4 := zN (blk_new w1 (.cells #[.int .i64 0, .int .i64 0] 38));have N4 := zN HW0.out;replace HS := zN (HS.out.below hb);replace HC := zN (HC.out.below hb);replace HK := zN (HK.out.below hb);replace HN := zN (Nat.le_trans HN.out hb.size);replace HW0 := zN (Nat.le_trans HW0.out hb.size);replace HT := zN (Kd.C_below HT.out hb);replace G3 := zN (blk_below G3.out hb);generalize w1.heap.size = g4 at hb G4 N4 ⊢;generalize w1.alloc (.cells #[.int .i64 0, .int .i64 0] 38) = w2 at hb HS HC HK HN HW0 HT G3 G4 ⊢;clear hb;by_cases her : er = 0;rotate_left
  · have d1 : decide (er = 0) = false := zf her;go_upto_region 5 with (first | ((with_reducible refine gate_dst (N := 12) rfl ?_); refine wpList_load_any rfl 35 (.tmp 3) rfl ⟨g3, 0, none⟩ rfl [.int .i64 ca, .int .i64 ccl, .int .i64 csq, .int .i64 cex, .string ch, .string cpx, .string cpo, .slice At ts.length ct] _ (blk_cells G3.out) huC rfl zQ ?_; simp only [Act.put, List.setIfInBounds_toArray, List.set_cons_zero, List.set_cons_succ]) | (go_at_call 15; refine (conf_Check.calls 1000 ca ccl csq cex ch cpx cpo At ct ts er _ HT.out HTT.out.1 HCK.out).mono ?_; rintro e w3 ⟨rfl, hb⟩; replace HS := zN (HS.out.below hb); replace HC := zN (HC.out.below hb); replace HK := zN (HK.out.below hb); replace HN := zN (Nat.le_trans HN.out hb.size); replace HW0 := zN (Nat.le_trans HW0.out hb.size); replace HT := zN (Kd.C_below HT.out hb); replace G3 := zN (blk_below G3.out hb); replace G4 := zN (blk_below G4.out hb); clear hb))
    have m0 : w3.cell? ⟨gs, 0, none⟩ = some (.int .i64 v) := (blk_cell HS.out.own 0).trans rfl;go_wp2_with (((with_reducible refine gate_ (.store 38 (.tmp 4) (.tmp 21)) rfl ?_); refine wpList_store_set rfl 38 (.tmp 4) (.tmp 21) rfl g4 _ #[.int .i64 er, .int .i64 v] rfl rfl G4.out zQ rfl (one2 _ _) ?_; intro w4 hb; replace HS := zN (HS.out.bset G4.out (by decide) hb); replace HC := zN (HC.out.bset G4.out (by decide) hb); replace HK := zN (kept_bset HK.out hb (.inr N4.out)); replace HN := zN (size_bset HN.out hb); replace HW0 := zN (size_bset HW0.out hb); replace G3 := zN (blk_bset G3.out hb (blk_ne G3.out G4.out (by decide))); replace G4 := zN hb.blk; clear hb));refine bodyPost_ret (results_do _ rfl G4.out rfl) rfl ?_;exact ⟨er, v, rfl, HK.out, _, _, _, _, _, _, HS.out, HC.out, HP.out, Nat.le_succ _, .inl ⟨rfl, rfl, rfl, rfl, rfl⟩⟩
  have d1 : decide (er = 0) = true := zt her;go_upto_region 6 with (first | ((with_reducible refine gate_dst (N := 12) rfl ?_); refine wpList_load_any rfl 35 (.tmp 3) rfl ⟨g3, 0, none⟩ rfl [.int .i64 ca, .int .i64 ccl, .int .i64 csq, .int .i64 cex, .string ch, .string cpx, .string cpo, .slice At ts.length ct] _ (blk_cells G3.out) huC rfl zQ ?_; simp only [Act.put, List.setIfInBounds_toArray, List.set_cons_zero, List.set_cons_succ]) | (go_at_call 15; refine (conf_Check.calls 1000 ca ccl csq cex ch cpx cpo At ct ts er _ HT.out HTT.out.1 HCK.out).mono ?_; rintro e w3 ⟨rfl, hb⟩; replace HS := zN (HS.out.below hb); replace HC := zN (HC.out.below hb); replace HK := zN (HK.out.below hb); replace HN := zN (Nat.le_trans HN.out hb.size); replace HW0 := zN (Nat.le_trans HW0.out hb.size); replace HT := zN (Kd.C_below HT.out hb); replace G3 := zN (blk_below G3.out hb); replace G4 := zN (blk_below G4.out hb); clear hb))
  clear HCK d1;subst her;have e1 : w3.cell? ⟨g3, 1, none⟩ = some (.int .i64 ccl) := (blk_cell G3.out 1).trans rfl;go_upto_if 24 with (fail)
  clear e1;go_cut [6] (fun v6 wc => Aside0 (StAt wc gs bp br bc v DP DR DC) ∧ Aside0 (StC wc base DP DR DC f g) ∧ Aside0 (KeepW w wc (fun k => k = gs ∨ k = bp ∨ k = br ∨ k = bc)) ∧ Aside0 (base ≤ wc.heap.size) ∧ Aside0 (w.heap.size ≤ wc.heap.size) ∧ Aside0 (Kd.C k62 wc At ts.length ts) ∧ Aside0 (wc.heap[g3]? = some (.cells #[.int .i64 ca, .int .i64 ccl, .int .i64 csq, .int .i64 cex, .string ch, .string cpx, .string cpo, .slice At ts.length ct] 35 (0, 0))) ∧ Aside0 (wc.heap[g4]? = some (.cells #[.int .i64 0, .int .i64 0] 38 (0, 0))))
  case first =>
    by_cases hcl : 0 < ccl;rotate_left
    · have d2 : decide (0 < ccl) = false := zf hcl;go_wp2;go_meet;exact ⟨HS, HC, HK, HN, HW0, HT, G3, G4⟩
    have d2 : decide (0 < ccl) = true := zt hcl;go_upto_region 7 with (fail)
    clear d2;obtain ⟨sa, sb, sc, hlk⟩ := look_seen (gs := gs) (bp := bp) (br := br) (bc := bc) (v := v) HC.out HCW.out;have LK := zN hlk;clear hlk;replace HS := zN HS.out.drew;replace HC := zN HC.out.drew;replace HK := zN HK.out.drew;replace HN := zN (size_drew HN.out);replace HW0 := zN (size_drew HW0.out);replace HT := zN (Kd.C_drew HT.out);replace G3 := zN (blk_drew G3.out);replace G4 := zN (blk_drew G4.out);refine start_ (n := 9) (S := fun w' => w'.cell? ⟨gs, 3, none⟩ = some (.map (some bc)) ∧ w'.cell? ⟨g3, 1, none⟩ = some (.int .i64 ccl) ∧ (Instr.lookup 66 (.map (some bc)) (.int .i64 ccl) false).run Tryz.prog w' = .ok (.agg #[.int .i64 sa, .int .i64 sb, .int .i64 sc]) w') (ds := [8]) #[false, false, false, false, false, false, false, false, false] zQ rfl rfl ⟨(blk_cell HS.out.own 3).trans rfl, (blk_cell G3.out 1).trans rfl, LK.out _ HS.out⟩ (fun hHeld => ?_);refine with_tab (T := do_T7) do_T7_is (fun HT_ => ?_);generalize w3.drew = wd at HS HC HK HN HW0 HT G3 G4 hHeld ⊢;refine zU (i := 0) (N := some 25) #[true, false, false, false, false, false, false, false, false] rfl rfl HT_ ?_;refine zU (i := 1) (N := some 26) #[true, true, false, false, false, false, false, false, false] rfl rfl HT_ ?_;refine zU (i := 2) (N := some 27) #[true, true, true, false, false, false, false, false, false] rfl rfl HT_ ?_;refine take_ (i := 3) (N := some 28) (v := ?_) (a' := ?_) #[true, true, true, true, false, false, false, false, false] rfl rfl (take_of HT_.out zQ) (fun _ _ _ h => h) (Or.inl ⟨by rfl, ?_⟩) hHeld ?_ ?_;rotate_left
    · rintro w' ⟨s0, s1, s2⟩;go_simp
      with_reducible rfl
    rotate_left
    · simp only [zP];rfl
    refine zU (i := 4) (N := some 29) #[true, true, true, true, true, false, false, false, false] rfl rfl HT_ ?_;refine take_ (i := 5) (N := some 30) (v := ?_) (a' := ?_) #[true, true, true, true, true, true, false, false, false] rfl rfl (take_of HT_.out zQ) (fun _ _ _ h => h) (Or.inl ⟨by rfl, ?_⟩) hHeld ?_ ?_;rotate_left
    · rintro w' ⟨s0, s1, s2⟩;go_simp
      with_reducible rfl
    rotate_left
    · simp only [zP];rfl
    refine take_ (i := 6) (N := some 31) (v := .agg #[.int .i64 sa, .int .i64 sb, .int .i64 sc]) (a' := ?_) #[true, true, true, true, true, true, true, false, false] rfl rfl (take_of HT_.out zQ) (fun _ _ _ h => h) (yieldsIf_lookup (by rfl) 66 (.tmp 28) (.tmp 30) false rfl bc rfl (.int .i64 ccl) _ rfl (fun w_ hw_ => hw_.2.2)) hHeld ?_ ?_;rotate_left
    · simp only [zP];rfl
    refine one_ (i := 7) (N := some 6) #[true, true, true, true, true, true, true, true, false] rfl rfl (one_of HT_.out zQ) (by decide) (fun K hK => ?_);have hb_ := zN (below_alloc (Below.refl wd.heap.size wd) (.cells #[.int .i64 0, .int .i64 0, .int .i64 0] 73));refine event_step (v := .pointer (some ⟨wd.heap.size, 0, none⟩)) (w1 := wd.alloc (.cells #[.int .i64 0, .int .i64 0, .int .i64 0] 73)) (by rfl) (by first | (go_simp; done) | (go_simp; rfl)) ?_;refine hK.out _ _ ⟨(blk_cell (blk_below HS.out.own hb_.out) 3).trans rfl, (blk_cell (blk_below G3.out hb_.out) 1).trans rfl, LK.out _ (HS.out.below hb_.out)⟩ (fun hHeld => ?_);clear hK K;refine norm_ (a' := ?_) ?_ ?_;rotate_left
    · show Act.put _ (some 6) _ = _
      simp only [zP];rfl
    clear hb_;refine last_ (i := 8) (N := none) #[true, true, true, true, true, true, true, true, true] rfl rfl (one_of HT_.out zQ) (by decide) (fun K hK => ?_);refine store_step (by rfl) 73 (.tmp 6) (.tmp 31) rfl ⟨wd.heap.size, 0, none⟩ (.agg #[.int .i64 sa, .int .i64 sb, .int .i64 sc]) rfl rfl (W1 := wd.alloc (.cells #[.int .i64 sa, .int .i64 sb, .int .i64 sc] 73)) (run_storeAt_new wd 73 #[.int .i64 0, .int .i64 0, .int .i64 0] #[.int .i64 sa, .int .i64 sb, .int .i64 sc] zQ rfl (one3 _ _ _)) ?_;have hb := below_alloc (Below.refl wd.heap.size wd) (.cells #[.int .i64 sa, .int .i64 sb, .int .i64 sc] 73);have G6 := zN (blk_new wd (.cells #[.int .i64 sa, .int .i64 sb, .int .i64 sc] 73));have N6 := zN HW0.out;replace HS := zN (HS.out.below hb);replace HC := zN (HC.out.below hb);replace HK := zN (HK.out.below hb);replace HN := zN (Nat.le_trans HN.out hb.size);replace HW0 := zN (Nat.le_trans HW0.out hb.size);replace HT := zN (Kd.C_below HT.out hb);replace G3 := zN (blk_below G3.out hb);replace G4 := zN (blk_below G4.out hb);generalize wd.heap.size = g6 at hb G6 N6 ⊢;generalize wd.alloc (.cells #[.int .i64 sa, .int .i64 sb, .int .i64 sc] 73) = w6 at hb HS HC HK HN HW0 HT G3 G4 G6 ⊢;clear hb;refine hK.out _ _ ?_;clear hK K;refine done_ (done_of HT_.out zQ) ?_;clear HT_;clear hHeld LK;have e2 : w6.cell? ⟨g3, 2, none⟩ = some (.int .i64 csq) := (blk_cell G3.out 2).trans rfl;have k0 : w6.cell? ⟨g6, 0, none⟩ = some (.int .i64 sa) := (blk_cell G6.out 0).trans rfl;have m0 : w6.cell? ⟨gs, 0, none⟩ = some (.int .i64 v) := (blk_cell HS.out.own 0).trans rfl;by_cases hq : csq = sa
    · have d3 : decide (csq = sa) = true := zt hq;go_wp2_with (first | ((with_reducible refine gate_dst (N := 39) rfl ?_); refine wpList_load_any rfl 38 (.tmp 38) rfl ⟨g6, 1, none⟩ rfl [.int .i64 sb, .int .i64 sc] _ (seen_cells G6.out) huR rfl zQ ?_; simp only [Act.put, List.setIfInBounds_toArray, List.set_cons_zero, List.set_cons_succ]) | ((with_reducible refine gate_ (.store 38 (.tmp 4) (.tmp 39)) rfl ?_); refine wpList_store_set rfl 38 (.tmp 4) (.tmp 39) rfl g4 _ #[.int .i64 sb, .int .i64 sc] rfl rfl G4.out zQ rfl (one2 _ _) ?_; intro w7 hb; replace HS := zN (HS.out.bset G4.out (by decide) hb); replace HC := zN (HC.out.bset G4.out (by decide) hb); replace HK := zN (kept_bset HK.out hb (.inr N4.out)); replace HN := zN (size_bset HN.out hb); replace HW0 := zN (size_bset HW0.out hb); replace G3 := zN (blk_bset G3.out hb (blk_ne G3.out G4.out (by decide))); replace G6 := zN (blk_bset G6.out hb (blk_ne G6.out G4.out (by decide))); replace G4 := zN hb.blk; clear hb));refine bodyPost_ret (results_do _ rfl G4.out rfl) rfl ?_;exact ⟨sb, sc, rfl, HK.out, _, _, _, _, _, _, HS.out, HC.out, HP.out, Nat.le_succ _, .inl ⟨rfl, rfl, rfl, rfl, rfl⟩⟩
    have d3 : decide (csq = sa) = false := zf hq;by_cases hq2 : csq < sa
    · have d4 : decide (csq < sa) = true := zt hq2;go_wp2_with (((with_reducible refine gate_ (.store 38 (.tmp 4) (.tmp 50)) rfl ?_); refine wpList_store_set rfl 38 (.tmp 4) (.tmp 50) rfl g4 _ #[.int .i64 12, .int .i64 v] rfl rfl G4.out zQ rfl (one2 _ _) ?_; intro w7 hb; replace HS := zN (HS.out.bset G4.out (by decide) hb); replace HC := zN (HC.out.bset G4.out (by decide) hb); replace HK := zN (kept_bset HK.out hb (.inr N4.out)); replace HN := zN (size_bset HN.out hb); replace HW0 := zN (size_bset HW0.out hb); replace G3 := zN (blk_bset G3.out hb (blk_ne G3.out G4.out (by decide))); replace G6 := zN (blk_bset G6.out hb (blk_ne G6.out G4.out (by decide))); replace G4 := zN hb.blk; clear hb));refine bodyPost_ret (results_do _ rfl G4.out rfl) rfl ?_;exact ⟨12, v, rfl, HK.out, _, _, _, _, _, _, HS.out, HC.out, HP.out, Nat.le_succ _, .inl ⟨rfl, rfl, rfl, rfl, rfl⟩⟩
    have d4 : decide (csq < sa) = false := zf hq2;go_wp2;go_meet;exact ⟨HS, HC, HK, HN, HW0, HT, G3, G4⟩
  case rest =>
    clear HS HC HK HN HW0 HT G3 G4;obtain ⟨HS, HC, HK, HN, HW0, HT, G3, G4⟩ := hcut;go_upto_block 1 with (fail)
    go_cut [7] (fun v7 wc => ∃ (er : Int) (DPn DRn : DataW Value) (fn : List UInt8 → List S62) (gn : PK → ByteArray), v7 = .int .i64 er ∧ Aside0 (er ≠ 0 → DPn = DP ∧ DRn = DR ∧ fn = f ∧ gn = g) ∧ Aside0 (StP DPn DRn fn gn) ∧ Aside0 (StAt wc gs bp br bc v DPn DRn DC) ∧ Aside0 (StC wc base DPn DRn DC fn gn) ∧ Aside0 (KeepW w wc (fun k => k = gs ∨ k = bp ∨ k = br ∨ k = bc)) ∧ Aside0 (base ≤ wc.heap.size) ∧ Aside0 (w.heap.size ≤ wc.heap.size) ∧ Aside0 (wc.heap[g3]? = some (.cells #[.int .i64 ca, .int .i64 ccl, .int .i64 csq, .int .i64 cex, .string ch, .string cpx, .string cpo, .slice At ts.length ct] 35 (0, 0))) ∧ Aside0 (wc.heap[g4]? = some (.cells #[.int .i64 0, .int .i64 0] 38 (0, 0))))
    case first =>
      go_upto_region 14 with (fail)
      by_cases hx : 0 ≤ cex
      · have d5 : decide (0 ≤ cex) = true := zt hx;by_cases hy : cex = v;rotate_left
        · have d6 : (cex != v) = true := by simpa using hy
          replace HS := zN HS.out.drew;replace HC := zN HC.out.drew;replace HK := zN HK.out.drew;replace HN := zN (size_drew HN.out);replace HW0 := zN (size_drew HW0.out);replace HT := zN (Kd.C_drew HT.out);replace G3 := zN (blk_drew G3.out);replace G4 := zN (blk_drew G4.out);refine start_ (n := 13) (S := fun w' => w' = wc.drew) (ds := []) #[false, false, false, false, false, false, false, false, false, false, false, false, false] zQ rfl rfl rfl (fun hHeld => ?_);refine with_tab (T := do_T14) do_T14_is (fun HT_ => ?_);generalize wc.drew = wd at HS HC HK HN HW0 HT G3 G4 hHeld ⊢;have e3 : wd.cell? ⟨g3, 3, none⟩ = some (.int .i64 cex) := (blk_cell G3.out 3).trans rfl;have m0 : wd.cell? ⟨gs, 0, none⟩ = some (.int .i64 v) := (blk_cell HS.out.own 0).trans rfl;refine zU (i := 0) (N := some 55) #[true, false, false, false, false, false, false, false, false, false, false, false, false] rfl rfl HT_ ?_;refine take_ (i := 1) (N := some 56) (v := ?_) (a' := ?_) #[true, true, false, false, false, false, false, false, false, false, false, false, false] rfl rfl (take_of HT_.out zQ) (fun _ _ _ h => h) (Or.inl ⟨by rfl, ?_⟩) hHeld ?_ ?_;rotate_left
          · rintro w' rfl;go_simp
            with_reducible rfl
          rotate_left
          · simp only [zP];rfl
          refine pure_ (i := 2) (N := some 57) (v := .bool true) (a' := ?_) #[true, true, true, false, false, false, false, false, false, false, false, false, false] rfl rfl (any_of HT_.out zQ) (fun _ _ _ h => h) (Or.inl ⟨by rfl, fun w' => by go_simp <;> first | done | rfl | omega | simp [d5]⟩) ?_ ?_;rotate_left
          · simp only [zP];rfl
          refine zU (i := 3) (N := some 58) #[true, true, true, true, false, false, false, false, false, false, false, false, false] rfl rfl HT_ ?_;refine zU (i := 4) (N := some 59) #[true, true, true, true, true, false, false, false, false, false, false, false, false] rfl rfl HT_ ?_;refine take_ (i := 5) (N := some 60) (v := ?_) (a' := ?_) #[true, true, true, true, true, true, false, false, false, false, false, false, false] rfl rfl (take_of HT_.out zQ) (fun _ _ _ h => h) (Or.inl ⟨by rfl, ?_⟩) hHeld ?_ ?_;rotate_left
          · rintro w' rfl;go_simp
            with_reducible rfl
          rotate_left
          · simp only [zP];rfl
          refine zU (i := 6) (N := some 61) #[true, true, true, true, true, true, true, false, false, false, false, false, false] rfl rfl HT_ ?_;refine zU (i := 7) (N := some 62) #[true, true, true, true, true, true, true, true, false, false, false, false, false] rfl rfl HT_ ?_;refine zU (i := 8) (N := some 63) #[true, true, true, true, true, true, true, true, true, false, false, false, false] rfl rfl HT_ ?_;refine take_ (i := 9) (N := some 64) (v := ?_) (a' := ?_) #[true, true, true, true, true, true, true, true, true, true, false, false, false] rfl rfl (take_of HT_.out zQ) (fun _ _ _ h => h) (Or.inl ⟨by rfl, ?_⟩) hHeld ?_ ?_;rotate_left
          · rintro w' rfl;go_simp
            with_reducible rfl
          rotate_left
          · simp only [zP];rfl
          refine pure_ (i := 10) (N := some 65) (v := .bool true) (a' := ?_) #[true, true, true, true, true, true, true, true, true, true, true, false, false] rfl rfl (any_of HT_.out zQ) (fun _ _ _ h => h) (Or.inl ⟨by rfl, fun w' => by go_simp <;> first | done | rfl | omega | simp [d6]⟩) ?_ ?_;rotate_left
          · simp only [zP];rfl
          refine zU (i := 11) (N := some 66) #[true, true, true, true, true, true, true, true, true, true, true, true, false] rfl rfl HT_ ?_;refine zU (i := 12) (N := some 54) #[true, true, true, true, true, true, true, true, true, true, true, true, true] rfl rfl HT_ ?_;refine done_ (done_of HT_.out zQ) ?_;clear HT_;clear hHeld e3 m0;go_wp2;go_meet;exact ⟨12, _, _, _, _, rfl, ⟨fun _ => ⟨rfl, rfl, rfl, rfl⟩⟩, HP, HS, HC, HK, HN, HW0, G3, G4⟩
        have d6 : (cex != v) = false := by simpa using hy
        replace HS := zN HS.out.drew;replace HC := zN HC.out.drew;replace HK := zN HK.out.drew;replace HN := zN (size_drew HN.out);replace HW0 := zN (size_drew HW0.out);replace HT := zN (Kd.C_drew HT.out);replace G3 := zN (blk_drew G3.out);replace G4 := zN (blk_drew G4.out);refine start_ (n := 13) (S := fun w' => w' = wc.drew) (ds := []) #[false, false, false, false, false, false, false, false, false, false, false, false, false] zQ rfl rfl rfl (fun hHeld => ?_);refine with_tab (T := do_T14) do_T14_is (fun HT_ => ?_);generalize wc.drew = wd at HS HC HK HN HW0 HT G3 G4 hHeld ⊢;have e3 : wd.cell? ⟨g3, 3, none⟩ = some (.int .i64 cex) := (blk_cell G3.out 3).trans rfl;have m0 : wd.cell? ⟨gs, 0, none⟩ = some (.int .i64 v) := (blk_cell HS.out.own 0).trans rfl;refine zU (i := 0) (N := some 55) #[true, false, false, false, false, false, false, false, false, false, false, false, false] rfl rfl HT_ ?_;refine take_ (i := 1) (N := some 56) (v := ?_) (a' := ?_) #[true, true, false, false, false, false, false, false, false, false, false, false, false] rfl rfl (take_of HT_.out zQ) (fun _ _ _ h => h) (Or.inl ⟨by rfl, ?_⟩) hHeld ?_ ?_;rotate_left
        · rintro w' rfl;go_simp
          with_reducible rfl
        rotate_left
        · simp only [zP];rfl
        refine pure_ (i := 2) (N := some 57) (v := .bool true) (a' := ?_) #[true, true, true, false, false, false, false, false, false, false, false, false, false] rfl rfl (any_of HT_.out zQ) (fun _ _ _ h => h) (Or.inl ⟨by rfl, fun w' => by go_simp <;> first | done | rfl | omega | simp [d5]⟩) ?_ ?_;rotate_left
        · simp only [zP];rfl
        refine zU (i := 3) (N := some 58) #[true, true, true, true, false, false, false, false, false, false, false, false, false] rfl rfl HT_ ?_;refine zU (i := 4) (N := some 59) #[true, true, true, true, true, false, false, false, false, false, false, false, false] rfl rfl HT_ ?_;refine take_ (i := 5) (N := some 60) (v := ?_) (a' := ?_) #[true, true, true, true, true, true, false, false, false, false, false, false, false] rfl rfl (take_of HT_.out zQ) (fun _ _ _ h => h) (Or.inl ⟨by rfl, ?_⟩) hHeld ?_ ?_;rotate_left
        · rintro w' rfl;go_simp
          with_reducible rfl
        rotate_left
        · simp only [zP];rfl
        refine zU (i := 6) (N := some 61) #[true, true, true, true, true, true, true, false, false, false, false, false, false] rfl rfl HT_ ?_;refine zU (i := 7) (N := some 62) #[true, true, true, true, true, true, true, true, false, false, false, false, false] rfl rfl HT_ ?_;refine zU (i := 8) (N := some 63) #[true, true, true, true, true, true, true, true, true, false, false, false, false] rfl rfl HT_ ?_;refine take_ (i := 9) (N := some 64) (v := ?_) (a' := ?_) #[true, true, true, true, true, true, true, true, true, true, false, false, false] rfl rfl (take_of HT_.out zQ) (fun _ _ _ h => h) (Or.inl ⟨by rfl, ?_⟩) hHeld ?_ ?_;rotate_left
        · rintro w' rfl;go_simp
          with_reducible rfl
        rotate_left
        · simp only [zP];rfl
        refine pure_ (i := 10) (N := some 65) (v := .bool false) (a' := ?_) #[true, true, true, true, true, true, true, true, true, true, true, false, false] rfl rfl (any_of HT_.out zQ) (fun _ _ _ h => h) (Or.inl ⟨by rfl, fun w' => by go_simp <;> first | done | rfl | omega | simp [d6]⟩) ?_ ?_;rotate_left
        · simp only [zP];rfl
        refine zU (i := 11) (N := some 66) #[true, true, true, true, true, true, true, true, true, true, true, true, false] rfl rfl HT_ ?_;refine zU (i := 12) (N := some 54) #[true, true, true, true, true, true, true, true, true, true, true, true, true] rfl rfl HT_ ?_;refine done_ (done_of HT_.out zQ) ?_;clear HT_;clear hHeld e3 m0;clear hy d6;have d8 : decide (v = 1099511627776) = false := zf (by have := HV.out; omega);have d9 : (v == 1099511627776) = false := by simpa using d8
        have m0 : wd.cell? ⟨gs, 0, none⟩ = some (.int .i64 v) := (blk_cell HS.out.own 0).trans rfl;go_upto_region 13 with (fail)
        clear m0 d8 d9;go_wp2_with (first | ((with_reducible refine gate_dst (N := 52) rfl ?_); refine wpList_load_any rfl 35 (.tmp 3) rfl ⟨g3, 0, none⟩ rfl [.int .i64 ca, .int .i64 ccl, .int .i64 csq, .int .i64 cex, .string ch, .string cpx, .string cpo, .slice At ts.length ct] _ (blk_cells G3.out) huC rfl zQ ?_; simp only [Act.put, List.setIfInBounds_toArray, List.set_cons_zero, List.set_cons_succ]) | (go_at_call 16; have hA := act_ok HS.out HC.out HP.out HD.out HN.out ca ccl csq cex ch cpx cpo At ct ts HT.out HTT.out.1 HTT.out.2.1 HTT.out.2.2 HZZ.out; refine hA.mono ?_; clear hA; rintro e w9 ⟨er, rfl, hk, hcase⟩; have HA := zN hcase; replace HW0 := zN (Nat.le_trans HW0.out hk.1); replace HN := zN (Nat.le_trans HN.out hk.1); replace HK := zN (KeepW.then_ HK.out hk (fun _ h => .inl (h.elim (fun e => .inr (.inl e)) (fun e => .inr (.inr (.inl e)))))); replace G3 := zN (blk_act G3.out HS.out hk); replace G4 := zN (blk_act G4.out HS.out hk); clear hk HT; clear hcase));go_meet
        rcases HA.out with ⟨h0, h1, h2⟩ | ⟨h0, DPn, DRn, fn, gn, h1, h2, h3⟩
        · exact ⟨er, _, _, _, _, rfl, ⟨fun _ => ⟨rfl, rfl, rfl, rfl⟩⟩, HP, ⟨h1⟩, ⟨h2⟩, HK, HN, HW0, G3, G4⟩
        exact ⟨er, DPn, DRn, fn, gn, rfl, ⟨fun h => absurd h0 h⟩, ⟨h3⟩, ⟨h1⟩, ⟨h2⟩, HK, HN, HW0, G3, G4⟩
      have d5 : decide (0 ≤ cex) = false := zf hx;replace HS := zN HS.out.drew;replace HC := zN HC.out.drew;replace HK := zN HK.out.drew;replace HN := zN (size_drew HN.out);replace HW0 := zN (size_drew HW0.out);replace HT := zN (Kd.C_drew HT.out);replace G3 := zN (blk_drew G3.out);replace G4 := zN (blk_drew G4.out);refine start_ (n := 13) (S := fun w' => w' = wc.drew) (ds := []) #[false, false, false, false, false, false, false, false, false, false, false, false, false] zQ rfl rfl rfl (fun hHeld => ?_);refine with_tab (T := do_T14) do_T14_is (fun HT_ => ?_);generalize wc.drew = wd at HS HC HK HN HW0 HT G3 G4 hHeld ⊢;have e3 : wd.cell? ⟨g3, 3, none⟩ = some (.int .i64 cex) := (blk_cell G3.out 3).trans rfl;have m0 : wd.cell? ⟨gs, 0, none⟩ = some (.int .i64 v) := (blk_cell HS.out.own 0).trans rfl;refine zU (i := 0) (N := some 55) #[true, false, false, false, false, false, false, false, false, false, false, false, false] rfl rfl HT_ ?_;refine take_ (i := 1) (N := some 56) (v := ?_) (a' := ?_) #[true, true, false, false, false, false, false, false, false, false, false, false, false] rfl rfl (take_of HT_.out zQ) (fun _ _ _ h => h) (Or.inl ⟨by rfl, ?_⟩) hHeld ?_ ?_;rotate_left
      · rintro w' rfl;go_simp
        with_reducible rfl
      rotate_left
      · simp only [zP];rfl
      refine pure_ (i := 2) (N := some 57) (v := .bool false) (a' := ?_) #[true, true, true, false, false, false, false, false, false, false, false, false, false] rfl rfl (any_of HT_.out zQ) (fun _ _ _ h => h) (Or.inl ⟨by rfl, fun w' => by go_simp <;> first | done | rfl | omega | simp [d5]⟩) ?_ ?_;rotate_left
      · simp only [zP];rfl
      refine zU (i := 3) (N := some 58) #[true, true, true, true, false, false, false, false, false, false, false, false, false] rfl rfl HT_ ?_;refine pure_ (i := 4) (N := some 59) (v := undef) (a' := ?_) #[true, true, true, true, true, false, false, false, false, false, false, false, false] rfl rfl (any_of HT_.out zQ) (fun _ _ _ h => h) (Or.inr ⟨by rfl, rfl⟩) ?_ ?_;rotate_left
      · simp only [zP];rfl
      refine take_ (i := 5) (N := some 60) (v := undef) (a' := ?_) #[true, true, true, true, true, true, false, false, false, false, false, false, false] rfl rfl (take_of HT_.out zQ) (fun _ _ _ h => h) (Or.inr ⟨by rfl, rfl⟩) hHeld ?_ ?_;rotate_left
      · simp only [zP];rfl
      refine pure_ (i := 6) (N := some 61) (v := undef) (a' := ?_) #[true, true, true, true, true, true, true, false, false, false, false, false, false] rfl rfl (any_of HT_.out zQ) (fun _ _ _ h => h) (Or.inr ⟨by rfl, rfl⟩) ?_ ?_;rotate_left
      · simp only [zP];rfl
      refine pure_ (i := 7) (N := some 62) (v := undef) (a' := ?_) #[true, true, true, true, true, true, true, true, false, false, false, false, false] rfl rfl (any_of HT_.out zQ) (fun _ _ _ h => h) (Or.inr ⟨by rfl, rfl⟩) ?_ ?_;rotate_left
      · simp only [zP];rfl
      refine pure_ (i := 8) (N := some 63) (v := undef) (a' := ?_) #[true, true, true, true, true, true, true, true, true, false, false, false, false] rfl rfl (any_of HT_.out zQ) (fun _ _ _ h => h) (Or.inr ⟨by rfl, rfl⟩) ?_ ?_;rotate_left
      · simp only [zP];rfl
      refine take_ (i := 9) (N := some 64) (v := undef) (a' := ?_) #[true, true, true, true, true, true, true, true, true, true, false, false, false] rfl rfl (take_of HT_.out zQ) (fun _ _ _ h => h) (Or.inr ⟨by rfl, rfl⟩) hHeld ?_ ?_;rotate_left
      · simp only [zP];rfl
      refine pure_ (i := 10) (N := some 65) (v := undef) (a' := ?_) #[true, true, true, true, true, true, true, true, true, true, true, false, false] rfl rfl (any_of HT_.out zQ) (fun _ _ _ h => h) (Or.inr ⟨by rfl, rfl⟩) ?_ ?_;rotate_left
      · simp only [zP];rfl
      refine zU (i := 11) (N := some 66) #[true, true, true, true, true, true, true, true, true, true, true, true, false] rfl rfl HT_ ?_;refine zU (i := 12) (N := some 54) #[true, true, true, true, true, true, true, true, true, true, true, true, true] rfl rfl HT_ ?_;refine done_ (done_of HT_.out zQ) ?_;clear HT_;clear hHeld e3 m0;have d8 : decide (v = 1099511627776) = false := zf (by have := HV.out; omega);have d9 : (v == 1099511627776) = false := by simpa using d8
      have m0 : wd.cell? ⟨gs, 0, none⟩ = some (.int .i64 v) := (blk_cell HS.out.own 0).trans rfl;go_upto_region 13 with (fail)
      clear m0 d8 d9;go_wp2_with (first | ((with_reducible refine gate_dst (N := 52) rfl ?_); refine wpList_load_any rfl 35 (.tmp 3) rfl ⟨g3, 0, none⟩ rfl [.int .i64 ca, .int .i64 ccl, .int .i64 csq, .int .i64 cex, .string ch, .string cpx, .string cpo, .slice At ts.length ct] _ (blk_cells G3.out) huC rfl zQ ?_; simp only [Act.put, List.setIfInBounds_toArray, List.set_cons_zero, List.set_cons_succ]) | (go_at_call 16; have hA := act_ok HS.out HC.out HP.out HD.out HN.out ca ccl csq cex ch cpx cpo At ct ts HT.out HTT.out.1 HTT.out.2.1 HTT.out.2.2 HZZ.out; refine hA.mono ?_; clear hA; rintro e w9 ⟨er, rfl, hk, hcase⟩; have HA := zN hcase; replace HW0 := zN (Nat.le_trans HW0.out hk.1); replace HN := zN (Nat.le_trans HN.out hk.1); replace HK := zN (KeepW.then_ HK.out hk (fun _ h => .inl (h.elim (fun e => .inr (.inl e)) (fun e => .inr (.inr (.inl e)))))); replace G3 := zN (blk_act G3.out HS.out hk); replace G4 := zN (blk_act G4.out HS.out hk); clear hk HT; clear hcase));go_meet
      rcases HA.out with ⟨h0, h1, h2⟩ | ⟨h0, DPn, DRn, fn, gn, h1, h2, h3⟩
      · exact ⟨er, _, _, _, _, rfl, ⟨fun _ => ⟨rfl, rfl, rfl, rfl⟩⟩, HP, ⟨h1⟩, ⟨h2⟩, HK, HN, HW0, G3, G4⟩
      exact ⟨er, DPn, DRn, fn, gn, rfl, ⟨fun h => absurd h0 h⟩, ⟨h3⟩, ⟨h1⟩, ⟨h2⟩, HK, HN, HW0, G3, G4⟩
    case rest =>
      clear HS HC HK HN HW0 HT G3 G4;obtain ⟨er, DPn, DRn, fn, gn, rfl, HSM, HPN, HS, HC, HK, HN, HW0, G3, G4⟩ := hcut;go_upto_if 74 with (fail)
      go_cut [8] (fun v8 wc => ∃ vn : Int, Aside0 ((vn = v ∧ DPn = DP ∧ DRn = DR ∧ fn = f ∧ gn = g) ∨ (er = 0 ∧ vn = v + 1)) ∧ Aside0 (StAt wc gs bp br bc vn DPn DRn DC) ∧ Aside0 (StC wc base DPn DRn DC fn gn) ∧ Aside0 (KeepW w wc (fun k => k = gs ∨ k = bp ∨ k = br ∨ k = bc)) ∧ Aside0 (base ≤ wc.heap.size) ∧ Aside0 (w.heap.size ≤ wc.heap.size) ∧ Aside0 (wc.heap[g3]? = some (.cells #[.int .i64 ca, .int .i64 ccl, .int .i64 csq, .int .i64 cex, .string ch, .string cpx, .string cpo, .slice At ts.length ct] 35 (0, 0))) ∧ Aside0 (wc.heap[g4]? = some (.cells #[.int .i64 0, .int .i64 0] 38 (0, 0))))
      case first =>
        by_cases her : er = 0;rotate_left
        · have d1 : (er == 0) = false := by simpa using her
          have d2 : decide (er = 0) = false := zf her;have HER := zN her; clear her;go_wp2;go_meet;exact ⟨v, ⟨.inl ⟨rfl, HSM.out HER.out⟩⟩, HS, HC, HK, HN, HW0, G3, G4⟩
        have d1 : (er == 0) = true := by simpa using her
        have d2 : decide (er = 0) = true := zt her;have HER := zN her; clear her;have m0 : wc.cell? ⟨gs, 0, none⟩ = some (.int .i64 v) := (blk_cell HS.out.own 0).trans rfl;have z0 : wc.frozen? ⟨gs, 0, none⟩ = false := blk_frozen HS.out.own 0;have hwv : wrap64 (v + 1) = v + 1 := by have := HV.out; unfold wrap64; omega
        go_wp2;go_meet;exact ⟨v + 1, ⟨.inr ⟨HER.out, rfl⟩⟩, ⟨HS.out.bump (v + 1)⟩, ⟨HC.out.set HS.out.own (by decide) 0 (.int .i64 (v + 1))⟩, ⟨KeepW.setCell HK.out (.inl (.inl rfl)) _⟩, ⟨by simpa [World.setCell] using HN.out⟩, ⟨by simpa [World.setCell] using HW0.out⟩, ⟨blk_far (p := ⟨gs, 0, none⟩) G3.out (blk_ne G3.out HS.out.own (by decide)) (.int .i64 (v + 1))⟩, ⟨blk_far (p := ⟨gs, 0, none⟩) G4.out (blk_ne G4.out HS.out.own (by decide)) (.int .i64 (v + 1))⟩⟩
      case rest =>
        clear HS HC HK HN HW0 G3 G4;obtain ⟨vn, HVS, HS, HC, HK, HN, HW0, G3, G4⟩ := hcut;have m0 : wc.cell? ⟨gs, 0, none⟩ = some (.int .i64 vn) := (blk_cell HS.out.own 0).trans rfl;go_upto_region 20 with (fail)
        clear m0;have hb := below_alloc (Below.refl wc.heap.size wc) (.cells #[.int .i64 er, .int .i64 vn] 38);have G8 := zN (blk_new wc (.cells #[.int .i64 er, .int .i64 vn] 38));have N8 := zN HW0.out;replace HS := zN (HS.out.below hb);replace HC := zN (HC.out.below hb);replace HK := zN (HK.out.below hb);replace HN := zN (Nat.le_trans HN.out hb.size);replace HW0 := zN (Nat.le_trans HW0.out hb.size);replace G3 := zN (blk_below G3.out hb);replace G4 := zN (blk_below G4.out hb);generalize wc.heap.size = g8 at hb G8 N8 ⊢;generalize wc.alloc (.cells #[.int .i64 er, .int .i64 vn] 38) = w8 at hb HS HC HK HN HW0 G3 G4 G8 ⊢;clear hb;have e1 : w8.cell? ⟨g3, 1, none⟩ = some (.int .i64 ccl) := (blk_cell G3.out 1).trans rfl;by_cases hcl : 0 < ccl;rotate_left
        · have d2 : decide (0 < ccl) = false := zf hcl;go_wp2_with (first | ((with_reducible refine gate_dst (N := 101) rfl ?_); refine wpList_load_any rfl 38 (.tmp 8) rfl ⟨g8, 0, none⟩ rfl [.int .i64 er, .int .i64 vn] _ (blk_cells G8.out) huR rfl zQ ?_; simp only [Act.put, List.setIfInBounds_toArray, List.set_cons_zero, List.set_cons_succ]) | ((with_reducible refine gate_ (.store 38 (.tmp 4) (.tmp 101)) rfl ?_); refine wpList_store_set rfl 38 (.tmp 4) (.tmp 101) rfl g4 _ #[.int .i64 er, .int .i64 vn] rfl rfl G4.out zQ rfl (one2 _ _) ?_; intro w12 hb; replace HS := zN (HS.out.bset G4.out (by decide) hb); replace HC := zN (HC.out.bset G4.out (by decide) hb); replace HK := zN (kept_bset HK.out hb (.inr N4.out)); replace HN := zN (size_bset HN.out hb); replace HW0 := zN (size_bset HW0.out hb); replace G3 := zN (blk_bset G3.out hb (blk_ne G3.out G4.out (by decide))); replace G4 := zN hb.blk; clear hb));refine bodyPost_ret (results_do _ rfl G4.out rfl) rfl ?_;exact ⟨er, vn, rfl, HK.out, _, _, _, _, _, _, HS.out, HC.out, HPN.out, Nat.le_succ _, HVS.out⟩
        have d2 : decide (0 < ccl) = true := zt hcl;go_upto_region 21 with (fail)
        clear e1 d2;have HIC := zN HS.out.mc.isMap;have HKY := zN (keyOf_int_mk Tryz.underlying3 HCW.out);have HKC := zN (keyedI.key HKY.out);have HSD := zN (show Maps.size (DC.put (.int .i64 ccl) (.held (.agg #[.int .i64 csq, .int .i64 er, .int .i64 vn]))) ≤ Maps.size DC + 1 from by rw [size_put (HS.out.mc.tidy keyedI)]; split <;> omega);replace HS := zN HS.out.drew;replace HC := zN HC.out.drew;replace HK := zN HK.out.drew;replace HN := zN (size_drew HN.out);replace HW0 := zN (size_drew HW0.out);replace G3 := zN (blk_drew G3.out);replace G4 := zN (blk_drew G4.out);replace G8 := zN (blk_drew G8.out);refine start_ (n := 11) (S := fun w' => w' = w8.drew) (ds := [10]) #[false, false, false, false, false, false, false, false, false, false, false] zQ rfl rfl rfl (fun hHeld => ?_);refine with_tab (T := do_T21) do_T21_is (fun HT_ => ?_);generalize w8.drew = wd at HS HC HK HN HW0 G3 G4 G8 hHeld ⊢;have m3 : wd.cell? ⟨gs, 3, none⟩ = some (.map (some bc)) := (blk_cell HS.out.own 3).trans rfl;have e1 : wd.cell? ⟨g3, 1, none⟩ = some (.int .i64 ccl) := (blk_cell G3.out 1).trans rfl;have e2 : wd.cell? ⟨g3, 2, none⟩ = some (.int .i64 csq) := (blk_cell G3.out 2).trans rfl;refine zU (i := 0) (N := some 91) #[true, false, false, false, false, false, false, false, false, false, false] rfl rfl HT_ ?_;refine zU (i := 1) (N := some 92) #[true, true, false, false, false, false, false, false, false, false, false] rfl rfl HT_ ?_;refine zU (i := 2) (N := some 93) #[true, true, true, false, false, false, false, false, false, false, false] rfl rfl HT_ ?_;refine take_ (i := 3) (N := some 94) (v := ?_) (a' := ?_) #[true, true, true, true, false, false, false, false, false, false, false] rfl rfl (take_of HT_.out zQ) (fun _ _ _ h => h) (Or.inl ⟨by rfl, ?_⟩) hHeld ?_ ?_;rotate_left
        · rintro w' rfl;go_simp
          with_reducible rfl
        rotate_left
        · simp only [zP];rfl
        refine zU (i := 4) (N := some 95) #[true, true, true, true, true, false, false, false, false, false, false] rfl rfl HT_ ?_;refine take_ (i := 5) (N := some 96) (v := ?_) (a' := ?_) #[true, true, true, true, true, true, false, false, false, false, false] rfl rfl (take_of HT_.out zQ) (fun _ _ _ h => h) (Or.inl ⟨by rfl, ?_⟩) hHeld ?_ ?_;rotate_left
        · rintro w' rfl;go_simp
          with_reducible rfl
        rotate_left
        · simp only [zP];rfl
        refine zU (i := 6) (N := some 97) #[true, true, true, true, true, true, true, false, false, false, false] rfl rfl HT_ ?_;refine take_ (i := 7) (N := some 98) (v := ?_) (a' := ?_) #[true, true, true, true, true, true, true, true, false, false, false] rfl rfl (take_of HT_.out zQ) (fun _ _ _ h => h) (Or.inl ⟨by rfl, ?_⟩) hHeld ?_ ?_;rotate_left
        · rintro w' rfl;go_simp
          with_reducible rfl
        rotate_left
        · simp only [zP];rfl
        refine take_ (i := 8) (N := some 99) (v := .agg #[.int .i64 er, .int .i64 vn]) (a' := ?_) #[true, true, true, true, true, true, true, true, true, false, false] rfl rfl (take_of HT_.out zQ) (fun _ _ _ h => h) (yieldsIf_load_any (by rfl) 38 (.tmp 8) rfl ⟨g8, 0, none⟩ rfl [.int .i64 er, .int .i64 vn] _ (fun w_ hw_ => by rw [hw_]; exact blk_cells G8.out) huR rfl zQ) hHeld ?_ ?_;rotate_left
        · simp only [zP];rfl
        refine zU (i := 9) (N := some 100) #[true, true, true, true, true, true, true, true, true, true, false] rfl rfl HT_ ?_;refine last_ (i := 10) (N := none) #[true, true, true, true, true, true, true, true, true, true, true] rfl rfl (one_of HT_.out zQ) (by decide) (fun K hK => ?_);clear m3 e1 e2;refine update_step (by rfl) 66 (.tmp 94) (.tmp 96) (.tmp 100) rfl 3 73 keyedI Tryz.underlying66 HR bc _ _ HS.out.mc (Nat.lt_of_le_of_lt HDC.out (by decide)) rfl (.int .i64 ccl) (.agg #[.int .i64 csq, .int .i64 er, .int .i64 vn]) _ rfl rfl HKY.out (.held (.agg #[.int .i64 csq, .int .i64 er, .int .i64 vn])) [] rfl (fun w9 hm ht => ?_);replace HS := zN (HS.out.turnC HD.out hm ht);replace HC := zN ((HC.out.putC HIC.out HKC.out csq er vn).turned ht);replace HK := zN (KeepW.turned HK.out ht (.inr (.inr (.inr rfl))));replace HN := zN (size_turned HN.out ht);replace HW0 := zN (size_turned HW0.out ht);replace G3 := zN (turned_cells ht G3.out);replace G4 := zN (turned_cells ht G4.out);replace G8 := zN (turned_cells ht G8.out);clear hm ht;refine hK.out _ _ ?_;clear hK K;refine done_ (done_of HT_.out zQ) ?_;clear HT_;clear hHeld;go_wp2_with (first | ((with_reducible refine gate_dst (N := 101) rfl ?_); refine wpList_load_any rfl 38 (.tmp 8) rfl ⟨g8, 0, none⟩ rfl [.int .i64 er, .int .i64 vn] _ (blk_cells G8.out) huR rfl zQ ?_; simp only [Act.put, List.setIfInBounds_toArray, List.set_cons_zero, List.set_cons_succ]) | ((with_reducible refine gate_ (.store 38 (.tmp 4) (.tmp 101)) rfl ?_); refine wpList_store_set rfl 38 (.tmp 4) (.tmp 101) rfl g4 _ #[.int .i64 er, .int .i64 vn] rfl rfl G4.out zQ rfl (one2 _ _) ?_; intro w12 hb; replace HS := zN (HS.out.bset G4.out (by decide) hb); replace HC := zN (HC.out.bset G4.out (by decide) hb); replace HK := zN (kept_bset HK.out hb (.inr N4.out)); replace HN := zN (size_bset HN.out hb); replace HW0 := zN (size_bset HW0.out hb); replace G3 := zN (blk_bset G3.out hb (blk_ne G3.out G4.out (by decide))); replace G4 := zN hb.blk; clear hb));refine bodyPost_ret (results_do _ rfl G4.out rfl) rfl ?_;exact ⟨er, vn, rfl, HK.out, _, _, _, _, _, _, HS.out, HC.out, HPN.out, HSD.out, HVS.out⟩
noncomputable def sc_T7 : Bool × List (List Nat × List Nat) := rtab .any (opsOf Tryz.f9 7)
theorem sc_T7_is : rtab .any (opsOf Tryz.f9 7) = sc_T7 := rfl
noncomputable def sc_T12 : Bool × List (List Nat × List Nat) := rtab .any (opsOf Tryz.f9 12)
theorem sc_T12_is : rtab .any (opsOf Tryz.f9 12) = sc_T12 := rfl
theorem results_cfg {w : World} {gx : Nat} {cs : Array Value} (tmps : Array Value) (hp : tmps.getD 2 undef = .pointer (some ⟨gx, 0, none⟩)) (hx : w.heap[gx]? = some (.cells cs 44 (0, 0))) (hs : cs.size = 3) :
    (results Tryz.f9 tmps).run Tryz.prog w = .ok (.agg cs) w := by
  have h2 : tmps[2]?.getD undef = .pointer (some ⟨gx, 0, none⟩) := by simpa using hp
  have hi : (Tryz.prog.info? 44).map (·.size) = some cs.size := by rw [hs]; kernel_rfl
  simp [results, Tryz.results9, h2, asAddr, run_loadVar_row w gx 44 44 cs (0, 0) _ hx Tryz.underlying44 rfl hi]
set_option maxHeartbeats 16000000 in
set_option maxRecDepth 100000 in
theorem storeConfig_ok {gs bp br bc : Nat} {v : Int} {DP DR DC : DataW Value} {f : List UInt8 → List S62} {g : PK → ByteArray} {w : World} {base : Nat} (h : StAt w gs bp br bc v DP DR DC) (hc : StC w base DP DR DC f g) (hp : StP DP DR f g) :
    Calls Tryz.prog 9 #[.pointer (some ⟨gs, 0, none⟩)] w fun e w' => ∃ A1 c1 A2 c2 ts, e = .returned (.agg #[.int .i64 v, .slice A1 (routesL ts g).length c1, .slice A2 (poolsL DP f).length c2]) ∧ (KeysP DR ts ∧ ts.length ≤ Maps.size DR) ∧ Kd.C k54 w' A1 (routesL ts g).length (routesL ts g) ∧ (routesL ts g).length ≤ c1 ∧ Kd.C k58 w' A2 (poolsL DP f).length (poolsL DP f) ∧ (poolsL DP f).length ≤ c2 ∧ Below w.heap.size w w' := by
  have HS := zN h;have HC := zN hc;have HP := zN hp;clear h hc hp;have HB := zN (Below.refl w.heap.size w);have huS := Tryz.underlying68;have huC := Tryz.underlying44;have huP := Tryz.underlying84;have huO := Tryz.underlying58;have huR := Tryz.underlying54;go_enter Tryz.func9, Tryz.ntmps9;go_upto_region 1 with (fail)
  have hb := below_alloc (Below.refl w.heap.size w) (.cells #[.int .i64 0, .slice none 0 0, .slice none 0 0] 44);have G2 := zN (blk_new w (.cells #[.int .i64 0, .slice none 0 0, .slice none 0 0] 44));have N2 := zN (Nat.ne_of_lt (blk_lt HS.out.own) : gs ≠ w.heap.size);replace HS := zN (HS.out.below hb);replace HC := zN (HC.out.below hb);replace HB := zN hb;generalize hg2 : w.heap.size = g2 at hb G2 N2 ⊢;have E2 := zN hg2;clear hg2;generalize w.alloc (.cells #[.int .i64 0, .slice none 0 0, .slice none 0 0] 44) = w1 at hb HS HC HB G2 ⊢;clear hb;have c0 : w1.cell? ⟨gs, 0, none⟩ = some (.int .i64 v) := (blk_cell HS.out.own 0).trans rfl;go_upto_region 4 with (fail)
  clear c0;have hb := below_alloc (Below.refl w1.heap.size w1) (.cells #[.int .i64 v, .slice none 0 0, .slice none 0 0] 44);have G3 := zN (blk_new w1 (.cells #[.int .i64 v, .slice none 0 0, .slice none 0 0] 44));have N3 := zN (And.intro (Nat.ne_of_lt (blk_lt HS.out.own) : gs ≠ w1.heap.size) (And.intro (Nat.ne_of_lt (blk_lt G2.out) : g2 ≠ w1.heap.size) (show w.heap.size ≤ w1.heap.size from HB.out.size)));replace HS := zN (HS.out.below hb);replace HC := zN (HC.out.below hb);replace HB := zN (below_step HB.out hb);replace G2 := zN (blk_below G2.out hb);generalize hg3 : w1.heap.size = g3 at hb G3 N3 ⊢;clear hg3;generalize w1.alloc (.cells #[.int .i64 v, .slice none 0 0, .slice none 0 0] 44) = w2 at hb HS HC HB G2 G3 ⊢;clear hb;have c1 : w2.cell? ⟨gs, 1, none⟩ = some (.map (some bp)) := (blk_cell HS.out.own 1).trans rfl;obtain ⟨ns, hns⟩ : ∃ ns, ns = (namesOf DP).map ofB := ⟨_, rfl⟩;have HNS := zN hns;have hnl : ns.length ≤ 200 := by have := names_length HS.out.mp; have := HP.out.np; rw [hns, List.length_map]; omega
  have HNL := zN hnl;clear hns hnl;go_wp2_with (first | (go_at_call 19; refine (keysS _ _).mono ?_; rintro e w3 ⟨rfl, rfl⟩) | (go_at_call 18; refine (names_ok bp _ DP w2 HS.out.mp (by have := HP.out.np; omega)).mono ?_; rintro e w3 ⟨v21, rfl, hR, hb⟩; rw [← HNS.out] at hR; obtain ⟨An, cn, rfl⟩ := Kd.R_slice hR; have HNR := zN (Kd.R_lower hR HB.out.size); clear hR c1; replace HS := zN (HS.out.below hb); replace HC := zN (HC.out.below hb); replace HB := zN (below_step HB.out hb); replace G2 := zN (blk_below G2.out hb); replace G3 := zN (blk_below G3.out hb); clear hb));go_loopg [23] ns.length (fun n v23 wr => ∃ (i : Nat) (A2 : Option Addr) (c2 : Nat), v23 = .int .i64 (i : Int) ∧ Aside0 (i + n = ns.length) ∧ Aside0 (StAt wr gs bp br bc v DP DR DC) ∧ Aside0 (StC wr base DP DR DC f g) ∧ Aside0 (Below w.heap.size w wr) ∧ Aside0 (wr.heap[g2]? = some (.cells #[.int .i64 0, .slice none 0 0, .slice none 0 0] 44 (0, 0))) ∧ Aside0 (wr.heap[g3]? = some (.cells #[.int .i64 v, .slice none 0 0, .slice A2 ((poolsL DP f).take i).length c2] 44 (0, 0))) ∧ Aside0 (Kd.R Kd.string 9 wr w.heap.size (fun _ => True) (.slice An ns.length cn) ns) ∧ Aside0 (Kd.R k58 58 wr w.heap.size (fun _ => True) (.slice A2 ((poolsL DP f).take i).length c2) ((poolsL DP f).take i)))
  case atStart => exact ⟨0, none, 0, rfl, ⟨zO⟩, HS, HC, HB, G2, G3, HNR, ⟨Kd.R_nil _ _ _ _ _⟩⟩
  case round =>
    clear HS HC HB G2 G3 HNR;obtain ⟨i, A2, c2, rfl, HN, HS, HC, HB, G2, G3, HNR, HPR⟩ := hrel;obtain ⟨pl, hpl⟩ : ∃ pl, pl = (poolsL DP f).take i := ⟨_, rfl⟩;have HPL := zN hpl;rw [← hpl] at HPR G3;clear hpl;by_cases hi : i < ns.length;rotate_left
    · have d1 : decide ((i : Int) < (ns.length : Int)) = false := zf zO;obtain rfl : i = ns.length := by have := HN.out; omega
      clear hi;have e2 : pl = poolsL DP f := by rw [HPL.out, HNS.out]; exact List.take_of_length_le (by simp [poolsL])
      clear HPL;subst e2;go_wp2_with ((go_at_call 21; refine (sorted_ok HS.out (by have := HP.out.nr; omega)).mono ?_; rintro e w7 ⟨v43, ts, rfl, hk, hl, hrow, hb⟩; have hR := places_R hrow; clear hrow; obtain ⟨Ap, cp, rfl⟩ := Kd.R_slice hR; have HTR := zN (Kd.R_lower hR HB.out.size); have HK := zN hk; have HL := zN hl; clear hR hk hl; replace HS := zN (HS.out.below hb); replace HC := zN (HC.out.below hb); replace HB := zN (below_step HB.out hb); replace G2 := zN (blk_below G2.out hb); replace G3 := zN (blk_below G3.out hb); replace HNR := zN (Kd.R_below HNR.out hb); replace HPR := zN (Kd.R_below HPR.out hb); clear hb));go_loopg [45] ts.length (fun n v45 wr => ∃ (i : Nat) (A1 : Option Addr) (c1 : Nat), v45 = .int .i64 (i : Int) ∧ Aside0 (i + n = ts.length) ∧ Aside0 (StAt wr gs bp br bc v DP DR DC) ∧ Aside0 (StC wr base DP DR DC f g) ∧ Aside0 (Below w.heap.size w wr) ∧ Aside0 (wr.heap[g2]? = some (.cells #[.int .i64 0, .slice none 0 0, .slice none 0 0] 44 (0, 0))) ∧ Aside0 (wr.heap[g3]? = some (.cells #[.int .i64 v, .slice A1 ((routesL ts g).take i).length c1, .slice A2 (poolsL DP f).length c2] 44 (0, 0))) ∧ Aside0 (Kd.R kPK 84 wr w.heap.size (fun _ => True) (.slice Ap ts.length cp) ts) ∧ Aside0 (Kd.R k58 58 wr w.heap.size (fun _ => True) (.slice A2 (poolsL DP f).length c2) (poolsL DP f)) ∧ Aside0 (Kd.R k54 54 wr w.heap.size (fun _ => True) (.slice A1 ((routesL ts g).take i).length c1) ((routesL ts g).take i)))
      case atStart => exact ⟨0, none, 0, rfl, ⟨zO⟩, HS, HC, HB, G2, G3, HTR, HPR, ⟨Kd.R_nil _ _ _ _ _⟩⟩
      case round =>
        clear HS HC HB G2 G3 HTR HPR HN HNR;obtain ⟨i, A1, c1, rfl, HN, HS, HC, HB, G2, G3, HTR, HPR, HRR⟩ := hrel;obtain ⟨rl, hrl⟩ : ∃ rl, rl = (routesL ts g).take i := ⟨_, rfl⟩;have HRL := zN hrl;rw [← hrl] at HRR G3;clear hrl;by_cases hi : i < ts.length;rotate_left
        · have d1 : decide ((i : Int) < (ts.length : Int)) = false := zf zO;obtain rfl : i = ts.length := by have := HN.out; omega
          clear hi;have e3 : rl = routesL ts g := by rw [HRL.out]; exact List.take_of_length_le (by simp [routesL])
          clear HRL;subst e3;go_upto_region 14 with (fail)
          go_wp2_with (first | ((with_reducible refine gate_dst (N := 66) rfl ?_); refine wpList_load_row rfl 44 (.tmp 3) rfl g3 rfl 44 #[.int .i64 v, .slice A1 (routesL ts g).length c1, .slice A2 (poolsL DP f).length c2] (0, 0) _ G3.out huC rfl zQ ?_; simp only [Act.put, List.setIfInBounds_toArray, List.set_cons_zero, List.set_cons_succ]) | ((with_reducible refine gate_store (t := 44) (p := 2) rfl ?_); refine wpList_store_row rfl 44 (.tmp 2) (.tmp 66) rfl g2 #[.int .i64 v, .slice A1 (routesL ts g).length c1, .slice A2 (poolsL DP f).length c2] rfl rfl 44 #[.int .i64 0, .slice none 0 0, .slice none 0 0] G2.out zQ rfl (by simp [Value.oneCell']) ?_));obtain ⟨W_, hW⟩ : ∃ W_, W_ = wr.setRow g2 #[.int .i64 v, .slice A1 (routesL ts g).length c1, .slice A2 (poolsL DP f).length c2] := ⟨_, rfl⟩;have h2 := setRow_heap wr g2 _ #[.int .i64 v, .slice A1 (routesL ts g).length c1, .slice A2 (poolsL DP f).length c2] 44 (0, 0) G2.out;have hp := Kd.R_mono (Kd.R_step (Kd.R_types HPR.out G2.out (by decide)) (fun k hk _ => setRow_other wr g2 k #[.int .i64 v, .slice A1 (routesL ts g).length c1, .slice A2 (poolsL DP f).length c2] hk.2)) (ok' := fun _ => True) (fun _ _ => trivial);have hr := Kd.R_mono (Kd.R_step (Kd.R_types HRR.out G2.out (by decide)) (fun k hk _ => setRow_other wr g2 k #[.int .i64 v, .slice A1 (routesL ts g).length c1, .slice A2 (poolsL DP f).length c2] hk.2)) (ok' := fun _ => True) (fun _ _ => trivial);have hb := below_setRow HB.out (Nat.le_of_eq E2.out) #[.int .i64 v, .slice A1 (routesL ts g).length c1, .slice A2 (poolsL DP f).length c2];rw [← hW] at h2 hp hr hb ⊢;refine bodyPost_ret (results_cfg _ rfl h2 rfl) rfl ?_;exact ⟨A1, c1, A2, c2, ts, rfl, ⟨HK.out, HL.out⟩, (Kd.R_reads' hr).2.2, (Kd.R_reads' hr).2.1, (Kd.R_reads' hp).2.2, (Kd.R_reads' hp).2.1, hb⟩
        have d1 : decide ((i : Int) < (ts.length : Int)) = true := zt zO;have d2 := zu (Int.natCast_nonneg i);have d3 := zu (Int.ofNat_lt.mpr hi);have HI := zN hi;have HTL := zN (show ts.length ≤ 200 by have := HL.out; have := HP.out.nr; omega);obtain ⟨j', hj'⟩ : ∃ j' : Nat, j' = i + 1 := ⟨_, rfl⟩;have hwj : wrap64 ((i : Int) + 1) = (j' : Int) := by have := HTL.out; subst hj'; unfold wrap64; omega
        have HJ' := zN hj';obtain ⟨ad, hA, hcell⟩ := at_PK (Kd.R_reads' HTR.out).2.2 hi;have hin : ts[i]? = some ts[i] := zr hi;generalize ts[i] = x at hcell hin;have HIN := zN hin;have hhas : has DR x.k = true := (HK.out.2.1 x).1 (List.mem_of_getElem? hin);have HH := zN hhas;have HCL := zN hcell;cases hA;clear hi hj' hin hhas hcell;go_upto_region 12 with (((with_reducible refine gate_dst (N := 48) rfl ?_); refine wpList_load_any rfl 84 (.tmp 47) rfl (ad.add (i * 2)) rfl [.string x.a, .string x.b] _ HCL.out huP rfl zQ ?_; simp only [Act.put, List.setIfInBounds_toArray, List.set_cons_zero, List.set_cons_succ]))
        clear HCL;have hb := below_alloc (Below.refl wr.heap.size wr) (.cells #[.string x.a, .string x.b] 84);have G7 := zN (blk_new wr (.cells #[.string x.a, .string x.b] 84));replace HS := zN (HS.out.below hb);replace HC := zN (HC.out.below hb);replace HB := zN (below_step HB.out hb);replace G2 := zN (blk_below G2.out hb);replace G3 := zN (blk_below G3.out hb);replace HPR := zN (Kd.R_below HPR.out hb);replace HTR := zN (Kd.R_below HTR.out hb);replace HRR := zN (Kd.R_below HRR.out hb);generalize hg7 : wr.heap.size = g7 at hb G7 ⊢;clear hg7;generalize wr.alloc (.cells #[.string x.a, .string x.b] 84) = wx at hb HS HC HB G2 G3 HTR HPR HRR G7 ⊢;clear hb;have LK := Aside0.mk (show ∀ W_ : World, StAt W_ gs bp br bc v DP DR DC → (Instr.lookup 65 (.map (some br)) (.agg #[.string x.a, .string x.b]) false).run Tryz.prog W_ = .ok (.string (g x)) W_ from fun W_ h_ => by
          obtain ⟨v_, ps_, hrun, hv⟩ := h_.mr.lookup keyedPl Tryz.underlying65 (zeroStr _) rfl (plK_is x.ha x.hb);have hrun2 : (Instr.lookup 65 (.map (some br)) (.agg #[.string x.a, .string x.b]) false).run Tryz.prog W_ = .ok v_ W_ := hrun;rw [hrun2];have h1 := HR_inv hv;have h2 := HC.out.routes x HH.out (.held (.string ⟨#[]⟩));unfold PK.k at h2;rw [h2] at h1;injection h1 with h1
          rw [h1])
        replace HS := zN HS.out.drew;replace HC := zN HC.out.drew;replace HB := zN (below_drew1 HB.out);replace G2 := zN (blk_drew G2.out);replace G3 := zN (blk_drew G3.out);replace HPR := zN (Kd.R_drew HPR.out);replace HTR := zN (Kd.R_drew HTR.out);replace HRR := zN (Kd.R_drew HRR.out);replace G7 := zN (blk_drew G7.out);refine start_ (n := 17) (S := fun w' => w'.cell? ⟨g3, 1, none⟩ = some (.slice A1 rl.length c1) ∧ w'.cell? ⟨g7, 0, none⟩ = some (.string x.a) ∧ w'.cell? ⟨g7, 1, none⟩ = some (.string x.b) ∧ w'.cell? ⟨gs, 2, none⟩ = some (.map (some br)) ∧ (Instr.lookup 65 (.map (some br)) (.agg #[.string x.a, .string x.b]) false).run Tryz.prog w' = .ok (.string (g x)) w') (ds := [16]) #[false, false, false, false, false, false, false, false, false, false, false, false, false, false, false, false, false] zQ rfl rfl ⟨(blk_cell G3.out 1).trans rfl, (blk_cell G7.out 0).trans rfl, (blk_cell G7.out 1).trans rfl, (blk_cell HS.out.own 2).trans rfl, LK.out _ HS.out⟩ (fun hHeld => ?_);refine with_tab (T := sc_T12) sc_T12_is (fun HT_ => ?_);generalize wx.drew = wd at HS HC HB G2 G3 HTR HPR HRR G7 hHeld ⊢;refine zU (i := 0) (N := some 49) #[true, false, false, false, false, false, false, false, false, false, false, false, false, false, false, false, false] rfl rfl HT_ ?_;refine take_ (i := 1) (N := some 50) (v := ?_) (a' := ?_) #[true, true, false, false, false, false, false, false, false, false, false, false, false, false, false, false, false] rfl rfl (take_of HT_.out zQ) (fun _ _ _ h => h) (Or.inl ⟨by rfl, ?_⟩) hHeld ?_ ?_;rotate_left
        · rintro w' ⟨s0, s1, s2, s3, s4⟩;go_simp
          with_reducible rfl
        rotate_left
        · simp only [zP];rfl
        refine zU (i := 2) (N := some 51) #[true, true, true, false, false, false, false, false, false, false, false, false, false, false, false, false, false] rfl rfl HT_ ?_;refine take_ (i := 3) (N := some 52) (v := ?_) (a' := ?_) #[true, true, true, true, false, false, false, false, false, false, false, false, false, false, false, false, false] rfl rfl (take_of HT_.out zQ) (fun _ _ _ h => h) (Or.inl ⟨by rfl, ?_⟩) hHeld ?_ ?_;rotate_left
        · rintro w' ⟨s0, s1, s2, s3, s4⟩;go_simp
          with_reducible rfl
        rotate_left
        · simp only [zP];rfl
        refine zU (i := 4) (N := some 53) #[true, true, true, true, true, false, false, false, false, false, false, false, false, false, false, false, false] rfl rfl HT_ ?_;refine take_ (i := 5) (N := some 54) (v := ?_) (a' := ?_) #[true, true, true, true, true, true, false, false, false, false, false, false, false, false, false, false, false] rfl rfl (take_of HT_.out zQ) (fun _ _ _ h => h) (Or.inl ⟨by rfl, ?_⟩) hHeld ?_ ?_;rotate_left
        · rintro w' ⟨s0, s1, s2, s3, s4⟩;go_simp
          with_reducible rfl
        rotate_left
        · simp only [zP];rfl
        refine zU (i := 6) (N := some 55) #[true, true, true, true, true, true, true, false, false, false, false, false, false, false, false, false, false] rfl rfl HT_ ?_;refine zU (i := 7) (N := some 56) #[true, true, true, true, true, true, true, true, false, false, false, false, false, false, false, false, false] rfl rfl HT_ ?_;refine zU (i := 8) (N := some 57) #[true, true, true, true, true, true, true, true, true, false, false, false, false, false, false, false, false] rfl rfl HT_ ?_;refine take_ (i := 9) (N := some 58) (v := ?_) (a' := ?_) #[true, true, true, true, true, true, true, true, true, true, false, false, false, false, false, false, false] rfl rfl (take_of HT_.out zQ) (fun _ _ _ h => h) (Or.inl ⟨by rfl, ?_⟩) hHeld ?_ ?_;rotate_left
        · rintro w' ⟨s0, s1, s2, s3, s4⟩;go_simp
          with_reducible rfl
        rotate_left
        · simp only [zP];rfl
        refine take_ (i := 10) (N := some 59) (v := ?_) (a' := ?_) #[true, true, true, true, true, true, true, true, true, true, true, false, false, false, false, false, false] rfl rfl (take_of HT_.out zQ) (fun _ _ _ h => h) (Or.inl ⟨by rfl, ?_⟩) hHeld ?_ ?_;rotate_left
        · rintro w' ⟨s0, s1, s2, s3, s4⟩;go_simp
          with_reducible rfl
        rotate_left
        · simp only [zP];rfl
        refine take_ (i := 11) (N := some 60) (v := .string (g x)) (a' := ?_) #[true, true, true, true, true, true, true, true, true, true, true, true, false, false, false, false, false] rfl rfl (take_of HT_.out zQ) (fun _ _ _ h => h) (yieldsIf_lookup (by rfl) 65 (.tmp 58) (.tmp 59) false rfl br rfl (.agg #[.string x.a, .string x.b]) _ rfl (fun w_ hw_ => hw_.2.2.2.2)) hHeld ?_ ?_;rotate_left
        · simp only [zP];rfl
        refine zU (i := 12) (N := some 61) #[true, true, true, true, true, true, true, true, true, true, true, true, true, false, false, false, false] rfl rfl HT_ ?_;refine one_ (i := 13) (N := some 62) #[true, true, true, true, true, true, true, true, true, true, true, true, true, true, false, false, false] rfl rfl (one_of HT_.out zQ) (by decide) (fun K hK => ?_);refine event_step (by rfl) (v := .slice (some ⟨wd.heap.size, 0, none⟩) 1 1) (w1 := wd.alloc (.cells #[.string x.a, .string x.b, .string (g x)] 54)) (by go_simp) ?_;have h0_ := zN (StAt.below HS.out (below_alloc (Below.refl _ wd) (.cells #[.string x.a, .string x.b, .string (g x)] 54)));refine hK.out _ _ ⟨(blk_cell (blk_alloc G3.out _) 1).trans rfl, (blk_cell (blk_alloc G7.out _) 0).trans rfl, (blk_cell (blk_alloc G7.out _) 1).trans rfl, (blk_cell h0_.out.own 2).trans rfl, LK.out _ h0_.out⟩ (fun hHeld => ?_);clear h0_;clear hK K;refine norm_ (a' := ?_) ?_ ?_;rotate_left
        · show Act.put _ (some 62) _ = _
          simp only [zP];rfl
        refine one_ (i := 14) (N := some 63) #[true, true, true, true, true, true, true, true, true, true, true, true, true, true, true, false, false] rfl rfl (one_of HT_.out zQ) (by decide) (fun K hK => ?_);refine Kd.R_append_step k54 (w0 := w) w.heap.size (by rfl) (.tmp 50) (.tmp 62) 41 54 (.agg #[(.string ⟨#[]⟩), (.string ⟨#[]⟩), (.string ⟨#[]⟩)]) 48 rfl Tryz.underlying41 infoRt rfl (by decide) zO (.slice A1 rl.length c1) rl (⟨x.a, x.b, g x⟩ : S54) [.string x.a, .string x.b, .string (g x)] (fun _ => True) (fun _ => False) rfl rfl ?aP (fun _ hk => hk.elim) (fun _ _ => trivial) HRR.out HB.out HB.out.size ?aL ?_
        case aP => exact ⟨[.string x.a], [.string x.b, .string (g x)], rfl, rfl, ⟨[.string x.b], [.string (g x)], rfl, rfl, rfl⟩⟩
        case aL => have h1_ := HRL.out; have h2_ := HTL.out; have h3_ := HI.out; have h4_ : rl.length ≤ i := (by rw [h1_, List.length_take]; omega); omega
        intro v63 w5 ho hb hg hat
        obtain ⟨A3, c3, rfl⟩ := Kd.R_slice ho;replace HS := zN (HS.out.over (Kd.R_typed HRR.out) (by decide) hg);replace HC := zN (HC.out.over (Kd.R_typed HRR.out) (by decide) hg);replace HB := zN hb;replace G2 := zN (blk_over G2.out (Kd.R_typed HRR.out) (by decide) hg);replace G3 := zN (blk_over G3.out (Kd.R_typed HRR.out) (by decide) hg);replace G7 := zN (blk_over G7.out (Kd.R_typed HRR.out) (by decide) hg);replace HTR := zN (Kd.R_over' HTR.out (Kd.R_typed HRR.out) (by decide) hg);replace HPR := zN (Kd.R_over' HPR.out (Kd.R_typed HRR.out) (by decide) hg);replace HRR := zN ho;clear ho hb hg hat
        refine hK.out _ _ ⟨(blk_cell G3.out 1).trans rfl, (blk_cell G7.out 0).trans rfl, (blk_cell G7.out 1).trans rfl, (blk_cell HS.out.own 2).trans rfl, LK.out _ HS.out⟩ (fun hHeld => ?_);clear hK K;refine norm_ (a' := ?_) ?_ ?_;rotate_left
        · show Act.put _ (some 63) _ = _
          simp only [zP];rfl
        refine zU (i := 15) (N := some 64) #[true, true, true, true, true, true, true, true, true, true, true, true, true, true, true, true, false] rfl rfl HT_ ?_;refine last_ (i := 16) (N := none) #[true, true, true, true, true, true, true, true, true, true, true, true, true, true, true, true, true] rfl rfl (one_of HT_.out zQ) (by decide) (fun K hK => ?_);have k3 : w5.cell? ⟨g3, 1, none⟩ = some (.slice A1 rl.length c1) := (blk_cell G3.out 1).trans rfl;have u3 : w5.frozen? ⟨g3, 1, none⟩ = false := blk_frozen G3.out 1;refine store_step (by rfl) 41 (.tmp 64) (.tmp 63) rfl ⟨g3, 1, none⟩ (.slice A3 (rl ++ [(⟨x.a, x.b, g x⟩ : S54)]).length c3) rfl rfl (W1 := w5.setCell ⟨g3, 1, none⟩ (.slice A3 (rl ++ [(⟨x.a, x.b, g x⟩ : S54)]).length c3)) (by go_simp) ?_;clear k3 u3;replace HS := zN (HS.out.set G3.out (by decide) 1 (.slice A3 (rl ++ [(⟨x.a, x.b, g x⟩ : S54)]).length c3));replace HC := zN (HC.out.set G3.out (by decide) 1 (.slice A3 (rl ++ [(⟨x.a, x.b, g x⟩ : S54)]).length c3));replace HB := zN (below_set (j := 1) (v := (.slice A3 (rl ++ [(⟨x.a, x.b, g x⟩ : S54)]).length c3)) HB.out (Nat.le_trans N3.out.2.2 (zh _)));replace G2 := zN (blk_far (p := ⟨g3, 1, none⟩) G2.out N3.out.2.1 (.slice A3 (rl ++ [(⟨x.a, x.b, g x⟩ : S54)]).length c3));replace HTR := zN (Kd.R_set HTR.out G3.out (by decide) 1 (.slice A3 (rl ++ [(⟨x.a, x.b, g x⟩ : S54)]).length c3));replace HPR := zN (Kd.R_set HPR.out G3.out (by decide) 1 (.slice A3 (rl ++ [(⟨x.a, x.b, g x⟩ : S54)]).length c3));replace HRR := zN (Kd.R_set HRR.out G3.out (by decide) 1 (.slice A3 (rl ++ [(⟨x.a, x.b, g x⟩ : S54)]).length c3));replace G3 := zN (blk_put G3.out 1 (.slice A3 (rl ++ [(⟨x.a, x.b, g x⟩ : S54)]).length c3) rfl);clear G7;generalize w5.setCell ⟨g3, 1, none⟩ (.slice A3 (rl ++ [(⟨x.a, x.b, g x⟩ : S54)]).length c3) = w6 at HS HC HB G2 G3 HTR HPR HRR ⊢;refine hK.out _ _ ?_;clear hK K;refine done_ (done_of HT_.out zQ) ?_;clear HT_;clear hHeld LK HH;go_wp2;go_roundg (ts.length - j')
        case measure => have := HN.out; have := HI.out; have := HJ'.out; omega
        case rel =>
          have e1 : (routesL ts g).take j' = rl ++ [(⟨x.a, x.b, g x⟩ : S54)] := by
            rw [HJ'.out, HRL.out]; unfold routesL; rw [List.take_add_one, List.getElem?_map, HIN.out]; rfl
          exact ⟨j', A3, c3, zI, ⟨by have := HN.out; have := HI.out; have := HJ'.out; omega⟩, HS, HC, HB, G2, ⟨by rw [e1]; exact G3.out⟩, HTR, HPR, ⟨by rw [e1]; exact HRR.out⟩⟩
    have d1 : decide ((i : Int) < (ns.length : Int)) = true := zt zO;have d2 := zu (Int.natCast_nonneg i);have d3 := zu (Int.ofNat_lt.mpr hi);have HI := zN hi;obtain ⟨j', hj'⟩ : ∃ j' : Nat, j' = i + 1 := ⟨_, rfl⟩;have hwj : wrap64 ((i : Int) + 1) = (j' : Int) := by have := HNL.out; subst hj'; unfold wrap64; omega
    have HJ' := zN hj';obtain ⟨nm, hnm, hin⟩ : ∃ nm, ns[i]? = some (ofB nm) ∧ (namesOf DP)[i]? = some nm := by have h1 := HNS.out; subst h1; rw [List.length_map] at hi; exact ⟨(namesOf DP)[i], by rw [List.getElem?_map, zr hi]; rfl, zr hi⟩
    have HNM := zN hin;have hhas : has DP (.string nm) = true := (mem_names HS.out.mp).1 (List.mem_of_getElem? hin);obtain ⟨ad, hA, x0⟩ := Kd.at_string (Kd.R_reads' HNR.out).2.2 (i : Int) (Int.natCast_nonneg i) (Int.ofNat_lt.mpr hi);rw [Int.toNat_natCast, show rdOf ByteArray.empty ns (i : Int) = ofB nm from by unfold rdOf; rw [Int.toNat_natCast, List.getD_eq_getElem?_getD, hnm]; rfl] at x0;cases hA;clear hi hj' hnm hin;go_upto_region 7 with (fail)
    clear x0;obtain ⟨x, hx, hxr⟩ := HC.out.pools nm hhas;obtain ⟨Ax, cx, rfl⟩ := Kd.R_slice hxr;have HX := zN hx;have HH := zN hhas;have HXR := zN hxr;clear hx hhas hxr;have LK := Aside0.mk (show ∀ W_ : World, StAt W_ gs bp br bc v DP DR DC → (Instr.lookup 64 (.map (some bp)) (.string (ofB nm)) false).run Tryz.prog W_ = .ok (.slice Ax (f nm).length cx) W_ from fun W_ h_ => by
      obtain ⟨v_, ps_, hrun, hv⟩ := h_.mp.lookup keyedS Tryz.underlying64 (zeroTs _) rfl (WideMaps.keyOf_string_mk Tryz.underlying9 (s := ofB nm) (by have := (HP.out.names nm HH.out).1; show nm.toArray.size ≤ maxLen; unfold maxLen; simp; omega));rw [hrun];have h1 := HR_inv hv;rw [show (ofB nm).data.toList = nm by simp, HX.out] at h1;injection h1 with h1
      rw [h1])
    replace HS := zN HS.out.drew;replace HC := zN HC.out.drew;replace HB := zN (below_drew1 HB.out);replace G2 := zN (blk_drew G2.out);replace G3 := zN (blk_drew G3.out);replace HNR := zN (Kd.R_drew HNR.out);replace HPR := zN (Kd.R_drew HPR.out);replace HXR := zN (Kd.R_drew HXR.out);refine start_ (n := 15) (S := fun w' => w'.cell? ⟨g3, 2, none⟩ = some (.slice A2 pl.length c2) ∧ w'.cell? ⟨gs, 1, none⟩ = some (.map (some bp)) ∧ (Instr.lookup 64 (.map (some bp)) (.string (ofB nm)) false).run Tryz.prog w' = .ok (.slice Ax (f nm).length cx) w') (ds := [14]) #[false, false, false, false, false, false, false, false, false, false, false, false, false, false, false] zQ rfl rfl ⟨(blk_cell G3.out 2).trans rfl, (blk_cell HS.out.own 1).trans rfl, LK.out _ HS.out⟩ (fun hHeld => ?_);refine with_tab (T := sc_T7) sc_T7_is (fun HT_ => ?_);generalize wr.drew = wd at HS HC HB G2 G3 HNR HPR HXR hHeld ⊢;refine zU (i := 0) (N := some 27) #[true, false, false, false, false, false, false, false, false, false, false, false, false, false, false] rfl rfl HT_ ?_;refine take_ (i := 1) (N := some 28) (v := ?_) (a' := ?_) #[true, true, false, false, false, false, false, false, false, false, false, false, false, false, false] rfl rfl (take_of HT_.out zQ) (fun _ _ _ h => h) (Or.inl ⟨by rfl, ?_⟩) hHeld ?_ ?_;rotate_left
    · rintro w' ⟨s0, s1, s2⟩;go_simp
      with_reducible rfl
    rotate_left
    · simp only [zP];rfl
    refine zU (i := 2) (N := some 29) #[true, true, true, false, false, false, false, false, false, false, false, false, false, false, false] rfl rfl HT_ ?_;refine zU (i := 3) (N := some 30) #[true, true, true, true, false, false, false, false, false, false, false, false, false, false, false] rfl rfl HT_ ?_;refine zU (i := 4) (N := some 31) #[true, true, true, true, true, false, false, false, false, false, false, false, false, false, false] rfl rfl HT_ ?_;refine zU (i := 5) (N := some 32) #[true, true, true, true, true, true, false, false, false, false, false, false, false, false, false] rfl rfl HT_ ?_;refine take_ (i := 6) (N := some 33) (v := ?_) (a' := ?_) #[true, true, true, true, true, true, true, false, false, false, false, false, false, false, false] rfl rfl (take_of HT_.out zQ) (fun _ _ _ h => h) (Or.inl ⟨by rfl, ?_⟩) hHeld ?_ ?_;rotate_left
    · rintro w' ⟨s0, s1, s2⟩;go_simp
      with_reducible rfl
    rotate_left
    · simp only [zP];rfl
    refine zU (i := 7) (N := some 34) #[true, true, true, true, true, true, true, true, false, false, false, false, false, false, false] rfl rfl HT_ ?_;refine take_ (i := 8) (N := some 35) (v := .slice Ax (f nm).length cx) (a' := ?_) #[true, true, true, true, true, true, true, true, true, false, false, false, false, false, false] rfl rfl (take_of HT_.out zQ) (fun _ _ _ h => h) (yieldsIf_lookup (by rfl) 64 (.tmp 33) (.tmp 34) false rfl bp rfl (.string (ofB nm)) _ rfl (fun w_ hw_ => hw_.2.2)) hHeld ?_ ?_;rotate_left
    · simp only [zP];rfl
    refine one_ (i := 9) (N := some 36) #[true, true, true, true, true, true, true, true, true, true, false, false, false, false, false] rfl rfl (one_of HT_.out zQ) (by decide) (fun K hK => ?_);refine goes_ Tryz.func20 zQ rfl #[.slice Ax (f nm).length cx] (by rfl) rfl rfl (by (try simp only [List.map_toArray, List.map_cons, List.map_nil]); first | done | rfl) ?_;refine (clone_Target Ax cx (f nm) _ (Kd.R_reads' HXR.out).2.2 (Kd.R_reads' HXR.out).2.1 (by have := (HP.out.names nm HH.out).2.1; omega)).mono ?_;rintro e w4 ⟨v36, rfl, hR, hb⟩;refine ⟨_, rfl, ?_⟩;obtain ⟨Ay, cy, rfl⟩ := Kd.R_slice hR;have HYR := zN (Kd.R_lower hR HB.out.size);clear hR;replace HS := zN (HS.out.below hb);replace HC := zN (HC.out.below hb);replace HB := zN (below_step HB.out hb);replace G2 := zN (blk_below G2.out hb);replace G3 := zN (blk_below G3.out hb);replace HNR := zN (Kd.R_below HNR.out hb);replace HPR := zN (Kd.R_below HPR.out hb);replace HXR := zN (Kd.R_below HXR.out hb);clear hb;refine hK.out _ _ ⟨(blk_cell G3.out 2).trans rfl, (blk_cell HS.out.own 1).trans rfl, LK.out _ HS.out⟩ (fun hHeld => ?_);clear hK K;refine norm_ (a' := ?_) ?_ ?_;rotate_left
    · show Act.put _ (some 36) _ = _
      simp only [zP];rfl
    refine zU (i := 10) (N := some 37) #[true, true, true, true, true, true, true, true, true, true, true, false, false, false, false] rfl rfl HT_ ?_;refine one_ (i := 11) (N := some 38) #[true, true, true, true, true, true, true, true, true, true, true, true, false, false, false] rfl rfl (one_of HT_.out zQ) (by decide) (fun K hK => ?_);refine event_step (by rfl) (v := .slice (some ⟨w4.heap.size, 0, none⟩) 1 1) (w1 := w4.alloc (.cells #[.string (ofB nm), .slice Ay (f nm).length cy] 58)) (by go_simp) ?_;have h0_ := zN (StAt.below HS.out (below_alloc (Below.refl _ w4) (.cells #[.string (ofB nm), .slice Ay (f nm).length cy] 58)));refine hK.out _ _ ⟨(blk_cell (blk_alloc G3.out _) 2).trans rfl, (blk_cell h0_.out.own 1).trans rfl, LK.out _ h0_.out⟩ (fun hHeld => ?_);clear h0_;clear hK K;refine norm_ (a' := ?_) ?_ ?_;rotate_left
    · show Act.put _ (some 38) _ = _
      simp only [zP];rfl
    refine one_ (i := 12) (N := some 39) #[true, true, true, true, true, true, true, true, true, true, true, true, true, false, false] rfl rfl (one_of HT_.out zQ) (by decide) (fun K hK => ?_);refine Kd.R_append_step k58 (w0 := w) w.heap.size (by rfl) (.tmp 28) (.tmp 38) 42 58 (.agg #[(.string ⟨#[]⟩), (.slice none 0 0)]) 40 rfl Tryz.underlying42 infoPo rfl (by decide) zO (.slice A2 pl.length c2) pl ⟨ofB nm, f nm⟩ [.string (ofB nm), .slice Ay (f nm).length cy] (fun _ => True) (fun k_ => ∃ cs_, w4.heap[k_]? = some (.cells cs_ 62 (0, 0))) rfl rfl ?aP ?aK (fun _ _ => trivial) HPR.out HB.out HB.out.size ?aL ?_
    case aP => exact k58_mkM w4 _ _ ⟨ofB nm, f nm⟩ (Kd.R_mono (Kd.R_bound HYR.out) (fun k_ hk_ => by obtain ⟨_, _, _, q_, hq_, cs_, hc_⟩ := hk_; rcases List.mem_cons.1 hq_ with rfl | hq_; exact ⟨cs_, hc_⟩; cases hq_))
    case aK => exact fun k_ hk_ => ⟨trivial, fun he_ => by obtain ⟨cs_, hc_⟩ := hk_; obtain ⟨cs2_, hc2_⟩ := Kd.R_typed HPR.out k_ he_.symm; exact blk_ne hc_ hc2_ (by decide) rfl⟩
    case aL => have h1_ := HPL.out; have h2_ := HNL.out; have h3_ := HI.out; have h4_ : pl.length ≤ i := (by rw [h1_, List.length_take]; omega); omega
    intro v39 w5 ho hb hg hat
    obtain ⟨A3, c3, rfl⟩ := Kd.R_slice ho;replace HS := zN (HS.out.over (Kd.R_typed HPR.out) (by decide) hg);replace HC := zN (HC.out.over (Kd.R_typed HPR.out) (by decide) hg);replace HB := zN hb;replace G2 := zN (blk_over G2.out (Kd.R_typed HPR.out) (by decide) hg);replace G3 := zN (blk_over G3.out (Kd.R_typed HPR.out) (by decide) hg);replace HNR := zN (Kd.R_over' HNR.out (Kd.R_typed HPR.out) (by decide) hg);replace HPR := zN ho;clear ho hb hg hat HXR HYR;refine hK.out _ _ ⟨(blk_cell G3.out 2).trans rfl, (blk_cell HS.out.own 1).trans rfl, LK.out _ HS.out⟩ (fun hHeld => ?_);clear hK K;refine norm_ (a' := ?_) ?_ ?_;rotate_left
    · show Act.put _ (some 39) _ = _
      simp only [zP];rfl
    refine zU (i := 13) (N := some 40) #[true, true, true, true, true, true, true, true, true, true, true, true, true, true, false] rfl rfl HT_ ?_;refine last_ (i := 14) (N := none) #[true, true, true, true, true, true, true, true, true, true, true, true, true, true, true] rfl rfl (one_of HT_.out zQ) (by decide) (fun K hK => ?_);have k3 : w5.cell? ⟨g3, 2, none⟩ = some (.slice A2 pl.length c2) := (blk_cell G3.out 2).trans rfl;have u3 : w5.frozen? ⟨g3, 2, none⟩ = false := blk_frozen G3.out 2;refine store_step (by rfl) 42 (.tmp 40) (.tmp 39) rfl ⟨g3, 2, none⟩ (.slice A3 (pl ++ [(⟨ofB nm, f nm⟩ : S58)]).length c3) rfl rfl (W1 := w5.setCell ⟨g3, 2, none⟩ (.slice A3 (pl ++ [(⟨ofB nm, f nm⟩ : S58)]).length c3)) (by go_simp) ?_;clear k3 u3;replace HS := zN (HS.out.set G3.out (by decide) 2 (.slice A3 (pl ++ [(⟨ofB nm, f nm⟩ : S58)]).length c3));replace HC := zN (HC.out.set G3.out (by decide) 2 (.slice A3 (pl ++ [(⟨ofB nm, f nm⟩ : S58)]).length c3));replace HB := zN (below_set (j := 2) (v := (.slice A3 (pl ++ [(⟨ofB nm, f nm⟩ : S58)]).length c3)) HB.out (Nat.le_trans N3.out.2.2 (zh _)));replace G2 := zN (blk_far (p := ⟨g3, 2, none⟩) G2.out N3.out.2.1 (.slice A3 (pl ++ [(⟨ofB nm, f nm⟩ : S58)]).length c3));replace HNR := zN (Kd.R_set HNR.out G3.out (by decide) 2 (.slice A3 (pl ++ [(⟨ofB nm, f nm⟩ : S58)]).length c3));replace HPR := zN (Kd.R_set HPR.out G3.out (by decide) 2 (.slice A3 (pl ++ [(⟨ofB nm, f nm⟩ : S58)]).length c3));replace G3 := zN (blk_put G3.out 2 (.slice A3 (pl ++ [(⟨ofB nm, f nm⟩ : S58)]).length c3) rfl);generalize w5.setCell ⟨g3, 2, none⟩ (.slice A3 (pl ++ [(⟨ofB nm, f nm⟩ : S58)]).length c3) = w6 at HS HC HB G2 G3 HNR HPR ⊢;refine hK.out _ _ ?_;clear hK K;refine done_ (done_of HT_.out zQ) ?_;clear HT_;clear hHeld LK HX HH;go_wp2;go_roundg (ns.length - j')
    case measure => have := HN.out; have := HI.out; have := HJ'.out; omega
    case rel =>
      have e1 : (poolsL DP f).take j' = pl ++ [(⟨ofB nm, f nm⟩ : S58)] := by
        rw [HJ'.out, HPL.out]; unfold poolsL; rw [List.take_add_one, List.getElem?_map, HNM.out]; rfl
      exact ⟨j', A3, c3, zI, ⟨by have := HN.out; have := HI.out; have := HJ'.out; omega⟩, HS, HC, HB, G2, ⟨by rw [e1]; exact G3.out⟩, HNR, ⟨by rw [e1]; exact HPR.out⟩⟩
end Go.Proofs.YtpigfccpogmeaaaGreatDoor.S
end
section
namespace Go.Proofs.YtpigfccpogmeaaaGreatDoor.FL
open Ieee
def cutE (n d : Nat) : Nat := Toward.even.cut false n d
theorem cut_eq (n d : Nat) : cutE n d = n / 2 ^ min d (n.log2 + 2) + (decide (2 ^ min d (n.log2 + 2) < 2 * (n % 2 ^ min d (n.log2 + 2))) || (2 ^ min d (n.log2 + 2) == 2 * (n % 2 ^ min d (n.log2 + 2)) && n / 2 ^ min d (n.log2 + 2) % 2 == 1)).toNat := by
  unfold cutE Toward.cut;simp only [Nat.one_shiftLeft]
theorem lt_two_log (n : Nat) : n < 2 ^ (n.log2 + 1) := Nat.lt_log2_self
theorem two_log_le {n : Nat} (h : n ≠ 0) : 2 ^ n.log2 ≤ n := Nat.log2_self_le h
theorem cut_near (n d : Nat) : 2 * (cutE n d * 2 ^ d) ≤ 2 * n + 2 ^ d ∧ 2 * n ≤ 2 * (cutE n d * 2 ^ d) + 2 ^ d := by
  rw [cut_eq];by_cases h : d ≤ n.log2 + 2
  · rw [Nat.min_eq_left h];generalize hG : 2 ^ d = G;have hG0 : 0 < G := by rw [← hG]; exact Nat.two_pow_pos _
    have hd := Nat.div_add_mod n G;have hm := Nat.mod_lt n hG0;generalize n / G = q at *;generalize n % G = r at *;have e : q * G = G * q := Nat.mul_comm _ _;by_cases c : (decide (G < 2 * r) || (G == 2 * r && q % 2 == 1)) = true
    · rw [c];have : G ≤ 2 * r := by
        simp only [Bool.or_eq_true, decide_eq_true_eq, Bool.and_eq_true, beq_iff_eq] at c;omega
      have e2 : (q + true.toNat) * G = G * q + G := by rw [Nat.add_mul, e]; simp
      omega
    rw [Bool.not_eq_true] at c;rw [c];have : 2 * r ≤ G := by
      simp only [Bool.or_eq_false_iff, decide_eq_false_iff_not] at c;omega
    have e2 : (q + false.toNat) * G = G * q := by rw [← e]; simp
    omega
  rw [Nat.min_eq_right zO];have h1 := lt_two_log n;have h2 : n < 2 ^ (n.log2 + 2) := Nat.lt_trans h1 (Nat.pow_lt_pow_right zO zO);have h3 : 2 ^ (n.log2 + 2) = 2 * 2 ^ (n.log2 + 1) := by rw [show n.log2 + 2 = (n.log2 + 1) + 1 from rfl, Nat.pow_succ, Nat.mul_comm]
  have h4 : 2 ^ (n.log2 + 2) ≤ 2 ^ d := Nat.pow_le_pow_right zO zO;rw [Nat.div_eq_of_lt h2, Nat.mod_eq_of_lt h2];have c : (decide (2 ^ (n.log2 + 2) < 2 * n) || (2 ^ (n.log2 + 2) == 2 * n && 0 % 2 == 1)) = false := by
    simp only [Bool.or_eq_false_iff, decide_eq_false_iff_not];refine ⟨zO, ?_⟩;have : (2 ^ (n.log2 + 2) == 2 * n) = false := beq_eq_false_iff_ne.2 zO;rw [this];rfl
  rw [c];simp;omega
theorem cut_mono {n n' : Nat} (h : n ≤ n') (d : Nat) : cutE n d ≤ cutE n' d := by
  rcases Nat.lt_or_ge (cutE n' d) (cutE n d) with hlt | hge
  · exfalso
    obtain ⟨a1, _⟩ := cut_near n d;obtain ⟨_, b2⟩ := cut_near n' d;have hm : (cutE n' d + 1) * 2 ^ d ≤ cutE n d * 2 ^ d := Nat.mul_le_mul_right _ hlt;rw [Nat.add_mul] at hm;have : n = n' := by omega
    subst this;omega
  exact hge
theorem log2_shift {n : Nat} (h : n ≠ 0) (k : Nat) : (n * 2 ^ k).log2 = n.log2 + k := by
  have h1 : n * 2 ^ k ≠ 0 := Nat.mul_ne_zero h (Nat.ne_of_gt (Nat.two_pow_pos _));rw [Nat.log2_eq_iff h1]
  constructor
  · rw [Nat.pow_add]; exact Nat.mul_le_mul_right _ (two_log_le h)
  rw [show n.log2 + k + 1 = (n.log2 + 1) + k by omega, Nat.pow_add];exact Nat.mul_lt_mul_of_pos_right (lt_two_log n) (Nat.two_pow_pos _)
theorem cut_scale (n d m : Nat) : cutE (n * 2 ^ m) (d + m) = cutE n d := by
  by_cases hn : n = 0
  · subst hn;rw [Nat.zero_mul, cut_eq, cut_eq];simp
  rw [cut_eq, cut_eq, log2_shift hn];rw [show min (d + m) (n.log2 + m + 2) = min d (n.log2 + 2) + m by omega, Nat.pow_add];have hp : 0 < 2 ^ m := Nat.two_pow_pos _;generalize 2 ^ min d (n.log2 + 2) = G;rw [Nat.mul_div_mul_right _ _ hp, Nat.mul_mod_mul_right];have e : 2 * (n % G * 2 ^ m) = (2 * (n % G)) * 2 ^ m := (Nat.mul_assoc _ _ _).symm;rw [e];have c1 : decide (G * 2 ^ m < 2 * (n % G) * 2 ^ m) = decide (G < 2 * (n % G)) := by
    rw [decide_eq_decide];exact ⟨fun h => Nat.lt_of_mul_lt_mul_right h, fun h => Nat.mul_lt_mul_of_pos_right h hp⟩
  have c2 : (G * 2 ^ m == 2 * (n % G) * 2 ^ m) = (G == 2 * (n % G)) := by
    rw [Bool.eq_iff_iff, beq_iff_eq, beq_iff_eq];exact ⟨fun h => Nat.eq_of_mul_eq_mul_right hp h, fun h => congrArg (· * 2 ^ m) h⟩
  rw [c1, c2]
theorem cut_same {a d a' d' : Nat} (h : a * 2 ^ d' = a' * 2 ^ d) : cutE a d = cutE a' d' := by
  rw [← cut_scale a d d', ← cut_scale a' d' d, h, Nat.add_comm]
theorem cut_zero (n : Nat) : cutE n 0 = n := by
  have := cut_near n 0;omega
def INF : Nat := 9218868437227405312
def near (n : Nat) (p : Int) : Nat := Ieee.double.nearest false n p
theorem near_zero (p : Int) : near 0 p = 0 := by
  unfold near Format.nearest Format.word;simp
theorem near_eq {n : Nat} (hn : n ≠ 0) (p : Int) : near n p = min ((max (p + n.log2 - 52) (-1074) - -1074).toNat * 4503599627370496 + cutE (n * 2 ^ (p - max (p + n.log2 - 52) (-1074)).toNat) (max (p + n.log2 - 52) (-1074) - p).toNat) 9218868437227405312 := by
  have hB : Ieee.double.binade = 4503599627370496 := by decide
  have hI : Ieee.double.infRung = 9218868437227405312 := by decide
  have hL : Ieee.double.leastPlace = -1074 := by decide
  have hF : Ieee.double.fractionBits = 52 := rfl;unfold near Format.nearest Format.word cutE;rw [zn hn];simp only [Nat.shiftLeft_eq, hB, hI, hL, hF, Bool.false_eq_true, if_false];rfl
theorem near_scale (n k : Nat) (p : Int) : near (n * 2 ^ k) (p - k) = near n p := by
  by_cases hn : n = 0
  · subst hn; rw [Nat.zero_mul, near_zero, near_zero]
  have h1 : n * 2 ^ k ≠ 0 := Nat.mul_ne_zero hn (Nat.ne_of_gt (Nat.two_pow_pos _));rw [near_eq h1, near_eq hn, log2_shift hn];have e : p - (k : Int) + ((n.log2 + k : Nat) : Int) - 52 = p + n.log2 - 52 := by omega
  rw [e];generalize max (p + (n.log2 : Int) - 52) (-1074) = L
  congr 2
  refine cut_same ?_;rw [Nat.mul_assoc, Nat.mul_assoc, Nat.mul_assoc, ← Nat.pow_add, ← Nat.pow_add, ← Nat.pow_add]
  congr 2
  omega
def rnd (n : Nat) : Nat := near n (-1074)
theorem near_low (n j : Nat) {p : Int} (hp : p = -1074 + j) : near n p = rnd (n * 2 ^ j) := by
  unfold rnd;rw [← near_scale n j p, hp]
  congr 1
  omega
theorem near_D {n : Nat} (hn : n ≠ 0) (d0 : Nat) : near n (-1074 - d0) = min ((max (n.log2 - 52) d0 - d0) * 4503599627370496 + cutE n (max (n.log2 - 52) d0)) 9218868437227405312 := by
  rw [near_eq hn];have e1 : max (-1074 - (d0 : Int) + (n.log2 : Int) - 52) (-1074) = -1074 - (d0 : Int) + ((max (n.log2 - 52) d0 : Nat) : Int) := by omega
  rw [e1];generalize hD : max (n.log2 - 52) d0 = D;have hd : d0 ≤ D := by omega
  have e2 : (-1074 - (d0 : Int) - (-1074 - (d0 : Int) + (D : Int))).toNat = 0 := by omega
  have e3 : (-1074 - (d0 : Int) + (D : Int) - (-1074 - (d0 : Int))).toNat = D := by omega
  have e4 : (-1074 - (d0 : Int) + (D : Int) - -1074).toNat = D - d0 := by omega
  rw [e2, e3, e4, Nat.pow_zero, Nat.mul_one]
theorem near_mono {n n' : Nat} (h : n ≤ n') (d0 : Nat) : near n (-1074 - d0) ≤ near n' (-1074 - d0) := by
  by_cases hn : n = 0
  · subst hn; rw [near_zero]; exact Nat.zero_le _
  have hn' : n' ≠ 0 := by omega
  rw [near_D hn, near_D hn'];have hl : n.log2 ≤ n'.log2 := by
    rw [Nat.le_log2 hn'];exact Nat.le_trans (two_log_le hn) h
  have hD : max (n.log2 - 52) d0 ≤ max (n'.log2 - 52) d0 := by omega
  have hd0 : d0 ≤ max (n.log2 - 52) d0 := by omega
  have hL : n.log2 ≤ max (n.log2 - 52) d0 + 52 := by omega
  have hL' : max (n.log2 - 52) d0 < max (n'.log2 - 52) d0 → n'.log2 = max (n'.log2 - 52) d0 + 52 := by omega
  generalize max (n.log2 - 52) d0 = D at *;generalize max (n'.log2 - 52) d0 = D' at *
  suffices hs : (D - d0) * 4503599627370496 + cutE n D ≤ (D' - d0) * 4503599627370496 + cutE n' D' from Nat.le_min.2 ⟨Nat.le_trans (Nat.min_le_left _ _) hs, Nat.min_le_right _ _⟩
  rcases Nat.eq_or_lt_of_le hD with e | hlt
  · subst e;have := cut_mono h D;omega
  have q1 : cutE n D ≤ 9007199254740992 := by
    obtain ⟨a1, _⟩ := cut_near n D;have h1 := lt_two_log n;have h2 : 2 ^ (n.log2 + 1) ≤ 2 ^ (D + 53) := Nat.pow_le_pow_right zO zO;have h3 : (2 : Nat) ^ (D + 53) = 2 ^ D * 9007199254740992 := Nat.pow_add 2 D 53;rw [h3] at h2;have h1 := Nat.lt_of_lt_of_le h1 h2;clear h2 h3;have hG : 0 < 2 ^ D := Nat.two_pow_pos _;generalize 2 ^ D = G at *
    rcases Nat.lt_or_ge 9007199254740992 (cutE n D) with hq | hq
    · exfalso
      have : (9007199254740992 + 1) * G ≤ cutE n D * G := Nat.mul_le_mul_right _ hq;have e : (9007199254740992 + 1) * G = G * 9007199254740992 + G := by omega
      omega
    exact hq
  have q2 : 4503599627370496 ≤ cutE n' D' := by
    obtain ⟨_, b2⟩ := cut_near n' D';have h1 := two_log_le hn';have h3 : (2 : Nat) ^ (D' + 52) = 2 ^ D' * 4503599627370496 := Nat.pow_add 2 D' 52;rw [hL' hlt, h3] at h1;clear h3;have hG : 0 < 2 ^ D' := Nat.two_pow_pos _;generalize 2 ^ D' = G at *
    rcases Nat.lt_or_ge (cutE n' D') 4503599627370496 with hq | hq
    · exfalso
      have : (cutE n' D' + 1) * G ≤ 4503599627370496 * G := Nat.mul_le_mul_right _ hq;rw [Nat.add_mul] at this;have e : 4503599627370496 * G = G * 4503599627370496 := Nat.mul_comm _ _;omega
    exact hq
  omega
theorem near_le (n : Nat) (p : Int) : near n p ≤ INF := by
  by_cases hn : n = 0
  · subst hn; rw [near_zero]; exact Nat.zero_le _
  rw [near_eq hn]; exact Nat.min_le_right _ _
theorem rnd_mono {n n' : Nat} (h : n ≤ n') : rnd n ≤ rnd n' := by
  have := near_mono h 0;exact this
theorem rnd_le (n : Nat) : rnd n ≤ INF := near_le _ _
def val (b : Nat) : Nat := if b < 4503599627370496 then b else (4503599627370496 + b % 4503599627370496) * 2 ^ (b / 4503599627370496 - 1)
theorem log_norm {m : Nat} (h1 : 4503599627370496 ≤ m) (h2 : m < 9007199254740992) : m.log2 = 52 := by
  rw [Nat.log2_eq_iff zO];exact ⟨h1, h2⟩
theorem rnd_val {b : Nat} (h : b < INF) : rnd (val b) = b := by
  unfold INF at h;unfold val
  split
  · rename_i hb
    by_cases h0 : b = 0
    · subst h0; exact near_zero _
    show near b (-1074 - ((0 : Nat) : Int)) = b
    rw [near_D h0];have hl : b.log2 ≤ 52 := by
      have : b.log2 < 52 := by
        rw [Nat.log2_lt h0];exact hb
      omega
    have : max (b.log2 - 52) 0 = 0 := by omega
    rw [this, cut_zero];omega
  rename_i hb
  have hm := Nat.mod_lt b (show 0 < 4503599627370496 by decide);have hd := Nat.div_add_mod b 4503599627370496;generalize b / 4503599627370496 = q at *;generalize b % 4503599627370496 = r at *;rw [← near_low (4503599627370496 + r) (q - 1) rfl, near_eq zO, log_norm zO zO];have e1 : max (-1074 + ((q - 1 : Nat) : Int) + ((52 : Nat) : Int) - 52) (-1074) = -1074 + ((q - 1 : Nat) : Int) := by omega
  rw [e1];have e2 : (-1074 + ((q - 1 : Nat) : Int) - (-1074 + ((q - 1 : Nat) : Int))).toNat = 0 := by omega
  have e3 : (-1074 + ((q - 1 : Nat) : Int) - -1074).toNat = q - 1 := by omega
  rw [e2, e3, Nat.pow_zero, Nat.mul_one, cut_zero];omega
theorem val_lt {a b : Nat} (ha : a < INF) (h : val a < val b) (hb : b < INF) : a < b := by
  have h1 := rnd_mono (Nat.le_of_lt h);rw [rnd_val ha, rnd_val hb] at h1
  rcases Nat.eq_or_lt_of_le h1 with e | hlt
  · subst e; omega
  exact hlt
theorem val_inj {a b : Nat} (ha : a < INF) (hb : b < INF) (h : val a = val b) : a = b := by
  rw [← rnd_val ha, ← rnd_val hb, h]
theorem val_mono {a b : Nat} (ha : a < INF) (hb : b < INF) (h : a ≤ b) : val a ≤ val b := by
  rcases Nat.lt_or_ge (val b) (val a) with hlt | hge
  · have := val_lt hb hlt ha; omega
  exact hge
theorem val_lt_iff {a b : Nat} (ha : a < INF) (hb : b < INF) : val a < val b ↔ a < b := by
  constructor
  · intro h; exact val_lt ha h hb
  intro h;have := val_mono ha hb (Nat.le_of_lt h)
  rcases Nat.eq_or_lt_of_le this with e | hlt
  · have := val_inj ha hb e; omega
  exact hlt
theorem val_zero : val 0 = 0 := rfl
theorem read_fin {b : Nat} (h : b < INF) : ∃ (m j : Nat), Ieee.double.read b = .number false m (-1074 + j) ∧ val b = m * 2 ^ j := by
  unfold INF at h;have hs : Ieee.double.signWeight = 9223372036854775808 := rfl;have hB : Ieee.double.binade = 4503599627370496 := rfl;have hI : Ieee.double.infRung = 9218868437227405312 := rfl;have hL : Ieee.double.leastPlace = -1074 := rfl;unfold Format.read;simp only [hs, hB, hI, hL];have e1 : b / 9223372036854775808 = 0 := Nat.div_eq_of_lt zO;have e2 : b % 9223372036854775808 = b := Nat.mod_eq_of_lt zO;rw [e1, e2];by_cases hb : b < 4503599627370496
  · rw [zp hb];exact ⟨b, 0, rfl, by unfold val; rw [zp hb]; simp⟩
  rw [zn hb, zp h];exact ⟨_, _, rfl, by unfold val; rw [zn hb]⟩
theorem read_inf : Ieee.double.read INF = .infinity false := rfl
theorem read_neg0 : Ieee.double.read 9223372036854775808 = .number true 0 (-1074) := rfl
theorem signed_false (m u : Nat) : signed false m u = ((m * 2 ^ u : Nat) : Int) := by
  unfold signed;simp [Nat.shiftLeft_eq]
theorem at_base (m i : Nat) (base : Int) (hb : base ≤ -1074 + i) (h0 : -1074 ≤ base) : m * 2 ^ i = (m * 2 ^ ((-1074 + (i : Int)) - base).toNat) * 2 ^ (base + 1074).toNat := by
  rw [Nat.mul_assoc, ← Nat.pow_add]
  congr 2
  omega
theorem order_fin {a b : Nat} (ha : a < INF) (hb : b < INF) : Ieee.double.order a b = some (compare a b) := by
  obtain ⟨m, i, hra, hva⟩ := read_fin ha;obtain ⟨n, j, hrb, hvb⟩ := read_fin hb;unfold Format.order;rw [hra, hrb];simp only [Datum.order, signed_false];have hbase : min (-1074 + (i : Int)) (-1074 + (j : Int)) ≤ -1074 + i ∧ min (-1074 + (i : Int)) (-1074 + (j : Int)) ≤ -1074 + j ∧ -1074 ≤ min (-1074 + (i : Int)) (-1074 + (j : Int)) := by omega
  generalize min (-1074 + (i : Int)) (-1074 + (j : Int)) = base at *;have e1 := at_base m i base hbase.1 hbase.2.2;have e2 := at_base n j base hbase.2.1 hbase.2.2;rw [← hva] at e1;rw [← hvb] at e2;generalize m * 2 ^ ((-1074 + (i : Int)) - base).toNat = x at *;generalize n * 2 ^ ((-1074 + (j : Int)) - base).toNat = y at *;have hp : 0 < 2 ^ (base + 1074).toNat := Nat.two_pow_pos _;generalize 2 ^ (base + 1074).toNat = p at *;have hlt : a < b ↔ x < y := by
    rw [← val_lt_iff ha hb, e1, e2];exact ⟨fun h => Nat.lt_of_mul_lt_mul_right h, fun h => Nat.mul_lt_mul_of_pos_right h hp⟩
  have hgt : b < a ↔ y < x := by
    rw [← val_lt_iff hb ha, e1, e2];exact ⟨fun h => Nat.lt_of_mul_lt_mul_right h, fun h => Nat.mul_lt_mul_of_pos_right h hp⟩
  congr 1
  rcases Nat.lt_trichotomy a b with h | h | h
  · rw [Nat.compare_eq_lt.2 h, Int.compare_eq_lt.2 (by have := hlt.1 h; omega)]
  · have : x = y := by omega
    rw [Nat.compare_eq_eq.2 h, Int.compare_eq_eq.2 zO]
  rw [Nat.compare_eq_gt.2 h, Int.compare_eq_gt.2 (by have := hgt.1 h; omega)]
theorem order_nn {a b : Nat} (ha : a ≤ INF) (hb : b ≤ INF) : Ieee.double.order a b = some (compare a b) := by
  by_cases h1 : a < INF
  · by_cases h2 : b < INF
    · exact order_fin h1 h2
    obtain rfl : b = INF := by omega
    obtain ⟨m, i, hra, _⟩ := read_fin h1;unfold Format.order;rw [hra, read_inf, Nat.compare_eq_lt.2 h1];rfl
  obtain rfl : a = INF := by omega
  by_cases h2 : b < INF
  · obtain ⟨m, i, hra, _⟩ := read_fin h2;unfold Format.order;rw [hra, read_inf, Nat.compare_eq_gt.2 h2];rfl
  obtain rfl : b = INF := by omega
  rw [Nat.compare_eq_eq.2 rfl];rfl
theorem add_fin {a b : Nat} (ha : a < INF) (hb : b < INF) : Ieee.double.add a b = some (rnd (val a + val b)) := by
  obtain ⟨m, i, hra, hva⟩ := read_fin ha;obtain ⟨n, j, hrb, hvb⟩ := read_fin hb;unfold Format.add;rw [hra, hrb];simp only [Datum.sum, signed_false, Option.map_some];have hbase : min (-1074 + (i : Int)) (-1074 + (j : Int)) ≤ -1074 + i ∧ min (-1074 + (i : Int)) (-1074 + (j : Int)) ≤ -1074 + j ∧ -1074 ≤ min (-1074 + (i : Int)) (-1074 + (j : Int)) := by omega
  generalize min (-1074 + (i : Int)) (-1074 + (j : Int)) = base at *;have e1 := at_base m i base hbase.1 hbase.2.2;have e2 := at_base n j base hbase.2.1 hbase.2.2;rw [← hva] at e1;rw [← hvb] at e2;generalize m * 2 ^ ((-1074 + (i : Int)) - base).toNat = x at *;generalize n * 2 ^ ((-1074 + (j : Int)) - base).toNat = y at *;have hs : (if (x : Int) + (y : Int) = 0 then (false && false) else decide ((x : Int) + (y : Int) < 0)) = false := by
    split
    · rfl
    exact zf zO
  have hn : ((x : Int) + (y : Int)).natAbs = x + y := by omega
  rw [hs, hn]
  congr 1
  show near (x + y) base = _
  rw [near_low (x + y) (base + 1074).toNat zO, e1, e2, Nat.add_mul]
theorem add_inf_l {b : Nat} (hb : b ≤ INF) : Ieee.double.add INF b = some INF := by
  by_cases h : b < INF
  · obtain ⟨m, i, hra, _⟩ := read_fin h;unfold Format.add;rw [hra, read_inf];rfl
  obtain rfl : b = INF := by omega
  rfl
theorem add_inf_r {a : Nat} (ha : a ≤ INF) : Ieee.double.add a INF = some INF := by
  by_cases h : a < INF
  · obtain ⟨m, i, hra, _⟩ := read_fin h;unfold Format.add;rw [hra, read_inf];rfl
  obtain rfl : a = INF := by omega
  rfl
def rnd2 (n : Nat) : Nat := near n (-2148)
theorem rnd2_mono {n n' : Nat} (h : n ≤ n') : rnd2 n ≤ rnd2 n' := near_mono h 1074
theorem mul_fin {a b : Nat} (ha : a < INF) (hb : b < INF) : Ieee.double.mul a b = some (rnd2 (val a * val b)) := by
  obtain ⟨m, i, hra, hva⟩ := read_fin ha;obtain ⟨n, j, hrb, hvb⟩ := read_fin hb;unfold Format.mul;rw [hra, hrb];simp only [Datum.product, Option.map_some]
  congr 1
  show near (m * n) (-1074 + (i : Int) + (-1074 + (j : Int))) = _
  unfold rnd2;rw [← near_scale (m * n) (i + j), hva, hvb]
  congr 1
  · rw [Nat.pow_add]; ac_rfl
  omega
theorem mul_inf_l {b : Nat} (hb : b < INF) (h0 : 0 < b) : Ieee.double.mul INF b = some INF := by
  obtain ⟨m, i, hra, hva⟩ := read_fin hb;have hm : m ≠ 0 := by
    intro h;subst h;rw [Nat.zero_mul] at hva;have := val_inj hb (show 0 < INF by decide) hva;omega
  unfold Format.mul;rw [hra, read_inf];simp only [Datum.product, hm, if_false];rfl
theorem mul_neg0 {b : Nat} (hb : b < INF) : Ieee.double.mul 9223372036854775808 b = some 9223372036854775808 := by
  obtain ⟨m, i, hra, hva⟩ := read_fin hb;unfold Format.mul;rw [hra, read_neg0];simp only [Datum.product, Nat.zero_mul];rfl
theorem order_neg0 {b : Nat} (hb : b ≤ INF) : Ieee.double.order 9223372036854775808 b = Ieee.double.order 0 b := by
  by_cases h : b < INF
  · obtain ⟨m, i, hra, _⟩ := read_fin h;unfold Format.order;rw [hra, read_neg0, show Ieee.double.read 0 = .number false 0 (-1074) from rfl];simp only [Datum.order, signed];simp
  obtain rfl : b = INF := by omega
  rfl
def NEG0 : Nat := 9223372036854775808
theorem read_neg {w : Nat} (h1 : 9223372036854775808 ≤ w) (h2 : w < 18446744073709551616) : (∃ m e, Ieee.double.read w = .number true m e ∧ (m = 0 → w = 9223372036854775808)) ∨ Ieee.double.read w = .infinity true ∨ ∃ fr, Ieee.double.read w = .nan true fr := by
  have hs : Ieee.double.signWeight = 9223372036854775808 := rfl;have hB : Ieee.double.binade = 4503599627370496 := rfl;have hI : Ieee.double.infRung = 9218868437227405312 := rfl;unfold Format.read;simp only [hs, hB, hI];have e1 : w / 9223372036854775808 = 1 := by omega
  have e2 : w % 9223372036854775808 = w - 9223372036854775808 := by omega
  rw [e1, e2];by_cases hb : w - 9223372036854775808 < 4503599627370496
  · rw [zp hb];exact Or.inl ⟨_, _, rfl, fun h => by omega⟩
  rw [zn hb];by_cases hc : w - 9223372036854775808 < 9218868437227405312
  · rw [zp hc];exact Or.inl ⟨_, _, rfl, fun h => by omega⟩
  rw [zn hc];by_cases hd : w - 9223372036854775808 = 9218868437227405312
  · rw [zp hd]; exact Or.inr (Or.inl rfl)
  rw [zn hd]; exact Or.inr (Or.inr ⟨_, rfl⟩)
theorem read_nan {w : Nat} (h1 : INF < w) (h2 : w < 9223372036854775808) : ∃ fr, Ieee.double.read w = .nan false fr := by
  unfold INF at h1;have hs : Ieee.double.signWeight = 9223372036854775808 := rfl;have hB : Ieee.double.binade = 4503599627370496 := rfl;have hI : Ieee.double.infRung = 9218868437227405312 := rfl;unfold Format.read;simp only [hs, hB, hI];have e1 : w / 9223372036854775808 = 0 := Nat.div_eq_of_lt h2;have e2 : w % 9223372036854775808 = w := Nat.mod_eq_of_lt h2;rw [e1, e2, zn zO, zn zO, zn zO];exact ⟨_, rfl⟩
theorem signed_true (m u : Nat) : signed true m u = -((m * 2 ^ u : Nat) : Int) := by
  unfold signed;simp [Nat.shiftLeft_eq]
theorem order_other {w b : Nat} (h1 : INF < w) (h2 : w < 18446744073709551616) (hb : b ≤ INF) : Ieee.double.order w b = none ∨ (Ieee.double.order w b = some .lt ∧ Ieee.double.order b w = some .gt) ∨ w = NEG0 := by
  by_cases hn : w < 9223372036854775808
  · obtain ⟨fr, hr⟩ := read_nan h1 hn;unfold Format.order;rw [hr];cases Ieee.double.read b <;> exact Or.inl rfl
  rcases read_neg zO h2 with ⟨m, e, hr, hm⟩ | hr | ⟨fr, hr⟩
  · by_cases h0 : m = 0
    · exact Or.inr (Or.inr (hm h0))
    refine Or.inr (Or.inl ?_);unfold Format.order;rw [hr];by_cases hf : b < INF;rotate_left
    · obtain rfl : b = INF := by omega
      rw [read_inf];exact ⟨rfl, rfl⟩
    obtain ⟨n, j, hrb, _⟩ := read_fin hf;rw [hrb];simp only [Datum.order, signed_false, signed_true];have hp : ∀ u, 0 < m * 2 ^ u := fun u => Nat.mul_pos zO (Nat.two_pow_pos _)
    constructor
    · congr 1
      rw [Int.compare_eq_lt];have := hp (e - min e (-1074 + (j : Int))).toNat
      omega
    congr 1
    rw [Int.compare_eq_gt];have := hp (e - min (-1074 + (j : Int)) e).toNat
    omega
  · refine Or.inr (Or.inl ?_);unfold Format.order;rw [hr];by_cases hf : b < INF
    · obtain ⟨n, j, hrb, _⟩ := read_fin hf;rw [hrb];exact ⟨rfl, rfl⟩
    obtain rfl : b = INF := by omega
    rw [read_inf];exact ⟨rfl, rfl⟩
  unfold Format.order;rw [hr];cases Ieee.double.read b <;> exact Or.inl rfl
theorem zero_le : (0 : Nat) ≤ INF := Nat.zero_le _
theorem gt0 {w : Nat} (h : w < 18446744073709551616) : Ieee.double.order w 0 = some .gt ↔ 0 < w ∧ w ≤ INF := by
  by_cases h1 : w ≤ INF
  · rw [order_nn h1 zero_le]
    constructor
    · intro e;injection e with e
      exact ⟨Nat.compare_eq_gt.1 e, h1⟩
    intro e; rw [Nat.compare_eq_gt.2 e.1]
  constructor
  · intro e
    rcases order_other zO h zero_le with g | ⟨g, _⟩ | g
    · rw [g] at e; cases e
    · rw [g] at e; cases e
    subst g;rw [show NEG0 = 9223372036854775808 from rfl, order_neg0 zero_le, order_nn zero_le zero_le] at e;cases e
  intro e; omega
def eff (d : Nat) : Nat := if d ≤ INF then d else 0
theorem geq0 {w : Nat} (h : w < 18446744073709551616) : (Ieee.double.order w 0 = some .gt ∨ Ieee.double.order w 0 = some .eq) ↔ (w ≤ INF ∨ w = NEG0) := by
  by_cases h1 : w ≤ INF
  · rw [order_nn h1 zero_le];refine ⟨fun _ => Or.inl h1, fun _ => ?_⟩
    rcases Nat.eq_zero_or_pos w with e | e
    · subst e; exact Or.inr rfl
    exact Or.inl (by rw [Nat.compare_eq_gt.2 e])
  constructor
  · intro e
    rcases order_other zO h zero_le with g | ⟨g, _⟩ | g
    · rw [g] at e; rcases e with e | e <;> cases e
    · rw [g] at e; rcases e with e | e <;> cases e
    exact Or.inr g
  rintro (e | e)
  · omega
  subst e;rw [show NEG0 = 9223372036854775808 from rfl, order_neg0 zero_le, order_nn zero_le zero_le];exact Or.inr rfl
theorem mul_mono {a a' b : Nat} (h : a ≤ a') (ha : a' < INF) : rnd2 (val a * val b) ≤ rnd2 (val a' * val b) := rnd2_mono (Nat.mul_le_mul_right _ (val_mono zO ha h))
theorem add_mono {a a' b b' : Nat} (h : a ≤ a') (h' : b ≤ b') (ha : a' < INF) (hb : b' < INF) : rnd (val a + val b) ≤ rnd (val a' + val b') := rnd_mono (Nat.add_le_add (val_mono zO ha h) (val_mono zO hb h'))
theorem pow_split (q : Nat) : 4503599627370496 * 2 ^ q = 2 ^ (52 + q) := by rw [Nat.pow_add]
theorem val_pow (b : Nat) (hb : ¬ b < 4503599627370496) (hm : b % 4503599627370496 = 0) : ∃ e : Nat, e = 52 + (b / 4503599627370496 - 1) ∧ val b = 2 ^ e := by
  refine ⟨_, rfl, ?_⟩;unfold val;rw [zn hb, hm, Nat.add_zero, pow_split]
theorem val_one : ∃ e : Nat, e = 1074 ∧ val 4607182418800017408 = 2 ^ e := by
  obtain ⟨e, he, hv⟩ := val_pow 4607182418800017408 (by decide) (by decide);exact ⟨e, he.trans (by decide), hv⟩
theorem mul_one {a : Nat} (h : a < INF) : rnd2 (val a * val 4607182418800017408) = a := by
  obtain ⟨e, he, hv⟩ := val_one;rw [hv];have := near_scale (val a) e (-1074);unfold rnd2;rw [show (-2148 : Int) = -1074 - (e : Int) by omega, this];exact rnd_val h
end Go.Proofs.YtpigfccpogmeaaaGreatDoor.FL
end
section
namespace Go.Proofs.YtpigfccpogmeaaaGreatDoor.S
open Go.RowKit Go.Proofs.YtpigfccpogmeaaaGreatDoorW.PrintWords Go.Proofs.YtpigfccpogmeaaaGreatDoorW.PrintLast Go.Proofs.YtpigfccpogmeaaaGreatDoorW.PrintMore
attribute [local go_sem] max2_int min2_int max_two min_two max_three min_three max_four min_four
attribute [local go_sem] fbin_eql fbin_neq fbin_lss fbin_leq fbin_gtr fbin_geq frun_add frun_sub frun_mul frun_quo frun_store fun_neg fcv_int fcv_same fb88 fb89
set_option linter.unusedVariables false
set_option linter.unusedSimpArgs false
-- NOT PRINTED: function 107 (stringslite_Index)

-- NOT PRINTED: function 79 (strings_Index)

def strings_Contains.f (a0 a1 : ByteArray) : Option Bool := if a1.size = 1 then some (decide (0 ≤ Lib.indexByte a0.data.toList (a1.data.toList.getD 0 0))) else none
theorem strings_Contains.calls (a0 a1 : ByteArray) (r : Bool) (w : World) (h : strings_Contains.f a0 a1 = some r) :
    Calls Tryz.prog 51 #[.string a0, .string a1] w fun e w' => e = .returned (.bool r) ∧ Drawn0 w w' := by
  unfold strings_Contains.f at h
  split at h
  · rename_i hs
    obtain rfl := zo h;obtain ⟨c, rfl⟩ : ∃ c, a1 = ⟨#[c]⟩ := by
      obtain ⟨⟨l⟩⟩ := a1
      match l, hs with
      | [c], _ => exact ⟨c, rfl⟩
    exact (Tryz.strings_Contains_one a0 c w).mono fun e w' ⟨h1, h2⟩ => ⟨h1, 0, h2⟩
  cases h


-- NOT PRINTED: function 39 (conf_Store_config)

-- NOT PRINTED: function 16 (conf_Store_act)

-- NOT PRINTED: function 7 (conf_Store_Do)

-- NOT PRINTED: function 40 (api_Route)

-- NOT PRINTED: function 41 (api_Pool)

-- NOT PRINTED: function 17 (plane_copied)

-- NOT PRINTED: function 8 (plane_Plane_Apply)

-- NOT PRINTED: function 9 (conf_Store_Config)

def head_alnum.f (a0 : Int) : Option (Bool) := if a0 ≥ 97 then (if a0 ≤ 122 then (some true) else (if a0 ≥ 65 then (if a0 ≤ 90 then (some true) else (if a0 ≥ 48 then (some (decide (a0 ≤ 57))) else (some false))) else (if a0 ≥ 48 then (some (decide (a0 ≤ 57))) else (some false)))) else (if a0 ≥ 65 then (if a0 ≤ 90 then (some true) else (if a0 ≥ 48 then (some (decide (a0 ≤ 57))) else (some false))) else (if a0 ≥ 48 then (some (decide (a0 ≤ 57))) else (some false)))
set_option maxHeartbeats 8000000 in
set_option maxRecDepth 100000 in
theorem head_alnum.calls (a0 : Int) (r : Bool) (w : World) (h : head_alnum.f a0 = some r) :
    Calls Tryz.prog 50 #[.int .u8 a0] w fun e w' => e = .returned (.bool r) ∧ Drawn0 w w' := by
  have H : (if a0 ≥ 97 then (if a0 ≤ 122 then (some true) else (if a0 ≥ 65 then (if a0 ≤ 90 then (some true) else (if a0 ≥ 48 then (some (decide (a0 ≤ 57))) else (some false))) else (if a0 ≥ 48 then (some (decide (a0 ≤ 57))) else (some false)))) else (if a0 ≥ 65 then (if a0 ≤ 90 then (some true) else (if a0 ≥ 48 then (some (decide (a0 ≤ 57))) else (some false))) else (if a0 ≥ 48 then (some (decide (a0 ≤ 57))) else (some false)))) = some r := h;clear h;by_cases c2 : a0 ≥ 97;rotate_left
  · rw [zn c2] at H;have c2b0 : decide (97 ≤ a0) = false := zf c2;clear c2;by_cases c8 : a0 ≥ 65;rotate_left
    · rw [zn c8] at H;have c8b0 : decide (65 ≤ a0) = false := zf c8;clear c8;by_cases c11 : a0 ≥ 48
      · rw [zp c11] at H;have c11b0 : decide (48 ≤ a0) = true := zt c11;clear c11;obtain rfl := zo H;go_enter Tryz.func50, Tryz.ntmps50;go_wp2;go_ret;exact ⟨zI, zD⟩
      rw [zn c11] at H;have c11b0 : decide (48 ≤ a0) = false := zf c11;clear c11;obtain rfl := zo H;go_enter Tryz.func50, Tryz.ntmps50;go_wp2;go_ret;exact ⟨zI, zD⟩
    rw [zp c8] at H;have c8b0 : decide (65 ≤ a0) = true := zt c8;clear c8;by_cases c9 : a0 ≤ 90
    · rw [zp c9] at H;have c9b0 := zt c9;clear c9;obtain rfl := zo H;go_enter Tryz.func50, Tryz.ntmps50;go_wp2;go_ret;exact ⟨zI, zD⟩
    rw [zn c9] at H;have c9b0 := zf c9;clear c9;by_cases c10 : a0 ≥ 48
    · rw [zp c10] at H;have c10b0 : decide (48 ≤ a0) = true := zt c10;clear c10;obtain rfl := zo H;go_enter Tryz.func50, Tryz.ntmps50;go_wp2;go_ret;exact ⟨zI, zD⟩
    rw [zn c10] at H;have c10b0 : decide (48 ≤ a0) = false := zf c10;clear c10;obtain rfl := zo H;go_enter Tryz.func50, Tryz.ntmps50;go_wp2;go_ret;exact ⟨zI, zD⟩
  rw [zp c2] at H;have c2b0 : decide (97 ≤ a0) = true := zt c2;clear c2;by_cases c3 : a0 ≤ 122
  · rw [zp c3] at H;have c3b0 := zt c3;clear c3;obtain rfl := zo H;go_enter Tryz.func50, Tryz.ntmps50;go_wp2;go_ret;exact ⟨zI, zD⟩
  rw [zn c3] at H;have c3b0 := zf c3;clear c3;by_cases c4 : a0 ≥ 65;rotate_left
  · rw [zn c4] at H;have c4b0 : decide (65 ≤ a0) = false := zf c4;clear c4;by_cases c7 : a0 ≥ 48
    · rw [zp c7] at H;have c7b0 : decide (48 ≤ a0) = true := zt c7;clear c7;obtain rfl := zo H;go_enter Tryz.func50, Tryz.ntmps50;go_wp2;go_ret;exact ⟨zI, zD⟩
    rw [zn c7] at H;have c7b0 : decide (48 ≤ a0) = false := zf c7;clear c7;obtain rfl := zo H;go_enter Tryz.func50, Tryz.ntmps50;go_wp2;go_ret;exact ⟨zI, zD⟩
  rw [zp c4] at H;have c4b0 : decide (65 ≤ a0) = true := zt c4;clear c4;by_cases c5 : a0 ≤ 90
  · rw [zp c5] at H;have c5b0 := zt c5;clear c5;obtain rfl := zo H;go_enter Tryz.func50, Tryz.ntmps50;go_wp2;go_ret;exact ⟨zI, zD⟩
  rw [zn c5] at H;have c5b0 := zf c5;clear c5;by_cases c6 : a0 ≥ 48
  · rw [zp c6] at H;have c6b0 : decide (48 ≤ a0) = true := zt c6;clear c6;obtain rfl := zo H;go_enter Tryz.func50, Tryz.ntmps50;go_wp2;go_ret;exact ⟨zI, zD⟩
  rw [zn c6] at H;have c6b0 : decide (48 ≤ a0) = false := zf c6;clear c6;obtain rfl := zo H;go_enter Tryz.func50, Tryz.ntmps50;go_wp2;go_ret;exact ⟨zI, zD⟩

def head_token.l0 : Nat → ByteArray → Int → Int → Option (Bool)
  | 0, _, _, _ => none
  | k + 1, x0, x5, x6 => if x6 < x5 then (if 0 ≤ x6 then (if x6 < (x0.size : Int) then ((head_alnum.f (bt x0 x6)).bind fun t279 => (if t279 = true then (head_token.l0 k x0 x5 (wrap64 (x6 + 1))) else (if x6 ≤ (wrap64 (x6 + 1)) then (if (wrap64 (x6 + 1)) ≤ (x0.size : Int) then ((strings_Contains.f (⟨#[33, 35, 36, 37, 38, 39, 42, 43, 45, 46, 94, 95, 96, 124, 126]⟩ : ByteArray) (x0.extract (x6 : Int).toNat ((wrap64 (x6 + 1)) : Int).toNat)).bind fun t280 => (if t280 = true then (head_token.l0 k x0 x5 (wrap64 (x6 + 1))) else (some false))) else (none)) else (none)))) else (none)) else (none)) else (some (x0.toList != ([] : List UInt8)))
def head_token.f (k : Nat) (a0 : ByteArray) : Option (Bool) := head_token.l0 k a0 (a0.size : Int) 0
theorem head_token.mono_l : ∀ k, (∀ y0 y1 y2, LeO (head_token.l0 k y0 y1 y2) (head_token.l0 (k + 1) y0 y1 y2))
  | 0 => fun _ _ _ r h => by simp [head_token.l0] at h
  | k + 1 => by
    have ih0 := head_token.mono_l k;intro y0 y1 y2;unfold head_token.l0
    repeat' with_reducible first | exact ih0 _ _ _ | exact LeO.refl _ | exact LeO.none _ | refine LeO.ite ?_ ?_ | refine LeO.bind ?_ (fun _ => ?_)
theorem head_token.mono : ∀ a0 k, LeO (head_token.f k a0) (head_token.f (k + 1) a0) := by
  intro a0 k;have ih0 := head_token.mono_l k;unfold head_token.f
  repeat' with_reducible first | exact ih0 _ _ _ | exact LeO.refl _ | exact LeO.none _ | refine LeO.ite ?_ ?_ | refine LeO.bind ?_ (fun _ => ?_)
set_option maxHeartbeats 8000000 in
set_option maxRecDepth 100000 in
theorem head_token.calls (k : Nat) (a0 : ByteArray) (r : Bool) (w : World) (h : head_token.f k a0 = some r) :
    Calls Tryz.prog 22 #[.string a0] w fun e w' => e = .returned (.bool r) ∧ Drawn0 w w' := by
  have H : (head_token.l0 k a0 (a0.size : Int) 0) = some r := h;clear h;have H' := zN H;clear H;go_enter Tryz.func22, Tryz.ntmps22;go_wp2;go_loopg [6] k (fun kq v6 w' => ∃ (x6_1 : Int), v6 = .int .i64 x6_1 ∧ Aside0 (head_token.l0 kq a0 (a0.size : Int) x6_1 = some r) ∧ Aside0 (kq ≤ k) ∧ Drawn0 w w')
  case atStart => exact ⟨(0), zI, H', ⟨zh _⟩, zD⟩
  case round =>
    clear H';obtain ⟨x6_1, rfl, HA, HK1, ⟨m1, rfl⟩⟩ := hrel;cases gk with
    | zero => exact absurd HA.out (by simp [head_token.l0])
    | succ k1 =>
      have H := HA.out;clear HA;simp only [head_token.l0] at H;by_cases c2 : x6_1 < (a0.size : Int);rotate_left
      · rw [zn c2] at H;have c2b0 := zf c2;clear c2;obtain rfl := zo H;go_wp2;go_ret;exact ⟨by first | rfl | (simp; done) | (simp [*]; done) | (simp; generalize a0.toList = l_; cases l_ <;> simp), zD⟩
      rw [zp c2] at H;have c2b0 := zt c2;clear c2;by_cases c3 : 0 ≤ x6_1;rotate_left
      · rw [zn c3] at H;exact absurd H (by simp)
      rw [zp c3] at H;have c3b0 := zt c3;clear c3;by_cases c4 : x6_1 < (a0.size : Int);rotate_left
      · rw [zn c4] at H;exact absurd H (by simp)
      rw [zp c4] at H;have c4b0 := zt c4;clear c4;obtain ⟨t279, A6, H⟩ := zA H;(try dsimp only at H);by_cases c7 : t279 = true
      · subst c7;have H1 := H; rw [zp rfl] at H1;clear H;have H := H1;clear H1;have H' := zN H;clear H;have p5 : 0 ≤ (x6_1 : Int) := zd zS;have q5 : x6_1 < (a0.size : Int) := zd zS;have hx5 := bt_at a0 x6_1;replace p5 := zu p5;replace q5 := zu q5;go_wp2_with (first | ((with_reducible refine gate_callee (f := 50) rfl ?_); refine zg (some 12) Tryz.func50 #[.int .u8 (bt a0 x6_1)] ?_; (with_reducible refine (head_alnum.calls (bt a0 x6_1) true _ A6.out).mono ?_); rintro e w' ⟨rfl, ⟨nd, rfl⟩⟩; refine ⟨_, rfl, ?_⟩));go_roundg k1
        case measure => have := HK1.out; omega
        case rel => exact ⟨(wrap64 (x6_1 + 1)), zI, H', ⟨by have := HK1.out; omega⟩, zD⟩
      replace c7 := zq.mpr c7;subst c7;have H1 := H; rw [zn (show ¬ (false = true) by decide)] at H1;clear H;have H := H1;clear H1;have c8b0 := zu (zd zS : 0 ≤ x6_1);by_cases c9 : x6_1 ≤ (wrap64 (x6_1 + 1));rotate_left
      · rw [zn c9] at H;exact absurd H (by simp)
      rw [zp c9] at H;have c9b0 := zu c9;have c9b1 := zt c9;by_cases c10 : (wrap64 (x6_1 + 1)) ≤ (a0.size : Int);rotate_left
      · rw [zn c10] at H;exact absurd H (by simp)
      rw [zp c10] at H;have c10b0 := zu c10;have c10b1 := zt c10;obtain ⟨t280, A11, H⟩ := zA H;(try dsimp only at H);by_cases c12 : t280 = true
      · subst c12;have H1 := H; rw [zp rfl] at H1;clear H;have H := H1;clear H1;have H' := zN H;clear H;have p5 : 0 ≤ (x6_1 : Int) := zd zS;have q5 : x6_1 < (a0.size : Int) := zd zS;have hx5 := bt_at a0 x6_1;replace p5 := zu p5;replace q5 := zu q5;go_wp2_with (first | ((with_reducible refine gate_callee (f := 50) rfl ?_); refine zg (some 12) Tryz.func50 #[.int .u8 (bt a0 x6_1)] ?_; (with_reducible refine (head_alnum.calls (bt a0 x6_1) false _ A6.out).mono ?_); rintro e w' ⟨rfl, ⟨nd, rfl⟩⟩; refine ⟨_, rfl, ?_⟩) | (go_at_call 51; (with_reducible refine (strings_Contains.calls (⟨#[33, 35, 36, 37, 38, 39, 42, 43, 45, 46, 94, 95, 96, 124, 126]⟩ : ByteArray) (a0.extract (x6_1 : Int).toNat ((wrap64 (x6_1 + 1)) : Int).toNat) true _ A11.out).mono ?_); rintro e w' ⟨rfl, ⟨nd, rfl⟩⟩));go_roundg k1
        case measure => have := HK1.out; omega
        case rel => exact ⟨(wrap64 (x6_1 + 1)), zI, H', ⟨by have := HK1.out; omega⟩, zD⟩
      replace c12 := zq.mpr c12;subst c12;have H1 := H; rw [zn (show ¬ (false = true) by decide)] at H1;clear H;have H := H1;clear H1;obtain rfl := zo H;have p5 : 0 ≤ (x6_1 : Int) := zd zS;have q5 : x6_1 < (a0.size : Int) := zd zS;have hx5 := bt_at a0 x6_1;replace p5 := zu p5;replace q5 := zu q5;go_wp2_with (first | ((with_reducible refine gate_callee (f := 50) rfl ?_); refine zg (some 12) Tryz.func50 #[.int .u8 (bt a0 x6_1)] ?_; (with_reducible refine (head_alnum.calls (bt a0 x6_1) false _ A6.out).mono ?_); rintro e w' ⟨rfl, ⟨nd, rfl⟩⟩; refine ⟨_, rfl, ?_⟩) | (go_at_call 51; (with_reducible refine (strings_Contains.calls (⟨#[33, 35, 36, 37, 38, 39, 42, 43, 45, 46, 94, 95, 96, 124, 126]⟩ : ByteArray) (a0.extract (x6_1 : Int).toNat ((wrap64 (x6_1 + 1)) : Int).toNat) false _ A11.out).mono ?_); rintro e w' ⟨rfl, ⟨nd, rfl⟩⟩));go_ret;exact ⟨by first | rfl | (simp; done) | (simp [*]; done) | (simp; generalize a0.toList = l_; cases l_ <;> simp), zD⟩

def lowB (b : UInt8) : UInt8 := if 65 ≤ b.toNat ∧ b.toNat ≤ 90 then b + 32 else b
def head_lower.f (a0 : ByteArray) : Option ByteArray := if a0.size ≤ 9223372036854775807 then some ⟨(a0.data.toList.map lowB).toArray⟩ else none
def mixL (l : List UInt8) (i : Nat) : List UInt8 := (l.take i).map lowB ++ l.drop i
theorem mixL_length (l : List UInt8) (i : Nat) : (mixL l i).length = l.length := by simp [mixL]; omega
theorem mixL_get (l : List UInt8) (i : Nat) (hi : i < l.length) (h : i < (mixL l i).length) : (mixL l i)[i] = l[i] := by
  simp only [mixL];rw [List.getElem_append_right (by simp; omega)];simp
  congr 1
  omega
theorem mixL_set (l : List UInt8) (i : Nat) (hi : i < l.length) : (mixL l i).set i (lowB l[i]) = mixL l (i + 1) := by
  have hlen : (List.map lowB (List.take i l)).length = i := by simp; omega
  simp only [mixL];rw [List.drop_eq_getElem_cons hi, List.set_append_right _ _ zO, hlen, Nat.sub_self, List.set_cons_zero, List.take_add_one, zr hi, List.map_append, List.append_assoc];rfl
theorem mixL_same (l : List UInt8) (i : Nat) (hi : i < l.length) (h : lowB l[i] = l[i]) : mixL l i = mixL l (i + 1) := by
  rw [← mixL_set l i hi, h];have h2 := mixL_get l i hi (by rw [mixL_length]; exact hi);rw [← h2];exact (List.set_getElem_self _).symm
theorem lowB_up {b : UInt8} (h : 65 ≤ b.toNat ∧ b.toNat ≤ 90) : ((lowB b).toNat : Int) = (b.toNat : Int) + 32 := by
  unfold lowB;rw [zp h, UInt8.toNat_add];have : (32 : UInt8).toNat = 32 := rfl;rw [this, Nat.mod_eq_of_lt zO];omega
theorem below_setB {bk : Nat} {w W : World} (h : Below bk w W) {g j : Nat} {v : Value} (hg : bk ≤ g) : Below bk w (W.setCell ⟨g, j, none⟩ v) := h.setCell hg _
set_option maxHeartbeats 2000000 in
theorem head_lower.calls (a0 r : ByteArray) (w : World) (h : head_lower.f a0 = some r) :
    Calls Tryz.prog 25 #[.string a0] w fun e w' => e = .returned (.string r) ∧ Below w.heap.size w w' := by
  unfold head_lower.f at h
  split at h
  rotate_left
  · cases h
  rename_i hsz
  obtain rfl := zo h;clear h;have hlen : a0.data.toList.length = a0.size := by simp
  have kcv := Lib.run_convert_string_bytes (P := Tryz.prog) w 9 46 5 a0 Tryz.underlying9 Tryz.underlying46 Tryz.underlying5;have hb0 := bytes_below w 5 a0;have hm0 := MRow.new w 5 a0;generalize Lib.bytesWorld w 5 a0 = w1 at kcv hb0 hm0;generalize grownCap w a0.size 0 5 = cp at kcv;generalize hb : w.heap.size = bk at *;have HM0 := zN hm0;have HB0 := zN hb0;have HSZ := zN hsz;have HLEN := zN hlen;clear hm0 hb0 hlen;have hab : ∀ i : Nat, (Addr.add ⟨bk, 0, none⟩ i) = ⟨bk, i, none⟩ := fun i => by rw [add_plain]
  go_enter Tryz.func25, Tryz.ntmps25;go_wp2;go_loopg [10] (a0.size + 1) (fun n v10 wr => ∃ i : Nat, v10 = .int .i64 (i : Int) ∧ Aside0 (i + n = a0.size + 1 ∧ i ≤ a0.size) ∧ Aside0 (MRow wr bk 5 (mixL a0.data.toList i)) ∧ Aside0 (Below bk w wr))
  case atStart => exact ⟨0, rfl, ⟨zO, zO⟩, ⟨by simpa [mixL] using HM0.out⟩, ⟨HB0.out⟩⟩
  case round =>
    clear kcv;obtain ⟨i, rfl, HN, HM, HB⟩ := hrel;have hl := mixL_length a0.data.toList i
    rcases Nat.lt_or_ge i a0.size with hi | hi
    rotate_left
    · have c1 : decide ((i : Int) < (a0.size : Int)) = false := zf zO;have hi2 : i = a0.size := by have := HN.out; omega
      have hmx : mixL a0.data.toList i = a0.data.toList.map lowB := by rw [hi2, ← HLEN.out]; simp only [mixL, List.take_length, List.drop_length, List.append_nil]
      have hst := HM.out.string (P := Tryz.prog) Tryz.underlying46 Tryz.underlying5 Tryz.underlying9 (by rw [hl, HLEN.out]; exact HSZ.out);rw [hmx, List.length_map, HLEN.out] at hst;go_wp2;go_ret;exact ⟨rfl, HB.out⟩
    have hi' : i < a0.data.toList.length := by rw [HLEN.out]; exact hi
    have c1 : decide ((i : Int) < (a0.size : Int)) = true := zt zO;have hcell := HM.out.cell i zO;rw [mixL_get _ i hi'] at hcell;have hfz := HM.out.frozen i zO;have hset := HM.out.set i zO (lowB a0.data.toList[i]);rw [mixL_set _ i hi'] at hset;have HS := zN hset;clear hset hl;by_cases hu : 65 ≤ (a0.data.toList[i]).toNat ∧ (a0.data.toList[i]).toNat ≤ 90
    · have hv := lowB_up hu;generalize hx : ((a0.data.toList[i]).toNat : Int) = x at *;have hx1 : 65 ≤ x := by omega
      have hx2 : x ≤ 90 := by omega
      rw [hv] at HS;clear hv hu hx;go_wp2;go_roundg (a0.size - i)
      case measure => have := HN.out; omega
      case rel => exact ⟨i + 1, by simp, ⟨by have := HN.out; omega⟩, ⟨HS.out⟩, ⟨below_setB HB.out (zh _)⟩⟩
    have hs := mixL_same a0.data.toList i hi' (by unfold lowB; rw [zn hu]);have HS2 := zN (hs ▸ HM.out);clear hs HS;generalize hx : ((a0.data.toList[i]).toNat : Int) = x at *
    rcases Int.lt_or_le x 65 with hx1 | hx1
    · clear hx hu;go_wp2;go_roundg (a0.size - i)
      case measure => have := HN.out; omega
      case rel => exact ⟨i + 1, by simp, ⟨by have := HN.out; omega⟩, ⟨HS2.out⟩, ⟨HB.out⟩⟩
    have hx2 : 90 < x := by omega
    clear hx hu;go_wp2;go_roundg (a0.size - i)
    case measure => have := HN.out; omega
    case rel => exact ⟨i + 1, by simp, ⟨by have := HN.out; omega⟩, ⟨HS2.out⟩, ⟨HB.out⟩⟩


def head_blank.f (a0 : Int) : Option (Bool) := if a0 = 9 then (some true) else (some (a0 == 32))
set_option maxHeartbeats 8000000 in
set_option maxRecDepth 100000 in
theorem head_blank.calls (a0 : Int) (r : Bool) (w : World) (h : head_blank.f a0 = some r) :
    Calls Tryz.prog 54 #[.int .u8 a0] w fun e w' => e = .returned (.bool r) ∧ Drawn0 w w' := by
  have H : (if a0 = 9 then (some true) else (some (a0 == 32))) = some r := h;clear h;by_cases c2 : a0 = 9
  · rw [zp c2] at H;have c2b0 := beq_iff_eq.mpr c2;have c2b1 := zc.mpr c2;clear c2;obtain rfl := zo H;go_enter Tryz.func54, Tryz.ntmps54;go_wp2;go_ret;exact ⟨zI, zD⟩
  rw [zn c2] at H;have c2b0 := zb.mpr c2;have c2b1 := bne_iff_ne.mpr c2;obtain rfl := zo H;go_enter Tryz.func54, Tryz.ntmps54;go_wp2;go_ret;exact ⟨zI, zD⟩

def head_value.l0 : Nat → ByteArray → Int → Int → Option (Bool)
 | 0, _, _, _ => none
 | k + 1, x0, x6, x7 => if x7 < x6 then (if 0 ≤ x7 then (if x7 < (x0.size : Int) then (if (bt x0 x7) = 9 then (if (bt x0 x7) = 127 then (some false) else (head_value.l0 k x0 x6 (wrap64 (x7 + 1)))) else (if (bt x0 x7) < 32 then (some false) else (if (bt x0 x7) = 127 then (some false) else (head_value.l0 k x0 x6 (wrap64 (x7 + 1)))))) else (none)) else (none)) else (if x0.toList = ([] : List UInt8) then (some true) else (if 0 < (x0.size : Int) then ((head_blank.f (bt x0 0)).bind fun t287 => (if t287 = true then (some false) else (if 0 ≤ (wrap64 ((x0.size : Int) - 1)) then (if (wrap64 ((x0.size : Int) - 1)) < (x0.size : Int) then ((head_blank.f (bt x0 (wrap64 ((x0.size : Int) - 1)))).bind fun t288 => (some (!t288))) else (none)) else (none)))) else (none)))
def head_value.f (k : Nat) (a0 : ByteArray) : Option (Bool) := head_value.l0 k a0 (a0.size : Int) 0
theorem head_value.mono_l : ∀ k, (∀ y0 y1 y2, LeO (head_value.l0 k y0 y1 y2) (head_value.l0 (k + 1) y0 y1 y2))
 | 0 => fun _ _ _ r h => by simp [head_value.l0] at h
 | k + 1 => by
  have ih0 := head_value.mono_l k;intro y0 y1 y2;unfold head_value.l0
  repeat' with_reducible first | exact ih0 _ _ _ | exact LeO.refl _ | exact LeO.none _ | refine LeO.ite ?_ ?_ | refine LeO.bind ?_ (fun _ => ?_)
theorem head_value.mono : ∀ a0 k, LeO (head_value.f k a0) (head_value.f (k + 1) a0) := by
 intro a0 k;have ih0 := head_value.mono_l k;unfold head_value.f
 repeat' with_reducible first | exact ih0 _ _ _ | exact LeO.refl _ | exact LeO.none _ | refine LeO.ite ?_ ?_ | refine LeO.bind ?_ (fun _ => ?_)
set_option maxHeartbeats 8000000 in
set_option maxRecDepth 100000 in
theorem head_value.calls (k : Nat) (a0 : ByteArray) (r : Bool) (w : World) (h : head_value.f k a0 = some r) :
  Calls Tryz.prog 26 #[.string a0] w fun e w' => e = .returned (.bool r) ∧ Drawn0 w w' := by
 have H : (head_value.l0 k a0 (a0.size : Int) 0) = some r := h;clear h;have H' := zN H;clear H;go_enter Tryz.func26, Tryz.ntmps26;go_wp2;go_loopg [7] k (fun kq v7 w' => ∃ (x7_1 : Int), v7 = .int .i64 x7_1 ∧ Aside0 (head_value.l0 kq a0 (a0.size : Int) x7_1 = some r) ∧ Aside0 (kq ≤ k) ∧ Drawn0 w w')
 case atStart => exact ⟨(0), zI, H', ⟨zh _⟩, zD⟩
 case round =>
  clear H';obtain ⟨x7_1, rfl, HA, HK1, ⟨m1, rfl⟩⟩ := hrel;cases gk with
  | zero => exact absurd HA.out (by simp [head_value.l0])
  | succ k1 =>
   have H := HA.out;clear HA;simp only [head_value.l0] at H;by_cases c2 : x7_1 < (a0.size : Int);rotate_left
   ·rw [zn c2] at H;have c2b0 := zf c2;clear c2;by_cases c10 : a0.toList = ([] : List UInt8)
    ·rw [zp c10] at H;have c10b0 := beq_iff_eq.mpr c10;have c10b1 := zc.mpr c10;clear c10;obtain rfl := zo H;go_wp2;go_ret;exact ⟨zI, zD⟩
    rw [zn c10] at H;have c10b0 := zb.mpr c10;have c10b1 := bne_iff_ne.mpr c10;by_cases c11 : 0 < (a0.size : Int);rotate_left
    ·rw [zn c11] at H;exact absurd H (by simp)
    rw [zp c11] at H;have c11b0 := zt c11;have c11b1 : decide (0 < a0.size) = true := zt zO;clear c11;obtain ⟨t287, A13, H⟩ := zA H;(try dsimp only at H);by_cases c14 : t287 = true
    ·subst c14;have H1 := H; rw [zp rfl] at H1;clear H;have H := H1;clear H1;obtain rfl := zo H;have p12 : 0 ≤ (0 : Int) := zO;have q12 : 0 < a0.size := (by have : (0 : Int) < (a0.size : Int) := zd zS; omega);have hx12 : ∀ h : 0 < a0.size, ((a0[0]'h).toNat : Int) = bt a0 0 := bt_at a0 0;clear p12;have qi12 : (0 < (a0.size : Int)) = True := zu (zd zS);replace q12 := zu q12;go_wp2_with (first | (go_at_call 54; (with_reducible refine (head_blank.calls (bt a0 0) true _ A13.out).mono ?_); rintro e w' ⟨rfl, ⟨nd, rfl⟩⟩));go_ret;exact ⟨zI, zD⟩
    replace c14 := zq.mpr c14;subst c14;have H1 := H; rw [zn (show ¬ (false = true) by decide)] at H1;clear H;have H := H1;clear H1;obtain ⟨ji15, hji15⟩ : ∃ j_ : Int, (wrap64 ((a0.size : Int) - 1)) = j_ := ⟨_, rfl⟩;replace H : (if 0 ≤ (ji15) then (if (ji15) < (a0.size : Int) then ((head_blank.f (bt a0 (ji15))).bind fun t288 => (some (!t288))) else (none)) else (none)) = some r := by first | (rw [hji15] at H; exact H) | (simp only [hji15] at H ⊢; exact H)
    (try rw [hji15] at A13);have hji15w : (IntKind.i64.wrap ((a0.size : Int) - 1)) = ji15 := (i64_w _).trans hji15;by_cases c16 : 0 ≤ (ji15);rotate_left
    ·rw [zn c16] at H;exact absurd H (by simp)
    rw [zp c16] at H;have c16b0 := zt c16;clear c16;by_cases c17 : (ji15) < (a0.size : Int);rotate_left
    ·rw [zn c17] at H;exact absurd H (by simp)
    rw [zp c17] at H;have c17b0 := zt c17;clear c17;obtain ⟨t288, A19, H⟩ := zA H;(try dsimp only at H);obtain rfl := zo H;have p12 : 0 ≤ (0 : Int) := zO;have q12 : 0 < a0.size := (by have : (0 : Int) < (a0.size : Int) := zd zS; omega);have hx12 : ∀ h : 0 < a0.size, ((a0[0]'h).toNat : Int) = bt a0 0 := bt_at a0 0;clear p12;have qi12 : (0 < (a0.size : Int)) = True := zu (zd zS);replace q12 := zu q12;go_wp2_with (first | (go_at_call 54; (with_reducible refine (head_blank.calls (bt a0 0) false _ A13.out).mono ?_); rintro e w' ⟨rfl, ⟨nd, rfl⟩⟩; have p18 : 0 ≤ ((ji15) : Int) := zd zS; have q18 : (ji15) < (a0.size : Int) := zd zS; have hx18 := bt_at a0 (ji15); replace p18 := zu p18; replace q18 := zu q18) | (go_at_call 54; (with_reducible refine (head_blank.calls (bt a0 (ji15)) t288 _ A19.out).mono ?_); rintro e w' ⟨rfl, ⟨nd, rfl⟩⟩));go_ret;exact ⟨by first | rfl | (simp; done) | (simp only [← hji15] <;> (first | rfl | simp)) | (simp [*]; done), zD⟩
   rw [zp c2] at H;have c2b0 := zt c2;clear c2;by_cases c3 : 0 ≤ x7_1;rotate_left
   ·rw [zn c3] at H;exact absurd H (by simp)
   rw [zp c3] at H;have c3b0 := zt c3;clear c3;by_cases c4 : x7_1 < (a0.size : Int);rotate_left
   ·rw [zn c4] at H;exact absurd H (by simp)
   rw [zp c4] at H;have c4b0 := zt c4;clear c4;by_cases c6 : (bt a0 x7_1) = 9
   ·rw [zp c6] at H;have c6b0 := beq_iff_eq.mpr c6;have c6b1 := zc.mpr c6;clear c6;by_cases c7 : (bt a0 x7_1) = 127
    ·rw [zp c7] at H;have c7b0 := beq_iff_eq.mpr c7;have c7b1 := zc.mpr c7;clear c7;obtain rfl := zo H;have p5 : 0 ≤ (x7_1 : Int) := zd zS;have q5 : x7_1 < (a0.size : Int) := zd zS;have hx5 := bt_at a0 x7_1;replace p5 := zu p5;replace q5 := zu q5;go_wp2;go_ret;exact ⟨zI, zD⟩
    rw [zn c7] at H;have c7b0 := zb.mpr c7;have c7b1 := bne_iff_ne.mpr c7;have H' := zN H;clear H;have p5 : 0 ≤ (x7_1 : Int) := zd zS;have q5 : x7_1 < (a0.size : Int) := zd zS;have hx5 := bt_at a0 x7_1;replace p5 := zu p5;replace q5 := zu q5;go_wp2;go_roundg k1
    case measure => have := HK1.out; omega
    case rel => exact ⟨(wrap64 (x7_1 + 1)), zI, H', ⟨by have := HK1.out; omega⟩, zD⟩
   rw [zn c6] at H;have c6b0 := zb.mpr c6;have c6b1 := bne_iff_ne.mpr c6;by_cases c8 : (bt a0 x7_1) < 32
   ·rw [zp c8] at H;have c8b0 := zt c8;clear c8;obtain rfl := zo H;have p5 : 0 ≤ (x7_1 : Int) := zd zS;have q5 : x7_1 < (a0.size : Int) := zd zS;have hx5 := bt_at a0 x7_1;replace p5 := zu p5;replace q5 := zu q5;go_wp2;go_ret;exact ⟨zI, zD⟩
   rw [zn c8] at H;have c8b0 := zf c8;clear c8;by_cases c9 : (bt a0 x7_1) = 127
   ·rw [zp c9] at H;have c9b0 := beq_iff_eq.mpr c9;have c9b1 := zc.mpr c9;clear c9;obtain rfl := zo H;have p5 : 0 ≤ (x7_1 : Int) := zd zS;have q5 : x7_1 < (a0.size : Int) := zd zS;have hx5 := bt_at a0 x7_1;replace p5 := zu p5;replace q5 := zu q5;go_wp2;go_ret;exact ⟨zI, zD⟩
   rw [zn c9] at H;have c9b0 := zb.mpr c9;have c9b1 := bne_iff_ne.mpr c9;have H' := zN H;clear H;have p5 : 0 ≤ (x7_1 : Int) := zd zS;have q5 : x7_1 < (a0.size : Int) := zd zS;have hx5 := bt_at a0 x7_1;replace p5 := zu p5;replace q5 := zu q5;go_wp2;go_roundg k1
   case measure => have := HK1.out; omega
   case rel => exact ⟨(wrap64 (x7_1 + 1)), zI, H', ⟨by have := HK1.out; omega⟩, zD⟩

-- NOT PRINTED: function 81 (stringslite_Cut)

def strings_Cut.f (a0 a1 : ByteArray) : Option (ByteArray × ByteArray × Bool) := if a0.size < 4294967281 then some (⟨(Lib.cut a0.data.toList a1.data.toList).1.toArray⟩, ⟨(Lib.cut a0.data.toList a1.data.toList).2.1.toArray⟩, (Lib.cut a0.data.toList a1.data.toList).2.2) else none
theorem strings_Cut.calls (a0 a1 : ByteArray) (r1 r2 : ByteArray) (r3 : Bool) (w : World) (hml : ML w) (h : strings_Cut.f a0 a1 = some (r1, r2, r3)) :
    Calls Tryz.prog 55 #[.string a0, .string a1] w fun e w' => e = .returned (.tuple #[.string r1, .string r2, .bool r3]) ∧ Drawn0 w w' := by
  obtain ⟨m, hm⟩ := hml;unfold strings_Cut.f at h
  split at h
  · rename_i hs
    simp only [Option.some.injEq, Prod.mk.injEq] at h;obtain ⟨rfl, rfl, rfl⟩ := h;exact (Tryz.strings_Cut a0 a1 m w hs hm).mono fun e w' ⟨h1, n, h2⟩ => ⟨h1, n, h2⟩
  cases h


-- NOT PRINTED: function 140 (utf8_RuneCountInString)

-- NOT PRINTED: function 154 (utf8_decodeRuneInStringSlow)

-- NOT PRINTED: function 141 (utf8_DecodeRuneInString)

-- NOT PRINTED: function 108 (strings_explode)

-- NOT PRINTED: function 142 (bytealg_CountString)

-- NOT PRINTED: function 109 (strings_Count)

-- NOT PRINTED: function 82 (strings_genSplit)

def strings_Split.f (a0 a1 : ByteArray) : Option (List ByteArray) := if a0.size < 4294967281 ∧ 1 ≤ a1.size then some (Lib.splitB a1 0 (Lib.countB a0 a1) a0) else none
theorem strings_Split.calls (a0 a1 : ByteArray) (r : List ByteArray) (w : World) (hml : ML w) (h : strings_Split.f a0 a1 = some r) :
    Calls Tryz.prog 56 #[.string a0, .string a1] w fun e w' => ∃ v0_ : Value, e = .returned (v0_) ∧ Kd.R Kd.string 9 w' w.heap.size (fun _ => True) v0_ r ∧ Below w.heap.size w w' := by
  obtain ⟨m, hm⟩ := hml;unfold strings_Split.f at h
  split at h
  rotate_left
  · cases h
  rename_i hs
  obtain rfl := zo h;refine (Tryz.strings_Split a0 a1 m w hs.1 hm hs.2).mono ?_;rintro e w' ⟨rfl, rfl⟩;have hlen := Lib.splitB_all a1 hs.2 0 _ a0 rfl;have hle := Lib.countB_le a1 hs.2 a0.size a0 (zh _);refine ⟨_, rfl, ?_, (Below.refl _ _).alloc (zh _) _⟩;rw [← hlen];refine Kd.R_of_own (enc := Value.string) ?_ (fun _ _ => trivial);have h2 := World.ownsRow_lit (base := w.heap.size) (e := 9) (size := 1) w ((Lib.splitB a1 0 (Lib.countB a0 a1) a0).map Value.string).toArray (Lib.splitB a1 0 (Lib.countB a0 a1) a0).length (zh _) (by simp [maxLen]; omega) (by simp);simpa [encs] using h2


def bytes_Index.f (l0 l1 : List Int) : Option Int := if (l0.all fun x => decide (0 ≤ x ∧ x < 256)) = true ∧ (l1.all fun x => decide (0 ≤ x ∧ x < 256)) = true ∧ l0.length < 4294967281 ∧ 2 ≤ l1.length ∧ l1.length ≤ 9223372036854775807 then some (Lib.index (Lib.bytesOf l0) (Lib.bytesOf l1)) else none
theorem bytes_Index.calls (A0 : Option Addr) (c0 : Nat) (l0 : List Int) (A1 : Option Addr) (c1 : Nat) (l1 : List Int) (r : Int) (w : World) (hml : ML w) (hr0 : Kd.C (Kd.int .u8) w A0 l0.length l0) (hc0 : l0.length ≤ c0) (hr1 : Kd.C (Kd.int .u8) w A1 l1.length l1) (hc1 : l1.length ≤ c1) (h : bytes_Index.f l0 l1 = some r) :
    Calls Tryz.prog 83 #[.slice A0 l0.length c0, .slice A1 l1.length c1] w fun e w' => e = .returned (.int .i64 r) ∧ Drawn0 w w' := by
  obtain ⟨m, hm⟩ := hml;unfold bytes_Index.f at h
  split at h
  rotate_left
  · cases h
  rename_i hs
  obtain ⟨h1, h2, h3, h4, h5⟩ := hs;obtain rfl := zo h;have b1 : ∀ x ∈ l0, 0 ≤ x ∧ x < 256 := fun x hx => zd (List.all_eq_true.1 h1 x hx)
  have b2 : ∀ x ∈ l1, 0 ≤ x ∧ x < 256 := fun x hx => zd (List.all_eq_true.1 h2 x hx)
  have hR0 := Kd.reads_of_C (d := (0 : Int)) hr0;have hR1 := Kd.reads_of_C (d := (0 : Int)) hr1;obtain ⟨ad1, rfl, hc1'⟩ := hR1.2.2 zO;by_cases hl : l0.length < l1.length
  · have hx : Lib.index (Lib.bytesOf l0) (Lib.bytesOf l1) = -1 := Lib.index_long (by simp [Lib.bytesOf]; omega) (fun e => by have := congrArg List.length e; simp [Lib.bytesOf] at this; omega);rw [hx];exact (Any.bytes_Index_longer Tryz.lays185 A0 (some ad1) l0.length c0 l1.length c1 w h4 hl h5).mono fun e w' ⟨p, q⟩ => ⟨p, 0, q⟩
  obtain ⟨ad0, rfl, hc0'⟩ := hR0.2.2 zO;exact (Tryz.bytes_Index_at ad0 ad1 l0.length c0 l1.length c1 l0 l1 m w rfl rfl b1 b2 hc0' hc1' hc0 h3 h5 hm).mono fun e w' ⟨p, n, q⟩ => ⟨p, n, q⟩


def strings_IndexByte.f (a0 : ByteArray) (a1 : Int) : Option Int := some (Lib.indexByte a0.data.toList a1.toNat.toUInt8)
theorem strings_IndexByte.calls (a0 : ByteArray) (a1 r : Int) (w : World) (h : strings_IndexByte.f a0 a1 = some r) :
    Calls Tryz.prog 115 #[.string a0, .int .u8 a1] w fun e w' => e = .returned (.int .i64 r) ∧ Drawn0 w w' := by
  obtain rfl := zo h;exact (Tryz.strings_IndexByte a0 a1 w).mono fun e w' ⟨h1, h2⟩ => ⟨h1, 0, h2⟩


def strings_Trim.f (a0 a1 : ByteArray) : Option ByteArray := if a0.size ≤ 9223372036854775807 ∧ a1.size < 4294967281 ∧ a1.data.toList.all (fun b => decide (b.toNat < 128)) = true then some ⟨(Lib.trimS a0.data.toList a1.data.toList).toArray⟩ else none
theorem strings_Trim.calls (a0 a1 r : ByteArray) (w : World) (h : strings_Trim.f a0 a1 = some r) :
    Calls Tryz.prog 85 #[.string a0, .string a1] w fun e w' => e = .returned (.string r) ∧ Below w.heap.size w w' := by
  unfold strings_Trim.f at h
  split at h
  · rename_i hs
    obtain rfl := zo h;exact Any.strings_Trim_laid Tryz.lays160 zQ a0 a1 w hs.1 hs.2.1 (ascii_of_all hs.2.2)
  cases h


end Go.Proofs.YtpigfccpogmeaaaGreatDoor.S
end
section
namespace Go.Proofs.YtpigfccpogmeaaaGreatDoor.HP
open Go.RowKit Go.Proofs.YtpigfccpogmeaaaGreatDoor.S Go.Proofs.YtpigfccpogmeaaaGreatDoorW.PrintWords Go.Proofs.YtpigfccpogmeaaaGreatDoorW.PrintLast Go.Proofs.YtpigfccpogmeaaaGreatDoorW.PrintMore
theorem Ev.pos {α : Type} {c : Prop} [Decidable c] {a b : Nat → Option α} {r : α} (hc : c) (h : Ev a r) : Ev (fun k => if c then a k else b k) r := Ev.congr (fun _ => zp hc) h
theorem Ev.neg {α : Type} {c : Prop} [Decidable c] {a b : Nat → Option α} {r : α} (hc : ¬ c) (h : Ev b r) : Ev (fun k => if c then a k else b k) r := Ev.congr (fun _ => zn hc) h
theorem Ev.put {α β : Type} {x : β} {f : Nat → β → Option α} {r : α} (h : Ev (fun k => f k x) r) : Ev (fun k => (some x).bind (f k)) r := h
theorem Ev.call {α β : Type} {g : Option β} {x : β} {f : Nat → β → Option α} {r : α} (hg : g = some x) (h : Ev (fun k => f k x) r) : Ev (fun k => g.bind (f k)) r := by rw [hg]; exact h
theorem Ev.ret {α : Type} {a r : α} (h : a = r) : Ev (fun _ => some a) r := by rw [h]; exact Ev.now _
def B (l : List UInt8) : ByteArray := ⟨l.toArray⟩
theorem B_list (l : List UInt8) : (B l).data.toList = l := by simp [B]
theorem B_of (s : ByteArray) : B s.data.toList = s := by simp [B]
theorem B_size (l : List UInt8) : (B l).size = l.length := by simp [B, ByteArray.size]
theorem B_append (a b : List UInt8) : B a ++ B b = B (a ++ b) := by
  rw [← B_of (B a ++ B b)]
  congr 1
theorem B_toList (l : List UInt8) : (B l).toList = l := by rw [Lib.toList_data, B_list]
theorem B_bt (l : List UInt8) (i : Nat) (hi : i < l.length) : bt (B l) (i : Int) = ((l[i]).toNat : Int) := by
  unfold bt;rw [dif_pos (by rw [Int.toNat_natCast, B_size]; exact hi)];simp only [Int.toNat_natCast];rfl
theorem B_extract (l : List UInt8) (i j : Nat) : (B l).extract i j = B ((l.drop i).take (j - i)) := by
  rw [← B_of ((B l).extract i j), Lib.extract_data, B_list]
theorem wrap_succ (i : Nat) (h : i < 9223372036854775807) : wrap64 ((i : Int) + 1) = ((i + 1 : Nat) : Int) := by unfold wrap64; omega
theorem occ_not {s sub : List UInt8} {c : UInt8} {t : List UInt8} (hs : sub = c :: t) (j : Nat) (h : s[j]? ≠ some c) : Lib.occAt s sub j = false := by
  cases ho : Lib.occAt s sub j with
  | false => rfl
  | true => exact absurd (Lib.occAt_head hs ho) h
theorem index_one (a b : List UInt8) (c : UInt8) (ha : c ∉ a) : Lib.index (a ++ c :: b) [c] = (a.length : Int) := by
  refine Lib.index_first (i := a.length) (by simp) ?_ (fun j hj => occ_not rfl j ?_)
  · simp [Lib.occAt]
  rw [List.getElem?_append_left hj];intro h;exact ha (List.mem_of_getElem? h)
theorem index_two (a b : List UInt8) (c d : UInt8) (ha : c ∉ a) : Lib.index (a ++ c :: d :: b) [c, d] = (a.length : Int) := by
  refine Lib.index_first (i := a.length) (by simp) ?_ (fun j hj => occ_not rfl j ?_)
  · simp [Lib.occAt]
  rw [List.getElem?_append_left hj];intro h;exact ha (List.mem_of_getElem? h)
theorem index_no (a : List UInt8) (c : UInt8) (t : List UInt8) (ha : c ∉ a) : Lib.index a (c :: t) = -1 := by
  refine Lib.index_none (fun j _ => occ_not rfl j ?_);intro h;exact ha (List.mem_of_getElem? h)
theorem cut_one (a b : List UInt8) (c : UInt8) (ha : c ∉ a) : Lib.cut (a ++ c :: b) [c] = (a, b, true) := by
  unfold Lib.cut;rw [index_one a b c ha, zp zO, Int.toNat_natCast, List.take_left' rfl];simp
theorem cut_no (a : List UInt8) (c : UInt8) (ha : c ∉ a) : Lib.cut a [c] = (a, [], false) := by
  unfold Lib.cut;rw [index_no a c [] ha, zn zO]
theorem Cut_is (s sep : List UInt8) (hs : s.length < 4294967281) : strings_Cut.f (B s) (B sep) = some (B (Lib.cut s sep).1, B (Lib.cut s sep).2.1, (Lib.cut s sep).2.2) := by
  unfold strings_Cut.f;rw [zp (by rw [B_size]; exact hs), B_list, B_list];rfl
theorem split_more (a b : List UInt8) (ha : (13 : UInt8) ∉ a) : Lib.split (a ++ 13 :: 10 :: b) [13, 10] = a :: Lib.split b [13, 10] := by
  have h := index_two a b 13 10 ha;unfold Lib.split;rw [Lib.count_hit (by simp) h, Nat.add_comm];have hd : (a ++ 13 :: 10 :: b).drop (a.length + 2) = b := by simp
  simp only [Lib.splitK];rw [h, zn (by simp), Int.toNat_natCast, Nat.add_zero, List.take_left' rfl, show ([13, 10] : List UInt8).length = 2 from rfl, hd]
theorem split_last (a : List UInt8) (ha : (13 : UInt8) ∉ a) : Lib.split a [13, 10] = [a] := by
  unfold Lib.split;rw [Lib.count_miss (index_no a 13 [10] ha)];rfl
theorem Split_is (s sep : List UInt8) (hs : s.length < 4294967281) (h1 : 1 ≤ sep.length) : strings_Split.f (B s) (B sep) = some ((Lib.split s sep).map B) := by
  unfold strings_Split.f;rw [zp ⟨by rw [B_size]; exact hs, by rw [B_size]; exact h1⟩]
  congr 1
  have h := Lib.splitB_data (B sep) 0 (Lib.countB (B s) (B sep)) (B s);rw [B_list, B_list] at h;have hc : Lib.countB (B s) (B sep) = Lib.count s sep := by
    show Lib.count _ _ = _
    rw [B_list, B_list]
  unfold Lib.split;rw [← hc, ← h, List.map_map]
  conv => lhs; rw [← List.map_id (Lib.splitB (B sep) 0 (Lib.countB (B s) (B sep)) (B s))]
  apply List.map_congr_left;intro x _;exact (B_of x).symm
theorem N8_B (l : List UInt8) : bytesOf (B l) = l.map (fun b => (b.toNat : Int)) := by rw [bytesOf, B_list]
theorem N8_back (l : List UInt8) : Lib.bytesOf (l.map (fun b => (b.toNat : Int))) = l := by
  unfold Lib.bytesOf;rw [List.map_map]
  conv => rhs; rw [← List.map_id l]
  apply List.map_congr_left;intro b _;simp
theorem strOf_N8 (l : List UInt8) : strOfNums (l.map (fun b => (b.toNat : Int))) = B l := by
  unfold strOfNums B
  congr 2
  exact N8_back l
theorem N8_all (l : List UInt8) : ((l.map (fun b => (b.toNat : Int))).all fun x => decide (0 ≤ x ∧ x < 256)) = true := by
  rw [List.all_eq_true];intro x hx;obtain ⟨b, _, rfl⟩ := List.mem_map.1 hx;have := b.toNat_lt;exact zt ⟨zO, zO⟩
theorem Index_is (l sub : List UInt8) (hl : l.length < 4294967281) (h2 : 2 ≤ sub.length) (h3 : sub.length ≤ 100) : bytes_Index.f (l.map (fun b => (b.toNat : Int))) (sub.map (fun b => (b.toNat : Int))) = some (Lib.index l sub) := by
  unfold bytes_Index.f;rw [zp ⟨N8_all l, N8_all sub, by rw [List.length_map]; exact hl, by rw [List.length_map]; exact h2, by rw [List.length_map]; omega⟩, N8_back, N8_back]
theorem Lower_is (l : List UInt8) (hl : l.length ≤ 4294967296) : head_lower.f (B l) = some (B (l.map lowB)) := by
  unfold head_lower.f;rw [zp (by rw [B_size]; omega), B_list];rfl
theorem Trim_is (l cs : List UInt8) (hl : l.length ≤ 4294967296) (hc : cs.length ≤ 100) (ha : cs.all (fun b => decide (b.toNat < 128)) = true) : strings_Trim.f (B l) (B cs) = some (B (Lib.trimS l cs)) := by
  unfold strings_Trim.f;rw [zp ⟨by rw [B_size]; omega, by rw [B_size]; omega, by rw [B_list]; exact ha⟩, B_list, B_list];rfl
def alB (b : UInt8) : Bool := decide (97 ≤ b.toNat ∧ b.toNat ≤ 122 ∨ 65 ≤ b.toNat ∧ b.toNat ≤ 90 ∨ 48 ≤ b.toNat ∧ b.toNat ≤ 57)
def tokB (b : UInt8) : Bool := alB b || decide (0 ≤ Lib.indexByte [33, 35, 36, 37, 38, 39, 42, 43, 45, 46, 94, 95, 96, 124, 126] b)
def tokOk (l : List UInt8) : Bool := l.all tokB && (l != [])
theorem alnum_is (b : UInt8) : head_alnum.f (b.toNat : Int) = some (alB b) := by
  unfold head_alnum.f alB
  repeat' split
  all_goals simp only [Option.some.injEq]
  all_goals first
    | (symm; rw [decide_eq_true_eq]; omega)
    | (rw [decide_eq_decide]; omega)
    | (symm; rw [decide_eq_false_iff_not]; omega)
theorem token_loop (l : List UInt8) (hl : l.length ≤ 4294967296) : ∀ (d i : Nat), i + d = l.length → Ev (fun k => head_token.l0 k (B l) (l.length : Int) (i : Int)) ((l.drop i).all tokB && (l != [])) := by
  intro d
  induction d with
  | zero =>
    intro i hi;refine Ev.step (fun k => by simp only [head_token.l0]; rfl) (Ev.neg zO (Ev.ret ?_));rw [B_toList, List.drop_eq_nil_of_le zO];simp
  | succ d ih =>
    intro i hi;have hlt : i < l.length := by omega
    have hw := wrap_succ i zO;have hd : l.drop i = l[i] :: l.drop (i + 1) := List.drop_eq_getElem_cons hlt;have hx : (B l).extract (i : Int).toNat ((i + 1 : Nat) : Int).toNat = B [l[i]] := by
      rw [Int.toNat_natCast, Int.toNat_natCast, B_extract, hd, Nat.add_sub_cancel_left];rfl
    have hi' := ih (i + 1) zO;refine Ev.step (fun k => by simp only [head_token.l0]; rfl) ?_;refine Ev.pos zO (Ev.pos zO (Ev.pos (by rw [B_size]; omega) ?_));rw [B_bt l i hlt, hw];refine Ev.call (alnum_is _) ?_;rw [hd, List.all_cons];cases hA : alB l[i] with
    | true =>
      refine Ev.pos rfl ?_;have ht : tokB l[i] = true := by simp [tokB, hA]
      rw [ht, Bool.true_and];exact hi'
    | false =>
      refine Ev.neg (by simp) (Ev.pos zO (Ev.pos (by rw [B_size]; omega) ?_));rw [hx];have hc : strings_Contains.f (⟨#[33, 35, 36, 37, 38, 39, 42, 43, 45, 46, 94, 95, 96, 124, 126]⟩ : ByteArray) (B [l[i]]) = some (tokB l[i]) := by
        unfold strings_Contains.f;rw [zp (by rw [B_size]; rfl), B_list];simp [tokB, hA]
      refine Ev.call hc ?_;cases ht : tokB l[i] with
      | true => exact Ev.pos rfl (by rw [Bool.true_and]; exact hi')
      | false => exact Ev.neg (by simp) (Ev.ret (by simp))
theorem token_is (l : List UInt8) (hl : l.length ≤ 4294967296) : Ev (fun k => head_token.f k (B l)) (tokOk l) := by
  unfold head_token.f;rw [B_size];exact token_loop l hl l.length 0 zO
def blankB (b : UInt8) : Bool := decide (b.toNat = 9 ∨ b.toNat = 32)
def valB (b : UInt8) : Bool := decide ((b.toNat = 9 ∨ 32 ≤ b.toNat) ∧ b.toNat ≠ 127)
def endsOk (l : List UInt8) : Bool := match l with
  | [] => true
  | x :: r => !blankB x && !blankB ((x :: r).getLastD 0)
def valOk (l : List UInt8) : Bool := l.all valB && endsOk l
theorem blank_is (b : UInt8) : head_blank.f (b.toNat : Int) = some (blankB b) := by
  unfold head_blank.f blankB
  split
  · rename_i h
    simp only [Option.some.injEq]
    symm
    rw [decide_eq_true_eq];omega
  rename_i h
  simp only [Option.some.injEq];rw [show ((b.toNat : Int) == 32) = decide ((b.toNat : Int) = 32) from rfl, decide_eq_decide];omega
theorem value_loop (l : List UInt8) (hl : l.length ≤ 4294967296) : ∀ (d i : Nat), i + d = l.length → Ev (fun k => head_value.l0 k (B l) (l.length : Int) (i : Int)) ((l.drop i).all valB && endsOk l) := by
  intro d
  induction d with
  | zero =>
    intro i hi;refine Ev.step (fun k => by simp only [head_value.l0]; rfl) (Ev.neg zO ?_);rw [B_toList, List.drop_eq_nil_of_le zO, List.all_nil, Bool.true_and];cases hc : l with
    | nil => exact Ev.pos rfl (Ev.ret rfl)
    | cons x r =>
      have hE : endsOk (x :: r) = (!blankB x && !blankB (l.getLastD 0)) := by rw [hc]; rfl
      rw [hE, ← hc];clear hE;have h0 : 0 < l.length := by rw [hc]; simp
      have hb0 : bt (B l) 0 = (x.toNat : Int) := by
        have := B_bt l 0 h0;simpa [hc] using this
      have hw : wrap64 (((B l).size : Int) - 1) = ((l.length - 1 : Nat) : Int) := by rw [B_size]; unfold wrap64; omega
      have hbl : bt (B l) ((l.length - 1 : Nat) : Int) = ((l.getLastD 0).toNat : Int) := by
        rw [B_bt l (l.length - 1) zO]
        congr 2
        rw [List.getLastD_eq_getLast?, List.getLast?_eq_getElem?, zr zO];rfl
      refine Ev.neg (by rw [hc]; simp) (Ev.pos (by rw [B_size]; omega) ?_);rw [hb0];refine Ev.call (blank_is x) ?_;cases hx : blankB x with
      | true => exact Ev.pos rfl (Ev.ret rfl)
      | false =>
        refine Ev.neg (by simp) ?_;rw [hw, hbl];exact Ev.pos zO (Ev.pos (by rw [B_size]; omega) (Ev.call (blank_is _) (Ev.ret (by simp))))
  | succ d ih =>
    intro i hi;have hlt : i < l.length := by omega
    have hw := wrap_succ i zO;have hd : l.drop i = l[i] :: l.drop (i + 1) := List.drop_eq_getElem_cons hlt;have hi' := ih (i + 1) zO;refine Ev.step (fun k => by simp only [head_value.l0]; rfl) ?_;refine Ev.pos zO (Ev.pos zO (Ev.pos (by rw [B_size]; omega) ?_));rw [B_bt l i hlt, hw, hd, List.all_cons];cases hv : valB l[i] with
    | true =>
      have hv' : (l[i].toNat = 9 ∨ 32 ≤ l[i].toNat) ∧ l[i].toNat ≠ 127 := zd hv;rw [Bool.true_and];by_cases h9 : (l[i].toNat : Int) = 9
      · exact Ev.pos h9 (Ev.neg zO hi')
      exact Ev.neg h9 (Ev.neg zO (Ev.neg zO hi'))
    | false =>
      have hv' : ¬ ((l[i].toNat = 9 ∨ 32 ≤ l[i].toNat) ∧ l[i].toNat ≠ 127) := of_decide_eq_false hv;rw [Bool.false_and, Bool.false_and];by_cases h9 : (l[i].toNat : Int) = 9
      · exact absurd hv' zO
      refine Ev.neg h9 ?_;by_cases h32 : (l[i].toNat : Int) < 32
      · exact Ev.pos h32 (Ev.ret rfl)
      exact Ev.neg h32 (Ev.pos zO (Ev.ret rfl))
theorem value_is (l : List UInt8) (hl : l.length ≤ 4294967296) : Ev (fun k => head_value.f k (B l)) (valOk l) := by
  unfold head_value.f;rw [B_size];exact value_loop l hl l.length 0 zO
end Go.Proofs.YtpigfccpogmeaaaGreatDoor.HP
end
section
namespace Go.Proofs.YtpigfccpogmeaaaGreatDoor.S
open Go.RowKit Go.Proofs.YtpigfccpogmeaaaGreatDoorW.PrintWords Go.Proofs.YtpigfccpogmeaaaGreatDoorW.PrintLast Go.Proofs.YtpigfccpogmeaaaGreatDoorW.PrintMore
attribute [local go_sem] max2_int min2_int max_two min_two max_three min_three max_four min_four
attribute [local go_sem] fbin_eql fbin_neq fbin_lss fbin_leq fbin_gtr fbin_geq frun_add frun_sub frun_mul frun_quo frun_store fun_neg fcv_int fcv_same fb88 fb89
set_option linter.unusedVariables false
set_option linter.unusedSimpArgs false
def head_hex.f (a0 : Int) : Option (Bool) := if a0 ≥ 48 then (if a0 ≤ 57 then (some true) else (if a0 ≥ 97 then (if a0 ≤ 102 then (some true) else (if a0 ≥ 65 then (some (decide (a0 ≤ 70))) else (some false))) else (if a0 ≥ 65 then (some (decide (a0 ≤ 70))) else (some false)))) else (if a0 ≥ 97 then (if a0 ≤ 102 then (some true) else (if a0 ≥ 65 then (some (decide (a0 ≤ 70))) else (some false))) else (if a0 ≥ 65 then (some (decide (a0 ≤ 70))) else (some false)))
set_option maxHeartbeats 8000000 in
set_option maxRecDepth 100000 in
theorem head_hex.calls (a0 : Int) (r : Bool) (w : World) (h : head_hex.f a0 = some r) :
    Calls Tryz.prog 53 #[.int .u8 a0] w fun e w' => e = .returned (.bool r) ∧ Drawn0 w w' := by
  have H : (if a0 ≥ 48 then (if a0 ≤ 57 then (some true) else (if a0 ≥ 97 then (if a0 ≤ 102 then (some true) else (if a0 ≥ 65 then (some (decide (a0 ≤ 70))) else (some false))) else (if a0 ≥ 65 then (some (decide (a0 ≤ 70))) else (some false)))) else (if a0 ≥ 97 then (if a0 ≤ 102 then (some true) else (if a0 ≥ 65 then (some (decide (a0 ≤ 70))) else (some false))) else (if a0 ≥ 65 then (some (decide (a0 ≤ 70))) else (some false)))) = some r := h;clear h;by_cases c2 : a0 ≥ 48;rotate_left
  · rw [zn c2] at H;have c2b0 : decide (48 ≤ a0) = false := zf c2;clear c2;by_cases c8 : a0 ≥ 97;rotate_left
    · rw [zn c8] at H;have c8b0 : decide (97 ≤ a0) = false := zf c8;clear c8;by_cases c11 : a0 ≥ 65
      · rw [zp c11] at H;have c11b0 : decide (65 ≤ a0) = true := zt c11;clear c11;obtain rfl := zo H;go_enter Tryz.func53, Tryz.ntmps53;go_wp2;go_ret;exact ⟨zI, zD⟩
      rw [zn c11] at H;have c11b0 : decide (65 ≤ a0) = false := zf c11;clear c11;obtain rfl := zo H;go_enter Tryz.func53, Tryz.ntmps53;go_wp2;go_ret;exact ⟨zI, zD⟩
    rw [zp c8] at H;have c8b0 : decide (97 ≤ a0) = true := zt c8;clear c8;by_cases c9 : a0 ≤ 102
    · rw [zp c9] at H;have c9b0 := zt c9;clear c9;obtain rfl := zo H;go_enter Tryz.func53, Tryz.ntmps53;go_wp2;go_ret;exact ⟨zI, zD⟩
    rw [zn c9] at H;have c9b0 := zf c9;clear c9;by_cases c10 : a0 ≥ 65
    · rw [zp c10] at H;have c10b0 : decide (65 ≤ a0) = true := zt c10;clear c10;obtain rfl := zo H;go_enter Tryz.func53, Tryz.ntmps53;go_wp2;go_ret;exact ⟨zI, zD⟩
    rw [zn c10] at H;have c10b0 : decide (65 ≤ a0) = false := zf c10;clear c10;obtain rfl := zo H;go_enter Tryz.func53, Tryz.ntmps53;go_wp2;go_ret;exact ⟨zI, zD⟩
  rw [zp c2] at H;have c2b0 : decide (48 ≤ a0) = true := zt c2;clear c2;by_cases c3 : a0 ≤ 57
  · rw [zp c3] at H;have c3b0 := zt c3;clear c3;obtain rfl := zo H;go_enter Tryz.func53, Tryz.ntmps53;go_wp2;go_ret;exact ⟨zI, zD⟩
  rw [zn c3] at H;have c3b0 := zf c3;clear c3;by_cases c4 : a0 ≥ 97;rotate_left
  · rw [zn c4] at H;have c4b0 : decide (97 ≤ a0) = false := zf c4;clear c4;by_cases c7 : a0 ≥ 65
    · rw [zp c7] at H;have c7b0 : decide (65 ≤ a0) = true := zt c7;clear c7;obtain rfl := zo H;go_enter Tryz.func53, Tryz.ntmps53;go_wp2;go_ret;exact ⟨zI, zD⟩
    rw [zn c7] at H;have c7b0 : decide (65 ≤ a0) = false := zf c7;clear c7;obtain rfl := zo H;go_enter Tryz.func53, Tryz.ntmps53;go_wp2;go_ret;exact ⟨zI, zD⟩
  rw [zp c4] at H;have c4b0 : decide (97 ≤ a0) = true := zt c4;clear c4;by_cases c5 : a0 ≤ 102
  · rw [zp c5] at H;have c5b0 := zt c5;clear c5;obtain rfl := zo H;go_enter Tryz.func53, Tryz.ntmps53;go_wp2;go_ret;exact ⟨zI, zD⟩
  rw [zn c5] at H;have c5b0 := zf c5;clear c5;by_cases c6 : a0 ≥ 65
  · rw [zp c6] at H;have c6b0 : decide (65 ≤ a0) = true := zt c6;clear c6;obtain rfl := zo H;go_enter Tryz.func53, Tryz.ntmps53;go_wp2;go_ret;exact ⟨zI, zD⟩
  rw [zn c6] at H;have c6b0 : decide (65 ≤ a0) = false := zf c6;clear c6;obtain rfl := zo H;go_enter Tryz.func53, Tryz.ntmps53;go_wp2;go_ret;exact ⟨zI, zD⟩

mutual
def head_such.l0 : Nat → ByteArray → Bool → Int → Option (Bool)
 | 0, _, _, _ => none
 | k + 1, x0, x1, x5 => if x5 < (x0.size : Int) then (if 0 ≤ x5 then (if (bt x0 x5) = 37 then (if (wrap64 ((x0.size : Int) - x5)) < 3 then (head_such.j1 k x0 x1 x5 true) else (if 0 ≤ (wrap64 (x5 + 1)) then (if (wrap64 (x5 + 1)) < (x0.size : Int) then ((head_hex.f (bt x0 (wrap64 (x5 + 1)))).bind fun t281 => (if t281 = true then (if 0 ≤ (wrap64 (x5 + 2)) then (if (wrap64 (x5 + 2)) < (x0.size : Int) then ((head_hex.f (bt x0 (wrap64 (x5 + 2)))).bind fun t282 => (head_such.j1 k x0 x1 x5 (!t282))) else (none)) else (none)) else (head_such.j1 k x0 x1 x5 true))) else (none)) else (none))) else (if (bt x0 x5) = 63 then (if x1 = true then (head_such.l0 k x0 x1 (wrap64 (x5 + 1))) else (head_such.j2 k x0 x1 x5 (bt x0 x5))) else (head_such.j2 k x0 x1 x5 (bt x0 x5)))) else (none)) else (some true)
def head_such.j2 : Nat → ByteArray → Bool → Int → Int → Option (Bool)
 | 0, _, _, _, _ => none
 | k + 1, x0, x1, x5, x6 => (head_alnum.f x6).bind fun t283 => (if t283 = true then (head_such.l0 k x0 x1 (wrap64 (x5 + 1))) else (if 0 ≤ x5 then (if x5 ≤ (wrap64 (x5 + 1)) then (if (wrap64 (x5 + 1)) ≤ (x0.size : Int) then ((strings_Contains.f (⟨#[47, 45, 46, 95, 126, 33, 36, 38, 39, 40, 41, 42, 43, 44, 59, 61, 58, 64]⟩ : ByteArray) (x0.extract (x5 : Int).toNat ((wrap64 (x5 + 1)) : Int).toNat)).bind fun t284 => (if t284 = true then (head_such.l0 k x0 x1 (wrap64 (x5 + 1))) else (some false))) else (none)) else (none)) else (none)))
def head_such.j1 : Nat → ByteArray → Bool → Int → Bool → Option (Bool)
 | 0, _, _, _, _ => none
 | k + 1, x0, x1, x5, x42 => if x42 = true then (some false) else (head_such.l0 k x0 x1 (wrap64 (x5 + 1)))
end
def head_such.f (k : Nat) (a0 : ByteArray) (a1 : Bool) : Option (Bool) := head_such.l0 k a0 a1 0
theorem head_such.mono_l : ∀ k, (∀ y0 y1 y2, LeO (head_such.l0 k y0 y1 y2) (head_such.l0 (k + 1) y0 y1 y2)) ∧ (∀ y0 y1 y2 y3, LeO (head_such.j2 k y0 y1 y2 y3) (head_such.j2 (k + 1) y0 y1 y2 y3)) ∧ (∀ y0 y1 y2 y3, LeO (head_such.j1 k y0 y1 y2 y3) (head_such.j1 (k + 1) y0 y1 y2 y3))
 | 0 => ⟨fun _ _ _ r h => by simp [head_such.l0] at h, fun _ _ _ _ r h => by simp [head_such.j2] at h, fun _ _ _ _ r h => by simp [head_such.j1] at h⟩
 | k + 1 => by
  obtain ⟨ih0, ih1, ih2⟩ := head_such.mono_l k;refine ⟨?_, ?_, ?_⟩
  ·intro y0 y1 y2;unfold head_such.l0
   repeat' with_reducible first | exact ih0 _ _ _ | exact ih1 _ _ _ _ | exact ih2 _ _ _ _ | exact LeO.refl _ | exact LeO.none _ | refine LeO.ite ?_ ?_ | refine LeO.bind ?_ (fun _ => ?_)
  ·intro y0 y1 y2 y3;unfold head_such.j2
   repeat' with_reducible first | exact ih0 _ _ _ | exact ih1 _ _ _ _ | exact ih2 _ _ _ _ | exact LeO.refl _ | exact LeO.none _ | refine LeO.ite ?_ ?_ | refine LeO.bind ?_ (fun _ => ?_)
  intro y0 y1 y2 y3;unfold head_such.j1
  repeat' with_reducible first | exact ih0 _ _ _ | exact ih1 _ _ _ _ | exact ih2 _ _ _ _ | exact LeO.refl _ | exact LeO.none _ | refine LeO.ite ?_ ?_ | refine LeO.bind ?_ (fun _ => ?_)
theorem head_such.mono : ∀ a0 a1 k, LeO (head_such.f k a0 a1) (head_such.f (k + 1) a0 a1) := by
 intro a0 a1 k;obtain ⟨ih0, ih1, ih2⟩ := head_such.mono_l k;unfold head_such.f
 repeat' with_reducible first | exact ih0 _ _ _ | exact ih1 _ _ _ _ | exact ih2 _ _ _ _ | exact LeO.refl _ | exact LeO.none _ | refine LeO.ite ?_ ?_ | refine LeO.bind ?_ (fun _ => ?_)
set_option maxHeartbeats 8000000 in
set_option maxRecDepth 100000 in
theorem head_such.calls (k : Nat) (a0 : ByteArray) (a1 : Bool) (r : Bool) (w : World) (h : head_such.f k a0 a1 = some r) :
  Calls Tryz.prog 24 #[.string a0, .bool a1] w fun e w' => e = .returned (.bool r) ∧ Drawn0 w w' := by
 have H : (head_such.l0 k a0 a1 0) = some r := h;clear h;have H' := zN H;clear H;go_enter Tryz.func24, Tryz.ntmps24;go_wp2;go_loopg [5] k (fun kq v5 w' => ∃ (x5_1 : Int), v5 = .int .i64 x5_1 ∧ Aside0 (head_such.l0 kq a0 a1 x5_1 = some r) ∧ Aside0 (kq ≤ k) ∧ Drawn0 w w')
 case atStart => exact ⟨(0), zI, H', ⟨zh _⟩, zD⟩
 case round =>
  clear H';obtain ⟨x5_1, rfl, HA, HK1, ⟨m1, rfl⟩⟩ := hrel;cases gk with
  | zero => exact absurd HA.out (by simp [head_such.l0])
  | succ k1 =>
   have H := HA.out;clear HA;simp only [head_such.l0] at H;by_cases c3 : x5_1 < (a0.size : Int);rotate_left
   ·rw [zn c3] at H;have c3b0 := zf c3;clear c3;obtain rfl := zo H;go_wp2;go_ret;exact ⟨zI, zD⟩
   rw [zp c3] at H;have c3b0 := zt c3;clear c3;by_cases c4 : 0 ≤ x5_1;rotate_left
   ·rw [zn c4] at H;exact absurd H (by simp)
   rw [zp c4] at H;have c4b0 := zt c4;clear c4;have HC6 := zN H;clear H;have p5 : 0 ≤ (x5_1 : Int) := zd zS;have q5 : x5_1 < (a0.size : Int) := zd zS;have hx5 := bt_at a0 x5_1;replace p5 := zu p5;replace q5 := zu q5;go_upto_block 5 with (fail)
   go_cut [] (fun wc => ∃ (kq : Nat), Aside0 (head_such.j2 kq a0 a1 x5_1 (bt a0 x5_1) = some r) ∧ Aside0 (kq ≤ k1) ∧ Drawn0 w wc)
   case first =>
    have H := HC6.out;clear HC6;by_cases c7 : (bt a0 x5_1) = 37;rotate_left
    ·rw [zn c7] at H;have c7b0 := zb.mpr c7;have c7b1 := bne_iff_ne.mpr c7;(first | rw [c7b0] | (simp only [i64_w, i32_w]; rw [c7b0]) | skip);by_cases c22 : (bt a0 x5_1) = 63;rotate_left
     ·rw [zn c22] at H;have c22b0 := zb.mpr c22;have c22b1 := bne_iff_ne.mpr c22;have H' := zN H;clear H;go_wp2;go_meet
      case rel => exact ⟨_, H', ⟨by have := HK1.out; first | omega | exact zh _⟩, zD⟩
     rw [zp c22] at H;have c22b0 := beq_iff_eq.mpr c22;have c22b1 := zc.mpr c22;clear c22;by_cases c23 : a1 = true
     ·subst c23;have H1 := H; rw [zp rfl] at H1;clear H;have H := H1;clear H1;have H' := zN H;clear H;go_wp2;go_roundg k1
      case measure => have := HK1.out; omega
      case rel => exact ⟨(wrap64 (x5_1 + 1)), zI, H', ⟨by have := HK1.out; omega⟩, zD⟩
     replace c23 := zq.mpr c23;subst c23;have H1 := H; rw [zn (show ¬ (false = true) by decide)] at H1;clear H;have H := H1;clear H1;have H' := zN H;clear H;go_wp2;go_meet
     case rel => exact ⟨_, H', ⟨by have := HK1.out; first | omega | exact zh _⟩, zD⟩
    rw [zp c7] at H;have c7b0 := beq_iff_eq.mpr c7;have c7b1 := zc.mpr c7;clear c7;(first | rw [c7b0] | (simp only [i64_w, i32_w]; rw [c7b0]) | skip);have HC8 := zN H;clear H;go_upto_region 7 with (fail)
    go_cut [42] (fun v42 wc => ∃ (kq : Nat) (x42_7 : Bool), v42 = .bool x42_7 ∧ Aside0 (head_such.j1 kq a0 a1 x5_1 x42_7 = some r) ∧ Aside0 (kq ≤ k1) ∧ Drawn0 w wc)
    case first =>
     have H := HC8.out;clear HC8;by_cases c9 : (wrap64 ((a0.size : Int) - x5_1)) < 3
     ·rw [zp c9] at H;have c9b0 := zt c9;clear c9;(first | rw [c9b0] | (simp only [i64_w, i32_w]; rw [c9b0]) | skip);have H' := zN H;clear H;go_wp2;go_meet
      case rel => exact ⟨_, (true), zI, H', ⟨by have := HK1.out; first | omega | exact zh _⟩, zD⟩
     rw [zn c9] at H;have c9b0 := zf c9;clear c9;(first | rw [c9b0] | (simp only [i64_w, i32_w]; rw [c9b0]) | skip);obtain ⟨ji10, hji10⟩ : ∃ j_ : Int, (wrap64 (x5_1 + 1)) = j_ := ⟨_, rfl⟩;replace H : (if 0 ≤ (ji10) then (if (ji10) < (a0.size : Int) then ((head_hex.f (bt a0 (ji10))).bind fun t281 => (if t281 = true then (if 0 ≤ (wrap64 (x5_1 + 2)) then (if (wrap64 (x5_1 + 2)) < (a0.size : Int) then ((head_hex.f (bt a0 (wrap64 (x5_1 + 2)))).bind fun t282 => (head_such.j1 k1 a0 a1 x5_1 (!t282))) else (none)) else (none)) else (head_such.j1 k1 a0 a1 x5_1 true))) else (none)) else (none)) = some r := by first | (rw [hji10] at H; exact H) | (simp only [hji10] at H ⊢; exact H)
     have hji10w : (IntKind.i64.wrap (x5_1 + 1)) = ji10 := (i64_w _).trans hji10;by_cases c11 : 0 ≤ (ji10);rotate_left
     ·rw [zn c11] at H;exact absurd H (by simp)
     rw [zp c11] at H;have c11b0 := zt c11;clear c11;by_cases c12 : (ji10) < (a0.size : Int);rotate_left
     ·rw [zn c12] at H;exact absurd H (by simp)
     rw [zp c12] at H;have c12b0 := zt c12;clear c12;obtain ⟨t281, A14, H⟩ := zA H;(try dsimp only at H);by_cases c15 : t281 = true;rotate_left
     ·replace c15 := zq.mpr c15;subst c15;have H1 := H; rw [zn (show ¬ (false = true) by decide)] at H1;clear H;have H := H1;clear H1;have H' := zN H;clear H;have p13 : 0 ≤ ((ji10) : Int) := zd zS;have q13 : (ji10) < (a0.size : Int) := zd zS;have hx13 := bt_at a0 (ji10);replace p13 := zu p13;replace q13 := zu q13;go_wp2_with (first | (go_at_call 53; (with_reducible refine (head_hex.calls (bt a0 (ji10)) false _ A14.out).mono ?_); rintro e w' ⟨rfl, ⟨nd, rfl⟩⟩));go_meet
      case rel => exact ⟨_, (true), zI, H', ⟨by have := HK1.out; first | omega | exact zh _⟩, zD⟩
     subst c15;have H1 := H; rw [zp rfl] at H1;clear H;have H := H1;clear H1;obtain ⟨ji16, hji16⟩ : ∃ j_ : Int, (wrap64 (x5_1 + 2)) = j_ := ⟨_, rfl⟩;replace H : (if 0 ≤ (ji16) then (if (ji16) < (a0.size : Int) then ((head_hex.f (bt a0 (ji16))).bind fun t282 => (head_such.j1 k1 a0 a1 x5_1 (!t282))) else (none)) else (none)) = some r := by first | (rw [hji16] at H; exact H) | (simp only [hji16] at H ⊢; exact H)
     (try rw [hji16] at A14);have hji16w : (IntKind.i64.wrap (x5_1 + 2)) = ji16 := (i64_w _).trans hji16;by_cases c17 : 0 ≤ (ji16);rotate_left
     ·rw [zn c17] at H;exact absurd H (by simp)
     rw [zp c17] at H;have c17b0 := zt c17;clear c17;by_cases c18 : (ji16) < (a0.size : Int);rotate_left
     ·rw [zn c18] at H;exact absurd H (by simp)
     rw [zp c18] at H;have c18b0 := zt c18;clear c18;obtain ⟨t282, A20, H⟩ := zA H;(try dsimp only at H);have H' := zN H;clear H;have p13 : 0 ≤ ((ji10) : Int) := zd zS;have q13 : (ji10) < (a0.size : Int) := zd zS;have hx13 := bt_at a0 (ji10);replace p13 := zu p13;replace q13 := zu q13;go_wp2_with (first | (go_at_call 53; (with_reducible refine (head_hex.calls (bt a0 (ji10)) true _ A14.out).mono ?_); rintro e w' ⟨rfl, ⟨nd, rfl⟩⟩; have p19 : 0 ≤ ((ji16) : Int) := zd zS; have q19 : (ji16) < (a0.size : Int) := zd zS; have hx19 := bt_at a0 (ji16); replace p19 := zu p19; replace q19 := zu q19) | (go_at_call 53; (with_reducible refine (head_hex.calls (bt a0 (ji16)) t282 _ A20.out).mono ?_); rintro e w' ⟨rfl, ⟨nd, rfl⟩⟩));go_meet
     case rel => exact ⟨_, (!t282), zI, H', ⟨by have := HK1.out; first | omega | exact zh _⟩, zD⟩
    case rest =>
     clear HC8
     try clear c3
     try clear c3b0
     try clear c4
     try clear c4b0
     try clear p5
     try clear q5
     try clear hx5
     try clear c7
     try clear c7b0
     try clear c7b1
     try clear p5
     try clear q5
     obtain ⟨kq, x42_7, rfl, HA, HJ7, ⟨mc7, rfl⟩⟩ := hcut;cases kq with
     | zero => exact absurd HA.out (by simp [head_such.j1])
     | succ kj7 =>
      have H := HA.out;clear HA;simp only [head_such.j1] at H;by_cases c21 : x42_7 = true
      ·subst c21;have H1 := H; rw [zp rfl] at H1;clear H;have H := H1;clear H1;obtain rfl := zo H;go_wp2;go_ret;exact ⟨zI, zD⟩
      replace c21 := zq.mpr c21;subst c21;have H1 := H; rw [zn (show ¬ (false = true) by decide)] at H1;clear H;have H := H1;clear H1;have H' := zN H;clear H;go_wp2;go_roundg kj7
      case measure => have := HK1.out; have := HJ7.out; omega
      case rel => exact ⟨(wrap64 (x5_1 + 1)), zI, H', ⟨by have := HK1.out; have := HJ7.out; omega⟩, zD⟩
   case rest =>
    clear HC6
    try clear c3
    try clear c3b0
    try clear c4
    try clear c4b0
    try clear p5
    try clear q5
    try clear hx5
    try clear p5
    try clear q5
    obtain ⟨kq, HA, HJ5, ⟨mc5, rfl⟩⟩ := hcut;cases kq with
    | zero => exact absurd HA.out (by simp [head_such.j2])
    | succ kj5 =>
     have H := HA.out;clear HA;simp only [head_such.j2] at H;obtain ⟨t283, A24, H⟩ := zA H;(try dsimp only at H);by_cases c25 : t283 = true
     ·subst c25;have H1 := H; rw [zp rfl] at H1;clear H;have H := H1;clear H1;have H' := zN H;clear H;go_wp2_with (first | ((with_reducible refine gate_callee (f := 50) rfl ?_); refine zg (some 45) Tryz.func50 #[.int .u8 (bt a0 x5_1)] ?_; (with_reducible refine (head_alnum.calls (bt a0 x5_1) true _ A24.out).mono ?_); rintro e w' ⟨rfl, ⟨nd, rfl⟩⟩; refine ⟨_, rfl, ?_⟩));go_roundg kj5
      case measure => have := HK1.out; have := HJ5.out; omega
      case rel => exact ⟨(wrap64 (x5_1 + 1)), zI, H', ⟨by have := HK1.out; have := HJ5.out; omega⟩, zD⟩
     replace c25 := zq.mpr c25;subst c25;have H1 := H; rw [zn (show ¬ (false = true) by decide)] at H1;clear H;have H := H1;clear H1;by_cases c26 : 0 ≤ x5_1;rotate_left
     ·rw [zn c26] at H;exact absurd H (by simp)
     rw [zp c26] at H;have c26b0 := zu c26;have c26b1 := zt c26;clear c26;by_cases c27 : x5_1 ≤ (wrap64 (x5_1 + 1));rotate_left
     ·rw [zn c27] at H;exact absurd H (by simp)
     rw [zp c27] at H;have c27b0 := zu c27;have c27b1 := zt c27;by_cases c28 : (wrap64 (x5_1 + 1)) ≤ (a0.size : Int);rotate_left
     ·rw [zn c28] at H;exact absurd H (by simp)
     rw [zp c28] at H;have c28b0 := zu c28;have c28b1 := zt c28;obtain ⟨t284, A29, H⟩ := zA H;(try dsimp only at H);by_cases c30 : t284 = true
     ·subst c30;have H1 := H; rw [zp rfl] at H1;clear H;have H := H1;clear H1;have H' := zN H;clear H;go_wp2_with (first | ((with_reducible refine gate_callee (f := 50) rfl ?_); refine zg (some 45) Tryz.func50 #[.int .u8 (bt a0 x5_1)] ?_; (with_reducible refine (head_alnum.calls (bt a0 x5_1) false _ A24.out).mono ?_); rintro e w' ⟨rfl, ⟨nd, rfl⟩⟩; refine ⟨_, rfl, ?_⟩) | (go_at_call 51; (with_reducible refine (strings_Contains.calls (⟨#[47, 45, 46, 95, 126, 33, 36, 38, 39, 40, 41, 42, 43, 44, 59, 61, 58, 64]⟩ : ByteArray) (a0.extract (x5_1 : Int).toNat ((wrap64 (x5_1 + 1)) : Int).toNat) true _ A29.out).mono ?_); rintro e w' ⟨rfl, ⟨nd, rfl⟩⟩));go_roundg kj5
      case measure => have := HK1.out; have := HJ5.out; omega
      case rel => exact ⟨(wrap64 (x5_1 + 1)), zI, H', ⟨by have := HK1.out; have := HJ5.out; omega⟩, zD⟩
     replace c30 := zq.mpr c30;subst c30;have H1 := H; rw [zn (show ¬ (false = true) by decide)] at H1;clear H;have H := H1;clear H1;obtain rfl := zo H;go_wp2_with (first | ((with_reducible refine gate_callee (f := 50) rfl ?_); refine zg (some 45) Tryz.func50 #[.int .u8 (bt a0 x5_1)] ?_; (with_reducible refine (head_alnum.calls (bt a0 x5_1) false _ A24.out).mono ?_); rintro e w' ⟨rfl, ⟨nd, rfl⟩⟩; refine ⟨_, rfl, ?_⟩) | (go_at_call 51; (with_reducible refine (strings_Contains.calls (⟨#[47, 45, 46, 95, 126, 33, 36, 38, 39, 40, 41, 42, 43, 44, 59, 61, 58, 64]⟩ : ByteArray) (a0.extract (x5_1 : Int).toNat ((wrap64 (x5_1 + 1)) : Int).toNat) false _ A29.out).mono ?_); rintro e w' ⟨rfl, ⟨nd, rfl⟩⟩));go_ret;exact ⟨zI, zD⟩

def strings_HasPrefix.f (a0 a1 : ByteArray) : Option Bool := some (Lib.hasPrefix a0.data.toList a1.data.toList)
theorem strings_HasPrefix.calls (a0 a1 : ByteArray) (r : Bool) (w : World) (h : strings_HasPrefix.f a0 a1 = some r) :
    Calls Tryz.prog 52 #[.string a0, .string a1] w fun e w' => e = .returned (.bool r) ∧ Drawn0 w w' := by
  obtain rfl := zo h;exact (Tryz.strings_HasPrefix a0 a1 w).mono fun e w' ⟨h1, h2⟩ => ⟨h1, 0, h2⟩


def head_path.f (k : Nat) (a0 : ByteArray) : Option (Bool) := (strings_HasPrefix.f a0 (⟨#[47]⟩ : ByteArray)).bind fun t285 => (if t285 = true then ((head_such.f k a0 false).bind fun t286 => (some t286)) else (some false))
theorem head_path.mono : ∀ a0 k, LeO (head_path.f k a0) (head_path.f (k + 1) a0) := by
  intro a0 k;unfold head_path.f
  repeat' with_reducible first | exact head_such.mono _ _ _ | exact LeO.refl _ | exact LeO.none _ | refine LeO.ite ?_ ?_ | refine LeO.bind ?_ (fun _ => ?_)
set_option maxHeartbeats 8000000 in
set_option maxRecDepth 100000 in
theorem head_path.calls (k : Nat) (a0 : ByteArray) (r : Bool) (w : World) (h : head_path.f k a0 = some r) :
    Calls Tryz.prog 23 #[.string a0] w fun e w' => e = .returned (.bool r) ∧ Drawn0 w w' := by
  have H : ((strings_HasPrefix.f a0 (⟨#[47]⟩ : ByteArray)).bind fun t285 => (if t285 = true then ((head_such.f k a0 false).bind fun t286 => (some t286)) else (some false))) = some r := h;clear h;obtain ⟨t285, A2, H⟩ := zA H;(try dsimp only at H);by_cases c3 : t285 = true
  · subst c3;have H1 := H; rw [zp rfl] at H1;clear H;have H := H1;clear H1;obtain ⟨t286, A4, H⟩ := zA H;(try dsimp only at H);obtain rfl := zo H;go_enter Tryz.func23, Tryz.ntmps23;go_wp2_with (first | ((with_reducible refine gate_callee (f := 52) rfl ?_); refine zg (some 4) Tryz.func52 #[.string a0, .string (⟨#[47]⟩ : ByteArray)] ?_; (with_reducible refine (strings_HasPrefix.calls a0 (⟨#[47]⟩ : ByteArray) true _ A2.out).mono ?_); rintro e w' ⟨rfl, ⟨nd, rfl⟩⟩; refine ⟨_, rfl, ?_⟩) | (go_at_call 24; (with_reducible refine (head_such.calls k a0 false t286 _ A4.out).mono ?_); rintro e w' ⟨rfl, ⟨nd, rfl⟩⟩));go_ret;exact ⟨zI, zD⟩
  replace c3 := zq.mpr c3;subst c3;have H1 := H; rw [zn (show ¬ (false = true) by decide)] at H1;clear H;have H := H1;clear H1;obtain rfl := zo H;go_enter Tryz.func23, Tryz.ntmps23;go_wp2_with (first | ((with_reducible refine gate_callee (f := 52) rfl ?_); refine zg (some 4) Tryz.func52 #[.string a0, .string (⟨#[47]⟩ : ByteArray)] ?_; (with_reducible refine (strings_HasPrefix.calls a0 (⟨#[47]⟩ : ByteArray) false _ A2.out).mono ?_); rintro e w' ⟨rfl, ⟨nd, rfl⟩⟩; refine ⟨_, rfl, ?_⟩));go_ret;exact ⟨zI, zD⟩

def strings_CutPrefix.f (a0 a1 : ByteArray) : Option (ByteArray × Bool) := some (⟨(Lib.trimPrefix a0.data.toList a1.data.toList).toArray⟩, Lib.hasPrefix a0.data.toList a1.data.toList)
theorem strings_CutPrefix.calls (a0 a1 r1 : ByteArray) (r2 : Bool) (w : World) (h : strings_CutPrefix.f a0 a1 = some (r1, r2)) :
    Calls Tryz.prog 60 #[.string a0, .string a1] w fun e w' => e = .returned (.tuple #[.string r1, .bool r2]) ∧ Drawn0 w w' := by
  unfold strings_CutPrefix.f at h;simp only [Option.some.injEq, Prod.mk.injEq] at h;obtain ⟨rfl, rfl⟩ := h;exact (Tryz.strings_CutPrefix a0 a1 w).mono fun e w' ⟨h1, h2⟩ => ⟨h1, 0, h2⟩


def stringslite_HasSuffix.f (a0 : ByteArray) (a1 : ByteArray) : Option (Bool) := if (a0.size : Int) ≥ (a1.size : Int) then (if 0 ≤ (wrap64 ((a0.size : Int) - (a1.size : Int))) then (if (wrap64 ((a0.size : Int) - (a1.size : Int))) ≤ (a0.size : Int) then (some ((a0.extract ((wrap64 ((a0.size : Int) - (a1.size : Int))) : Int).toNat a0.size).toList == a1.toList)) else (none)) else (none)) else (some false)
set_option maxHeartbeats 8000000 in
set_option maxRecDepth 100000 in
theorem stringslite_HasSuffix.calls (a0 : ByteArray) (a1 : ByteArray) (r : Bool) (w : World) (h : stringslite_HasSuffix.f a0 a1 = some r) :
    Calls Tryz.prog 87 #[.string a0, .string a1] w fun e w' => e = .returned (.bool r) ∧ Drawn0 w w' := by
  have H : (if (a0.size : Int) ≥ (a1.size : Int) then (if 0 ≤ (wrap64 ((a0.size : Int) - (a1.size : Int))) then (if (wrap64 ((a0.size : Int) - (a1.size : Int))) ≤ (a0.size : Int) then (some ((a0.extract ((wrap64 ((a0.size : Int) - (a1.size : Int))) : Int).toNat a0.size).toList == a1.toList)) else (none)) else (none)) else (some false)) = some r := h;clear h;by_cases c3 : (a0.size : Int) ≥ (a1.size : Int);rotate_left
  · rw [zn c3] at H;have c3b0 : decide ((a1.size : Int) ≤ (a0.size : Int)) = false := zf c3;have c3b1 : decide (a1.size ≤ a0.size) = false := zf (fun h => c3 (Int.ofNat_le.mpr h));clear c3;obtain rfl := zo H;go_enter Tryz.func87, Tryz.ntmps87;go_wp2;go_ret;exact ⟨zI, zD⟩
  rw [zp c3] at H;have c3b0 : decide ((a1.size : Int) ≤ (a0.size : Int)) = true := zt c3;have c3b1 : decide (a1.size ≤ a0.size) = true := zt (Int.ofNat_le.mp c3);clear c3;obtain ⟨ji4, hji4⟩ : ∃ j_ : Int, (wrap64 ((a0.size : Int) - (a1.size : Int))) = j_ := ⟨_, rfl⟩;replace H : (if 0 ≤ (ji4) then (if (ji4) ≤ (a0.size : Int) then (some ((a0.extract ((ji4) : Int).toNat a0.size).toList == a1.toList)) else (none)) else (none)) = some r := by first | (rw [hji4] at H; exact H) | (simp only [hji4] at H ⊢; exact H)
  have hji4w : (IntKind.i64.wrap ((a0.size : Int) - (a1.size : Int))) = ji4 := (i64_w _).trans hji4;by_cases c5 : 0 ≤ (ji4);rotate_left
  · rw [zn c5] at H;exact absurd H (by simp)
  rw [zp c5] at H;have c5b0 := zu c5;have c5b1 := zt c5;clear c5;by_cases c6 : (ji4) ≤ (a0.size : Int)
  · rw [zp c6] at H;have c6b0 := zu c6;have c6b1 := zt c6;clear c6;obtain rfl := zo H;go_enter Tryz.func87, Tryz.ntmps87;go_wp2;go_ret;exact ⟨by first | rfl | (simp; done) | (simp only [← hji4] <;> (first | rfl | simp)) | (simp [*]; done), zD⟩
  rw [zn c6] at H;exact absurd H (by simp)

def strings_HasSuffix.f (a0 : ByteArray) (a1 : ByteArray) : Option (Bool) := (stringslite_HasSuffix.f a0 a1).bind fun t334 => (some t334)
set_option maxHeartbeats 8000000 in
set_option maxRecDepth 100000 in
theorem strings_HasSuffix.calls (a0 : ByteArray) (a1 : ByteArray) (r : Bool) (w : World) (h : strings_HasSuffix.f a0 a1 = some r) :
    Calls Tryz.prog 61 #[.string a0, .string a1] w fun e w' => e = .returned (.bool r) ∧ Drawn0 w w' := by
  have H : ((stringslite_HasSuffix.f a0 a1).bind fun t334 => (some t334)) = some r := h;clear h;obtain ⟨t334, A3, H⟩ := zA H;(try dsimp only at H);obtain rfl := zo H;go_enter Tryz.func61, Tryz.ntmps61;go_wp2_with (first | ((with_reducible refine gate_callee (f := 87) rfl ?_); refine zg (some 7) Tryz.func87 #[.string a0, .string a1] ?_; (with_reducible refine (stringslite_HasSuffix.calls a0 a1 t334 _ A3.out).mono ?_); rintro e w' ⟨rfl, ⟨nd, rfl⟩⟩; refine ⟨_, rfl, ?_⟩));go_ret;exact ⟨zI, zD⟩

def plane_fits.f (a0 : ByteArray) (a1 : ByteArray) : Option (Bool) := (strings_CutPrefix.f a1 a0).bind fun bt335 => (if bt335.2 = true then (if bt335.1.toList = ([] : List UInt8) then (some true) else ((strings_HasSuffix.f a0 (⟨#[47]⟩ : ByteArray)).bind fun t337 => (if t337 = true then (some true) else (if 0 < (bt335.1.size : Int) then (some ((bt bt335.1 0) == 47)) else (none))))) else (some false))
set_option maxHeartbeats 8000000 in
set_option maxRecDepth 100000 in
theorem plane_fits.calls (a0 : ByteArray) (a1 : ByteArray) (r : Bool) (w : World) (h : plane_fits.f a0 a1 = some r) :
    Calls Tryz.prog 31 #[.string a0, .string a1] w fun e w' => e = .returned (.bool r) ∧ Drawn0 w w' := by
  have H : ((strings_CutPrefix.f a1 a0).bind fun bt335 => (if bt335.2 = true then (if bt335.1.toList = ([] : List UInt8) then (some true) else ((strings_HasSuffix.f a0 (⟨#[47]⟩ : ByteArray)).bind fun t337 => (if t337 = true then (some true) else (if 0 < (bt335.1.size : Int) then (some ((bt bt335.1 0) == 47)) else (none))))) else (some false))) = some r := h;clear h;obtain ⟨⟨t335, t336⟩, A3, H⟩ := zA H;(try dsimp only at H);by_cases c4 : t336 = true;rotate_left
  · replace c4 := zq.mpr c4;subst c4;have H1 := H; rw [zn (show ¬ (false = true) by decide)] at H1;clear H;have H := H1;clear H1;obtain rfl := zo H;go_enter Tryz.func31, Tryz.ntmps31;go_wp2_with (first | ((with_reducible refine gate_callee (f := 60) rfl ?_); refine zg (some 10) Tryz.func60 #[.string a1, .string a0] ?_; (with_reducible refine (strings_CutPrefix.calls a1 a0 t335 false _ A3.out).mono ?_); rintro e w' ⟨rfl, ⟨nd, rfl⟩⟩; refine ⟨_, rfl, ?_⟩));go_ret;exact ⟨zI, zD⟩
  subst c4;have H1 := H; rw [zp rfl] at H1;clear H;have H := H1;clear H1;by_cases c5 : t335.toList = ([] : List UInt8)
  · rw [zp c5] at H;have c5b0 := beq_iff_eq.mpr c5;have c5b1 := zc.mpr c5;clear c5;obtain rfl := zo H;go_enter Tryz.func31, Tryz.ntmps31;go_wp2_with (first | ((with_reducible refine gate_callee (f := 60) rfl ?_); refine zg (some 10) Tryz.func60 #[.string a1, .string a0] ?_; (with_reducible refine (strings_CutPrefix.calls a1 a0 t335 true _ A3.out).mono ?_); rintro e w' ⟨rfl, ⟨nd, rfl⟩⟩; refine ⟨_, rfl, ?_⟩));go_ret;exact ⟨zI, zD⟩
  rw [zn c5] at H;have c5b0 := zb.mpr c5;have c5b1 := bne_iff_ne.mpr c5;obtain ⟨t337, A6, H⟩ := zA H;(try dsimp only at H);by_cases c7 : t337 = true
  · subst c7;have H1 := H; rw [zp rfl] at H1;clear H;have H := H1;clear H1;obtain rfl := zo H;go_enter Tryz.func31, Tryz.ntmps31;go_wp2_with (first | ((with_reducible refine gate_callee (f := 60) rfl ?_); refine zg (some 10) Tryz.func60 #[.string a1, .string a0] ?_; (with_reducible refine (strings_CutPrefix.calls a1 a0 t335 true _ A3.out).mono ?_); rintro e w' ⟨rfl, ⟨nd, rfl⟩⟩; refine ⟨_, rfl, ?_⟩) | (go_at_call 61; (with_reducible refine (strings_HasSuffix.calls a0 (⟨#[47]⟩ : ByteArray) true _ A6.out).mono ?_); rintro e w' ⟨rfl, ⟨nd, rfl⟩⟩));go_ret;exact ⟨zI, zD⟩
  replace c7 := zq.mpr c7;subst c7;have H1 := H; rw [zn (show ¬ (false = true) by decide)] at H1;clear H;have H := H1;clear H1;by_cases c8 : 0 < (t335.size : Int)
  · rw [zp c8] at H;have c8b0 := zt c8;have c8b1 : decide (0 < t335.size) = true := zt zO;clear c8;obtain rfl := zo H;go_enter Tryz.func31, Tryz.ntmps31;go_wp2_with (first | ((with_reducible refine gate_callee (f := 60) rfl ?_); refine zg (some 10) Tryz.func60 #[.string a1, .string a0] ?_; (with_reducible refine (strings_CutPrefix.calls a1 a0 t335 true _ A3.out).mono ?_); rintro e w' ⟨rfl, ⟨nd, rfl⟩⟩; refine ⟨_, rfl, ?_⟩) | (go_at_call 61; (with_reducible refine (strings_HasSuffix.calls a0 (⟨#[47]⟩ : ByteArray) false _ A6.out).mono ?_); rintro e w' ⟨rfl, ⟨nd, rfl⟩⟩; have p9 : 0 ≤ (0 : Int) := zO; have q9 : 0 < t335.size := (by have : (0 : Int) < (t335.size : Int) := zd zS; omega); have hx9 : ∀ h : 0 < t335.size, ((t335[0]'h).toNat : Int) = bt t335 0 := bt_at t335 0; clear p9; have qi9 : (0 < (t335.size : Int)) = True := zu (zd zS); replace q9 := zu q9));go_ret;exact ⟨zI, zD⟩
  rw [zn c8] at H;exact absurd H (by simp)

end Go.Proofs.YtpigfccpogmeaaaGreatDoor.S
end
