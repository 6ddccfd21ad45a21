/- Walks and plain facts, joined out of several texts: what the row of TopGate leads to. -/
import Derived.Test.YtpigfccpogmeaaaGreatDoorPkTopGate1
section
namespace Go.Proofs.YtpigfccpogmeaaaGreatDoor.S
open Go.RowKit Go.Maps Go.ChangeMaps Go.Proofs.YtpigfccpogmeaaaGreatDoorW.PrintWords Go.Proofs.YtpigfccpogmeaaaGreatDoorW.PrintLast Go.Proofs.YtpigfccpogmeaaaGreatDoorW.PrintMore
set_option linter.unusedVariables false
set_option linter.unusedSimpArgs false
theorem update_step {P : Program} {ops : Array Oper} {op : Oper} {a : Act} {W : World} {K : Act → World → Prop} {Q : Exit → Act → World → Prop} (hw : Region.wanted op (yielded ops a.tmps) = true) (t : TypeId) (m x y : Operand) (ho : op.op = .mapUpdate t m x y)
    (k e : TypeId) (KY : Keyed P k) (ht : P.underlying t = some (.map k e)) (R : Value → Option (DataW Value × List MemPlace)) (b n : Nat) (D : DataW Value) (hown : W.ownsMap P k R b n D) (hn : n < maxLen) (hm : a.eval m = .map (some b))
    (key val : Value) (kl : Lit) (hx : a.eval x = key) (hy : a.eval y = val) (hkey : keyOf P k key = some kl) (d : DataW Value) (ps : List MemPlace) (hv : R val = some (d, ps))
    (h : ∀ W1, W1.ownsMap P k R b (n + 1) (D.put kl d) → W.mapTurned W1 b → K (a.put op.dst undef) W1) :
    if Region.wanted op (yielded ops a.tmps) = true then Oper.wp P op a W K Q else K (a.put op.dst undef) W := by
  rw [zp hw];obtain ⟨W1, hrun, r1, r2⟩ := hown.store KY ht hn hkey hv;unfold Oper.wp execOp;simp only [ho, hm, hx, hy, hrun, Sem.run_bind, Sem.run_pure, Result.andThen_ok];exact h W1 r1 r2
theorem delete_step {P : Program} {ops : Array Oper} {op : Oper} {a : Act} {W : World} {K : Act → World → Prop} {Q : Exit → Act → World → Prop} (hw : Region.wanted op (yielded ops a.tmps) = true) (t k : TypeId) (m x : Operand) (ho : op.op = Op.call { callee := Callee.builtin Builtin.delete, args := #[m, x], argTypes := #[t, k] })
    (e : TypeId) (KY : Keyed P k) (ht : P.underlying t = some (.map k e)) (R : Value → Option (DataW Value × List MemPlace)) (b n : Nat) (D : DataW Value) (hown : W.ownsMap P k R b n D) (hm : a.eval m = .map (some b))
    (key : Value) (kl : Lit) (hx : a.eval x = key) (hkey : keyOf P k key = some kl)
    (h : ∀ W1, W1.ownsMap P k R b n (D.del kl) → W.mapTurned W1 b → K (a.put op.dst (.tuple #[])) W1) :
    if Region.wanted op (yielded ops a.tmps) = true then Oper.wp P op a W K Q else K (a.put op.dst undef) W := by
  rw [zp hw];obtain ⟨W1, hrun, r1, r2⟩ := hown.drop KY ht hkey op.type;unfold Oper.wp;simp [execOp, ho, resolve, invoke, builtin, hm, hx, hrun, Result.andThen];exact h W1 r1 r2
section
variable {W W' : World} {b : Nat}
theorem turned_other (h : W.mapTurned W' b) {k : Nat} (hk : k ≠ b) : W'.heap[k]? = W.heap[k]? := by
  obtain ⟨_, _, _, _, hb, rfl⟩ := h;exact heap_setBlock_other hb _ hk
theorem turned_size (h : W.mapTurned W' b) : W'.heap.size = W.heap.size := by
  obtain ⟨_, _, _, _, hb, rfl⟩ := h;simp [setBlock]
theorem turned_cells (h : W.mapTurned W' b) {k : Nat} {cs : Array Value} {t : TypeId} {z : Nat × Nat} (hk : W.heap[k]? = some (.cells cs t z)) : W'.heap[k]? = some (.cells cs t z) := by
  refine (turned_other h ?_).trans hk;rintro rfl;obtain ⟨_, _, _, _, hb, rfl⟩ := h;rw [hb] at hk;cases hk
theorem R_turned {α : Type} {d : Kd α} {e bs : Nat} {ok : Nat → Prop} {x : Value} {xs : List α} (h : d.R e W bs ok x xs) (ht : W.mapTurned W' b) : d.R e W' bs ok x xs := by
  refine Kd.R_mono (Kd.R_move (Kd.R_bound h) (fun k hk2 => ?_)) (fun _ hk => hk.1);obtain ⟨_, _, _, q, hq, cells, hc⟩ := hk2;exact (turned_cells ht hc).trans hc.symm
structure KeepW (w W : World) (S : Nat → Prop) : Prop where
  size : w.heap.size ≤ W.heap.size
  block : ∀ i, i < w.heap.size → ¬ S i → W.heap[i]? = w.heap[i]?
  os : W.os = w.os
  tape : W.tape = w.tape
  output : W.output = w.output
theorem KeepW.refl (w : World) (S : Nat → Prop) : KeepW w w S := ⟨zh _, fun _ _ _ => rfl, rfl, rfl, rfl⟩
theorem KeepW.kept {w : World} {S : Nat → Prop} (h : KeepW w W S) : Kept w W S := ⟨h.size, h.block⟩
theorem KeepW.turned {w : World} {S : Nat → Prop} (h : KeepW w W S) (ht : W.mapTurned W' b) (hS : S b) : KeepW w W' S := by
  refine ⟨by rw [turned_size ht]; exact h.1, fun k hk hn => (turned_other ht (by rintro rfl; exact hn hS)).trans (h.2 k hk hn), ?_, ?_, ?_⟩
  all_goals obtain ⟨_, _, _, _, hb, rfl⟩ := ht
  · exact h.os
  · exact h.tape
  exact h.output
theorem KeepW.then_ {w W W2 : World} {S S2 : Nat → Prop} (h : KeepW w W S) (k : KeepW W W2 S2) (hs : ∀ k, S2 k → S k ∨ w.heap.size ≤ k) : KeepW w W2 S :=
  ⟨(h.kept.then_ k.kept hs).1, (h.kept.then_ k.kept hs).2, k.os.trans h.os, k.tape.trans h.tape, k.output.trans h.output⟩
theorem KeepW.below {w W W2 : World} {S : Nat → Prop} (h : KeepW w W S) (hb : Below W.heap.size W W2) : KeepW w W2 S :=
  ⟨(h.kept.below hb).1, (h.kept.below hb).2, hb.os.trans h.os, hb.tape.trans h.tape, hb.output.trans h.output⟩
theorem KeepW.drew {w W : World} {S : Nat → Prop} (h : KeepW w W S) : KeepW w W.drew S := ⟨h.1, h.2, h.os, h.tape, h.output⟩
theorem KeepW.setCell {w W : World} {S : Nat → Prop} (h : KeepW w W S) {p : Addr} (hp : S p.block ∨ w.heap.size ≤ p.block) (u : Value) : KeepW w (W.setCell p u) S :=
  ⟨(h.kept.setCell hp u).1, (h.kept.setCell hp u).2, h.os, h.tape, h.output⟩
theorem size_drew {n : Nat} (h : n ≤ W.heap.size) : n ≤ W.drew.heap.size := h
theorem size_turned {n : Nat} (h : n ≤ W.heap.size) (ht : W.mapTurned W' b) : n ≤ W'.heap.size := by rw [turned_size ht]; exact h
variable {gs bp br bc : Nat} {v : Int} {DP DR DC : DataW Value} {base : Nat} {f : List UInt8 → List S62} {g : PK → ByteArray}
theorem StAt.turnP (h : StAt W gs bp br bc v DP DR DC) (hd : Apart3 bp br bc) {n : Nat} {D : DataW Value} (hm : W'.ownsMap Tryz.prog 9 HR bp n D) (ht : W.mapTurned W' bp) : StAt W' gs bp br bc v D DR DC :=
  ⟨turned_cells ht h.own, ownsMap_tight hm, ownsMap_move h.mr (turned_other ht hd.1.symm), ownsMap_move h.mc (turned_other ht hd.2.1.symm)⟩
theorem StAt.turnR (h : StAt W gs bp br bc v DP DR DC) (hd : Apart3 bp br bc) {n : Nat} {D : DataW Value} (hm : W'.ownsMap Tryz.prog 84 HR br n D) (ht : W.mapTurned W' br) : StAt W' gs bp br bc v DP D DC :=
  ⟨turned_cells ht h.own, ownsMap_move h.mp (turned_other ht hd.1), ownsMap_tight hm, ownsMap_move h.mc (turned_other ht hd.2.2.symm)⟩
theorem StAt.turnC (h : StAt W gs bp br bc v DP DR DC) (hd : Apart3 bp br bc) {n : Nat} {D : DataW Value} (hm : W'.ownsMap Tryz.prog 3 HR bc n D) (ht : W.mapTurned W' bc) : StAt W' gs bp br bc v DP DR D :=
  ⟨turned_cells ht h.own, ownsMap_move h.mp (turned_other ht hd.2.1), ownsMap_move h.mr (turned_other ht hd.2.2), ownsMap_tight hm⟩
theorem StC.turned (h : StC W base DP DR DC f g) (ht : W.mapTurned W' b) : StC W' base DP DR DC f g :=
  ⟨fun n hn => by obtain ⟨x, h1, h2⟩ := h.pools n hn; exact ⟨x, h1, R_turned h2 ht⟩, h.routes, h.clients⟩
def updP (f : List UInt8 → List S62) (n : List UInt8) (ts : List S62) : List UInt8 → List S62 := fun m => if m = n then ts else f m
open Classical in
noncomputable def updR (g : PK → ByteArray) (x : PK) (p : ByteArray) : PK → ByteArray := fun y => if y.k = x.k then p else g y
theorem isKeyS {s : ByteArray} (h : s.size ≤ maxLen) : WideAt.IsKeyLit (.string s.data.toList) := keyedS.key (WideMaps.keyOf_string_mk Tryz.underlying9 h)
theorem StC.putP (h : StC W base DP DR DC f g) (hI : IsMap DP) {s : ByteArray} (hs : s.size ≤ maxLen) {x : Value} {ts : List S62} (hx : TRow W base x ts) : StC W base (DP.put (.string s.data.toList) (.held x)) DR DC (updP f s.data.toList ts) g := by
  refine ⟨fun n hn => ?_, h.routes, h.clients⟩;unfold updP;by_cases e : n = s.data.toList
  · subst e;rw [zp rfl];exact ⟨x, fun z => atKey_put_same hI (isKeyS hs) _ _, hx⟩
  have e2 : (.string n : Lit) ≠ .string s.data.toList := fun e1 => e (by injection e1)
  rw [zn e];rw [has_put_other e2] at hn;obtain ⟨y, h1, h2⟩ := h.pools n hn;exact ⟨y, fun z => (atKey_put_other e2 _ _).trans (h1 z), h2⟩
theorem StC.delP (h : StC W base DP DR DC f g) (k : Lit) : StC W base (DP.del k) DR DC f g := by
  refine ⟨fun n hn => ?_, h.routes, h.clients⟩;by_cases e : (.string n : Lit) = k
  · rw [e, has_del_same] at hn;cases hn
  rw [has_del_other e] at hn;obtain ⟨y, h1, h2⟩ := h.pools n hn;exact ⟨y, fun z => (atKey_del_other e _).trans (h1 z), h2⟩
theorem PK.is (x : PK) : keyOf Tryz.prog 84 (.agg #[.string x.a, .string x.b]) = some x.k := plK_is x.ha x.hb
theorem PK.isKey (x : PK) : WideAt.IsKeyLit x.k := keyedPl.key (plK_is x.ha x.hb)
theorem StC.putR (h : StC W base DP DR DC f g) (hI : IsMap DR) (x : PK) (p : ByteArray) : StC W base DP (DR.put x.k (.held (.string p))) DC f (updR g x p) := by
  refine ⟨h.pools, fun y hy z => ?_, h.clients⟩;unfold updR;by_cases e : y.k = x.k
  · rw [zp e, e];exact atKey_put_same hI x.isKey _ _
  rw [zn e, atKey_put_other e];rw [has_put_other e] at hy;exact h.routes y hy z
theorem StC.delR (h : StC W base DP DR DC f g) (k : Lit) : StC W base DP (DR.del k) DC f g := by
  refine ⟨h.pools, fun y hy z => ?_, h.clients⟩;by_cases e : y.k = k
  · rw [e, has_del_same] at hy;cases hy
  rw [has_del_other e] at hy;rw [atKey_del_other e];exact h.routes y hy z
theorem StC.putC (h : StC W base DP DR DC f g) (hI : IsMap DC) {k : Lit} (hk : WideAt.IsKeyLit k) (a b c : Int) : StC W base DP DR (DC.put k (.held (.agg #[.int .i64 a, .int .i64 b, .int .i64 c]))) f g := by
  refine ⟨h.pools, h.routes, fun kl hkl => ?_⟩;by_cases e : kl = k
  · subst e;exact ⟨a, b, c, fun z => atKey_put_same hI hk _ _⟩
  rw [has_put_other e] at hkl;obtain ⟨x, y, u, h1⟩ := h.clients kl hkl;exact ⟨x, y, u, fun z => (atKey_put_other e _ _).trans (h1 z)⟩
theorem StP.putP (h : StP DP DR f g) (hT : Tidy DP) {s : ByteArray} (hs : s.size ≤ 1048576) {x : Value} {ts : List S62} (hl : ts.length ≤ 100) (hts : ∀ t ∈ ts, TgOk t) (hn : has DP (.string s.data.toList) = true ∨ Maps.size DP < 200) : StP (DP.put (.string s.data.toList) (.held x)) DR (updP f s.data.toList ts) g := by
  have hm : s.size ≤ maxLen := Nat.le_trans hs (by decide);refine ⟨fun n hn => ?_, fun y hy => ?_, ?_, h.nr⟩
  · unfold updP;by_cases e : n = s.data.toList
    · subst e;rw [zp rfl];exact ⟨by show s.data.toList.length ≤ 1048576; simpa using hs, hl, hts⟩
    rw [zn e];rw [has_put_other (fun e1 => e (by injection e1))] at hn;exact h.names n hn
  · obtain ⟨h1, h2, h3, h4⟩ := h.places y hy;refine ⟨h1, h2, h3, ?_⟩;by_cases e : (.string (g y).data.toList : Lit) = .string s.data.toList
    · rw [e];exact has_put_same hT.isMap (isKeyS hm) _
    rw [has_put_other e];exact h4
  rw [size_put hT];have := h.np
  split
  · exact h.np
  rcases hn with hn | hn
  · simp_all
  omega
theorem StP.delP (h : StP DP DR f g) (hT : Tidy DP) {k : Lit} (hk : ∀ x : PK, has DR x.k = true → (.string (g x).data.toList : Lit) ≠ k) : StP (DP.del k) DR f g := by
  refine ⟨fun n hn => ?_, fun y hy => ?_, ?_, h.nr⟩
  · by_cases e : (.string n : Lit) = k
    · rw [e, has_del_same] at hn;cases hn
    rw [has_del_other e] at hn;exact h.names n hn
  · obtain ⟨h1, h2, h3, h4⟩ := h.places y hy;exact ⟨h1, h2, h3, by rw [has_del_other (hk y hy)]; exact h4⟩
  have := size_del (k := k) hT;have := h.np;omega
theorem PK.k_inj {x y : PK} (h : x.k = y.k) : x = y := by
  obtain ⟨a, b, ha, hb⟩ := x;obtain ⟨c, d, hc, hd⟩ := y;obtain ⟨rfl, rfl⟩ := plK_inj ha hb hc hd h;rfl
theorem StP.putR (h : StP DP DR f g) (hT : Tidy DR) {x : PK} (hx : x.a.size ≤ 1048576 ∧ x.b.size ≤ 1048576) {p : ByteArray} (hp : p.size ≤ 1048576) (hh : has DP (.string p.data.toList) = true) (hn : has DR x.k = true ∨ Maps.size DR < 200) : StP DP (DR.put x.k (.held (.string p))) f (updR g x p) := by
  refine ⟨h.names, fun y hy => ?_, h.np, ?_⟩
  · unfold updR;by_cases e : y.k = x.k
    · rw [zp e, PK.k_inj e];exact ⟨hx.1, hx.2, hp, hh⟩
    rw [zn e];rw [has_put_other e] at hy;exact h.places y hy
  rw [size_put hT];have := h.nr
  split
  · exact h.nr
  rcases hn with hn | hn
  · simp_all
  omega
theorem StP.delR (h : StP DP DR f g) (hT : Tidy DR) (k : Lit) : StP DP (DR.del k) f g := by
  refine ⟨h.names, fun y hy => ?_, h.np, ?_⟩
  · by_cases e : y.k = k
    · rw [e, has_del_same] at hy;cases hy
    rw [has_del_other e] at hy;exact h.places y hy
  have := size_del (k := k) hT;have := h.nr;omega
end
theorem restore0 {D : DataW Value} {k : Lit} {d : DataW Value} (h0 : has D k = false) (c : Canon D) (c2 : Canon ((D.put k d).del k)) : (D.put k d).del k = D := by
  refine Maps.ext c2 c (fun j => ?_) (fun j z hj => ?_)
  · by_cases e : j = k
    · rw [e, has_del_same, h0]
    rw [has_del_other e, has_put_other e]
  by_cases e : j = k
  · rw [e, has_del_same] at hj;cases hj
  rw [atKey_del_other e, atKey_put_other e]
theorem restore1 {D : DataW Value} {k : Lit} {d d0 : DataW Value} (hk : WideAt.IsKeyLit k) (h1 : has D k = true) (hat : ∀ z, D.atKey k z = d0) (c : Canon D) (c2 : Canon (((D.put k d).del k).put k d0)) (hI : IsMap ((D.put k d).del k)) : ((D.put k d).del k).put k d0 = D := by
  refine Maps.ext c2 c (fun j => ?_) (fun j z hj => ?_)
  · by_cases e : j = k
    · rw [e, has_put_same hI hk, h1]
    rw [has_put_other e, has_del_other e, has_put_other e]
  by_cases e : j = k
  · rw [e, atKey_put_same hI hk, hat]
  rw [atKey_put_other e, atKey_del_other e, atKey_put_other e]
open Go.RowKit Go.Maps Go.Proofs.YtpigfccpogmeaaaGreatDoorW.PrintWords Go.Proofs.YtpigfccpogmeaaaGreatDoorW.PrintLast Go.Proofs.YtpigfccpogmeaaaGreatDoorW.PrintMore
noncomputable def ac_T2 : Bool × List (List Nat × List Nat) := rtab .any (opsOf Tryz.f16 2)
theorem ac_T2_is : rtab .any (opsOf Tryz.f16 2) = ac_T2 := rfl
noncomputable def ac_T3 : Bool × List (List Nat × List Nat) := rtab .any (opsOf Tryz.f16 3)
theorem ac_T3_is : rtab .any (opsOf Tryz.f16 3) = ac_T3 := rfl
noncomputable def ac_T7 : Bool × List (List Nat × List Nat) := rtab .any (opsOf Tryz.f16 7)
theorem ac_T7_is : rtab .any (opsOf Tryz.f16 7) = ac_T7 := rfl
noncomputable def ac_T11 : Bool × List (List Nat × List Nat) := rtab .any (opsOf Tryz.f16 11)
theorem ac_T11_is : rtab .any (opsOf Tryz.f16 11) = ac_T11 := rfl
noncomputable def ac_T13 : Bool × List (List Nat × List Nat) := rtab .any (opsOf Tryz.f16 13)
theorem ac_T13_is : rtab .any (opsOf Tryz.f16 13) = ac_T13 := rfl
noncomputable def ac_T15 : Bool × List (List Nat × List Nat) := rtab .any (opsOf Tryz.f16 15)
theorem ac_T15_is : rtab .any (opsOf Tryz.f16 15) = ac_T15 := rfl
noncomputable def ac_T25 : Bool × List (List Nat × List Nat) := rtab .any (opsOf Tryz.f16 25)
theorem ac_T25_is : rtab .any (opsOf Tryz.f16 25) = ac_T25 := rfl
noncomputable def ac_T31 : Bool × List (List Nat × List Nat) := rtab .any (opsOf Tryz.f16 31)
theorem ac_T31_is : rtab .any (opsOf Tryz.f16 31) = ac_T31 := rfl
noncomputable def ac_T33 : Bool × List (List Nat × List Nat) := rtab .any (opsOf Tryz.f16 33)
theorem ac_T33_is : rtab .any (opsOf Tryz.f16 33) = ac_T33 := rfl
noncomputable def ac_T35 : Bool × List (List Nat × List Nat) := rtab .any (opsOf Tryz.f16 35)
theorem ac_T35_is : rtab .any (opsOf Tryz.f16 35) = ac_T35 := rfl

def ActPost (w : World) (gs bp br bc : Nat) (v : Int) (DP DR DC : DataW Value) (base : Nat) (f : List UInt8 → List S62) (g : PK → ByteArray) (e : Ending) (w' : World) : Prop :=
  ∃ er : Int, e = .returned (.int .i64 er) ∧ KeepW w w' (fun k => k = bp ∨ k = br) ∧ ((er ≠ 0 ∧ StAt w' gs bp br bc v DP DR DC ∧ StC w' base DP DR DC f g) ∨ (er = 0 ∧ ∃ DP' DR' f' g', StAt w' gs bp br bc v DP' DR' DC ∧ StC w' base DP' DR' DC f' g' ∧ StP DP' DR' f' g'))
theorem ActPost.bad {w w' : World} {gs bp br bc : Nat} {v : Int} {DP DR DC : DataW Value} {base : Nat} {f : List UInt8 → List S62} {g : PK → ByteArray} (er : Int) (h0 : er ≠ 0) (hk : KeepW w w' (fun k => k = bp ∨ k = br)) (h1 : StAt w' gs bp br bc v DP DR DC) (h2 : StC w' base DP DR DC f g) : ActPost w gs bp br bc v DP DR DC base f g (.returned (.int .i64 er)) w' := ⟨er, rfl, hk, .inl ⟨h0, h1, h2⟩⟩
theorem ActPost.good {w w' : World} {gs bp br bc : Nat} {v : Int} {DP DR DC DP' DR' : DataW Value} {base : Nat} {f f' : List UInt8 → List S62} {g g' : PK → ByteArray} (hk : KeepW w w' (fun k => k = bp ∨ k = br)) (h1 : StAt w' gs bp br bc v DP' DR' DC) (h2 : StC w' base DP' DR' DC f' g') (h3 : StP DP' DR' f' g') : ActPost w gs bp br bc v DP DR DC base f g (.returned (.int .i64 0)) w' := ⟨0, rfl, hk, .inr ⟨rfl, _, _, _, _, h1, h2, h3⟩⟩
set_option maxHeartbeats 16000000 in
set_option maxRecDepth 100000 in
theorem act_ok {gs bp br bc : Nat} {v : Int} {DP DR DC : DataW Value} {f : List UInt8 → List S62} {g : PK → ByteArray} {w : World} {base : Nat} (h : StAt w gs bp br bc v DP DR DC) (hc : StC w base DP DR DC f g) (hp : StP DP DR f g) (hd : Apart3 bp br bc) (hn : base ≤ w.heap.size)
    (ca ccl csq cex : Int) (ch cpx cpo : ByteArray) (At : Option Addr) (ct : Nat) (ts : List S62) (hts : Kd.C k62 w At ts.length ts) (hct : ts.length ≤ ct) (htl : ts.length ≤ 100) (hta : ∀ t ∈ ts, TgOk t) (hz : ch.size ≤ 1048576 ∧ cpx.size ≤ 1048576 ∧ cpo.size ≤ 1048576) :
    Calls Tryz.prog 16 #[.pointer (some ⟨gs, 0, none⟩), .agg #[.int .i64 ca, .int .i64 ccl, .int .i64 csq, .int .i64 cex, .string ch, .string cpx, .string cpo, .slice At ts.length ct]] w (ActPost w gs bp br bc v DP DR DC base f g) := by
  have HS := zN h;have HC := zN hc;have HP := zN hp;have HD := zN hd;have HK := zN (KeepW.refl w (fun k => k = bp ∨ k = br));have HN := zN hn;have HT := zN hts;have HZ := zN (show cpo.size ≤ maxLen from Nat.le_trans hz.2.2 (by decide));obtain ⟨X, hX1, hX2⟩ : ∃ X : PK, X.a = ch ∧ X.b = cpx := ⟨⟨ch, cpx, Nat.le_trans hz.1 (by decide), Nat.le_trans hz.2.1 (by decide)⟩, rfl, rfl⟩;subst hX1;subst hX2;have HZZ := zN hz;have HTT := zN (And.intro hct (And.intro htl hta));clear h hc hp hd hn hts hz hct htl hta;have huS := Tryz.underlying68;have huP := Tryz.underlying84;have huC := Tryz.underlying35;go_enter Tryz.func16, Tryz.ntmps16;go_upto_region 1 with (((with_reducible refine gate_dst (N := 3) rfl ?_); refine zX #[.int .i64 ca, .int .i64 ccl, .int .i64 csq, .int .i64 cex, .string X.a, .string X.b, .string cpo, .slice At ts.length ct] 35 rfl ?_; intro g3 hg w1 hbox hb; have G3 := zN hbox; replace HS := zN (HS.out.below hb); replace HC := zN (HC.out.below hb); replace HK := zN (HK.out.below hb); replace HN := zN (Nat.le_trans HN.out hb.size); replace HT := zN (Kd.C_below HT.out hb); clear hb hbox hg))
  have e4 : w1.cell? ⟨g3, 4, none⟩ = some (.string X.a) := (blk_cell G3.out 4).trans rfl;have e5 : w1.cell? ⟨g3, 5, none⟩ = some (.string X.b) := (blk_cell G3.out 5).trans rfl;go_upto_region 2 with (fail)
  clear e4 e5;have hb := below_alloc (Below.refl w1.heap.size w1) (.cells #[.string X.a, .string X.b] 84);have G5 := zN (blk_new w1 (.cells #[.string X.a, .string X.b] 84));replace HS := zN (HS.out.below hb);replace HC := zN (HC.out.below hb);replace HK := zN (HK.out.below hb);replace HN := zN (Nat.le_trans HN.out hb.size);replace HT := zN (Kd.C_below HT.out hb);replace G3 := zN (blk_below G3.out hb);generalize hg5 : w1.heap.size = g5 at hb G5 ⊢;clear hg5;generalize w1.alloc (.cells #[.string X.a, .string X.b] 84) = w2 at hb HS HC HK HN HT G3 G5 ⊢;clear hb;obtain ⟨pb, hpb⟩ : ∃ pb, pb = has DP (.string cpo.data.toList) := ⟨_, rfl⟩;obtain ⟨rb, hrb⟩ : ∃ rb, rb = has DR X.k := ⟨_, rfl⟩;have HPB := zN hpb;have HRB := zN hrb;clear hpb hrb;replace HS := zN HS.out.drew;replace HC := zN HC.out.drew;replace HK := zN HK.out.drew;replace HN := zN (size_drew HN.out);replace HT := zN (Kd.C_drew HT.out);replace G3 := zN (blk_drew G3.out);replace G5 := zN (blk_drew G5.out);refine start_ (n := 12) (S := fun w' => w' = w2.drew) (ds := []) #[false, false, false, false, false, false, false, false, false, false, false, false] zQ rfl rfl rfl (fun hHeld => ?_);refine with_tab (T := ac_T2) ac_T2_is (fun HT_ => ?_);generalize w2.drew = w3 at HS HC HK HN HT G3 G5 hHeld ⊢;obtain ⟨xv, ps_, hrun, hv_⟩ := HS.out.mp.look_ok keyedS Tryz.underlying64 (zeroTs _) rfl (WideMaps.keyOf_string_mk Tryz.underlying9 (s := cpo) HZ.out);rw [← HPB.out] at hrun;have Hxv := zN (HR_inv hv_);clear hv_ ps_;have m1 : w3.cell? ⟨gs, 1, none⟩ = some (.map (some bp)) := (blk_cell HS.out.own 1).trans rfl;have e6 : w3.cell? ⟨g3, 6, none⟩ = some (.string cpo) := (blk_cell G3.out 6).trans rfl;refine zU (i := 0) (N := some 18) #[true, false, false, false, false, false, false, false, false, false, false, false] rfl rfl HT_ ?_;refine zU (i := 1) (N := some 19) #[true, true, false, false, false, false, false, false, false, false, false, false] rfl rfl HT_ ?_;refine zU (i := 2) (N := some 20) #[true, true, true, false, false, false, false, false, false, false, false, false] rfl rfl HT_ ?_;refine take_ (i := 3) (N := some 21) (v := ?_) (a' := ?_) #[true, true, true, true, false, false, false, false, false, false, false, false] rfl rfl (take_of HT_.out zQ) (fun _ _ _ h => h) (Or.inl ⟨by rfl, ?_⟩) hHeld ?_ ?_;rotate_left
  · rintro w' rfl;go_simp
    with_reducible rfl
  rotate_left
  · simp only [zP];rfl
  refine zU (i := 4) (N := some 22) #[true, true, true, true, true, false, false, false, false, false, false, false] rfl rfl HT_ ?_;refine take_ (i := 5) (N := some 23) (v := ?_) (a' := ?_) #[true, true, true, true, true, true, false, false, false, false, false, false] rfl rfl (take_of HT_.out zQ) (fun _ _ _ h => h) (Or.inl ⟨by rfl, ?_⟩) hHeld ?_ ?_;rotate_left
  · rintro w' rfl;go_simp
    with_reducible rfl
  rotate_left
  · simp only [zP];rfl
  refine take_ (i := 6) (N := some 24) (v := .tuple #[xv, .bool pb]) (a' := ?_) #[true, true, true, true, true, true, true, false, false, false, false, false] rfl rfl (take_of HT_.out zQ) (fun _ _ _ h => h) (yieldsIf_lookup (by rfl) 64 (.tmp 21) (.tmp 23) true rfl bp rfl (.string cpo) _ rfl (fun w_ hw_ => by rw [hw_]; exact hrun)) hHeld ?_ ?_;rotate_left
  · simp only [zP];rfl
  refine zU (i := 7) (N := some 17) #[true, true, true, true, true, true, true, true, false, false, false, false] rfl rfl HT_ ?_;refine zU (i := 8) (N := some 25) #[true, true, true, true, true, true, true, true, true, false, false, false] rfl rfl HT_ ?_;refine zU (i := 9) (N := some 26) #[true, true, true, true, true, true, true, true, true, true, false, false] rfl rfl HT_ ?_;refine zU (i := 10) (N := some 6) #[true, true, true, true, true, true, true, true, true, true, true, false] rfl rfl HT_ ?_;refine zU (i := 11) (N := some 7) #[true, true, true, true, true, true, true, true, true, true, true, true] rfl rfl HT_ ?_;refine done_ (done_of HT_.out zQ) ?_;clear HT_;clear hHeld hrun;clear m1 e6;go_upto_region 3 with (fail)
  replace HS := zN HS.out.drew;replace HC := zN HC.out.drew;replace HK := zN HK.out.drew;replace HN := zN (size_drew HN.out);replace HT := zN (Kd.C_drew HT.out);replace G3 := zN (blk_drew G3.out);replace G5 := zN (blk_drew G5.out);refine start_ (n := 11) (S := fun w' => w' = w3.drew) (ds := []) #[false, false, false, false, false, false, false, false, false, false, false] zQ rfl rfl rfl (fun hHeld => ?_);refine with_tab (T := ac_T3) ac_T3_is (fun HT_ => ?_);generalize w3.drew = w4 at HS HC HK HN HT G3 G5 hHeld ⊢;obtain ⟨yv, ps_, hrun, hv_⟩ := HS.out.mr.look_ok keyedPl Tryz.underlying65 (zeroStr _) rfl (PK.is X);rw [← HRB.out] at hrun;have Hyv := zN (HR_inv hv_);clear hv_ ps_;have m2 : w4.cell? ⟨gs, 2, none⟩ = some (.map (some br)) := (blk_cell HS.out.own 2).trans rfl;have p0 : w4.cell? ⟨g5, 0, none⟩ = some (.string X.a) := (blk_cell G5.out 0).trans rfl;have p1 : w4.cell? ⟨g5, 1, none⟩ = some (.string X.b) := (blk_cell G5.out 1).trans rfl;refine zU (i := 0) (N := some 28) #[true, false, false, false, false, false, false, false, false, false, false] rfl rfl HT_ ?_;refine zU (i := 1) (N := some 29) #[true, true, false, false, false, false, false, false, false, false, false] rfl rfl HT_ ?_;refine zU (i := 2) (N := some 30) #[true, true, true, false, false, false, false, false, false, false, false] rfl rfl HT_ ?_;refine take_ (i := 3) (N := some 31) (v := ?_) (a' := ?_) #[true, true, true, true, false, false, false, false, false, false, false] rfl rfl (take_of HT_.out zQ) (fun _ _ _ h => h) (Or.inl ⟨by rfl, ?_⟩) hHeld ?_ ?_;rotate_left
  · rintro w' rfl;go_simp
    with_reducible rfl
  rotate_left
  · simp only [zP];rfl
  refine take_ (i := 4) (N := some 32) (v := ?_) (a' := ?_) #[true, true, true, true, true, false, false, false, false, false, false] rfl rfl (take_of HT_.out zQ) (fun _ _ _ h => h) (Or.inl ⟨by rfl, ?_⟩) hHeld ?_ ?_;rotate_left
  · rintro w' rfl;go_simp
    with_reducible rfl
  rotate_left
  · simp only [zP];rfl
  refine take_ (i := 5) (N := some 33) (v := .tuple #[yv, .bool rb]) (a' := ?_) #[true, true, true, true, true, true, false, false, false, false, false] rfl rfl (take_of HT_.out zQ) (fun _ _ _ h => h) (yieldsIf_lookup (by rfl) 65 (.tmp 31) (.tmp 32) true rfl br rfl (.agg #[.string X.a, .string X.b]) _ rfl (fun w_ hw_ => by rw [hw_]; exact hrun)) hHeld ?_ ?_;rotate_left
  · simp only [zP];rfl
  refine zU (i := 6) (N := some 27) #[true, true, true, true, true, true, true, false, false, false, false] rfl rfl HT_ ?_;refine zU (i := 7) (N := some 34) #[true, true, true, true, true, true, true, true, false, false, false] rfl rfl HT_ ?_;refine zU (i := 8) (N := some 35) #[true, true, true, true, true, true, true, true, true, false, false] rfl rfl HT_ ?_;refine zU (i := 9) (N := some 8) #[true, true, true, true, true, true, true, true, true, true, false] rfl rfl HT_ ?_;refine zU (i := 10) (N := some 9) #[true, true, true, true, true, true, true, true, true, true, true] rfl rfl HT_ ?_;refine done_ (done_of HT_.out zQ) ?_;clear HT_;clear hHeld hrun;clear m2 p0 p1;have HCA := zN (HS.out.mp.canon keyedS);have HCB := zN (HS.out.mr.canon keyedPl);have HIA := zN HS.out.mp.isMap;have HIB := zN HS.out.mr.isMap;have HTA := zN (HS.out.mp.tidy keyedS);have HTB := zN (HS.out.mr.tidy keyedPl);have e0 : w4.cell? ⟨g3, 0, none⟩ = some (.int .i64 ca) := (blk_cell G3.out 0).trans rfl;go_upto_region 8 with (fail)
  clear e0;by_cases hca : ca = 1
  · have d1 : decide (ca = 1) = true := zt hca;go_upto_region 9 with (fail)
    cases pb
    · have m1 : w4.cell? ⟨gs, 1, none⟩ = some (.map (some bp)) := (blk_cell HS.out.own 1).trans rfl;by_cases hlt : 32 ≤ Maps.size DP
      · have d2 : decide ((32 : Int) ≤ (Maps.size DP : Int)) = true := zt zO;have hln := HS.out.mp.len Tryz.underlying64 3;go_wp2;go_ret;exact ActPost.bad 6 (by decide) HK.out HS.out HC.out
      have d2 : decide ((32 : Int) ≤ (Maps.size DP : Int)) = false := zf zO;have HPN := zN (.inr zO : has DP (.string cpo.data.toList) = true ∨ Maps.size DP < 200);have hln := HS.out.mp.len Tryz.underlying64 3;go_upto_region 11 with (fail)
      clear m1 d2 hlt hln;replace HS := zN HS.out.drew;replace HC := zN HC.out.drew;replace HK := zN HK.out.drew;replace HN := zN (size_drew HN.out);replace HT := zN (Kd.C_drew HT.out);replace G3 := zN (blk_drew G3.out);replace G5 := zN (blk_drew G5.out);refine start_ (n := 10) (S := fun w' => w'.cell? ⟨gs, 1, none⟩ = some (.map (some bp)) ∧ w'.cell? ⟨g3, 6, none⟩ = some (.string cpo) ∧ w'.cell? ⟨g3, 7, none⟩ = some (.slice At ts.length ct)) (ds := [9]) #[false, false, false, false, false, false, false, false, false, false] zQ rfl rfl ⟨(blk_cell HS.out.own 1).trans rfl, (blk_cell G3.out 6).trans rfl, (blk_cell G3.out 7).trans rfl⟩ (fun hHeld => ?_);refine with_tab (T := ac_T11) ac_T11_is (fun HT_ => ?_);generalize w4.drew = wd at HS HC HK HN HT G3 G5 hHeld ⊢;refine zU (i := 0) (N := some 57) #[true, false, false, false, false, false, false, false, false, false] rfl rfl HT_ ?_;refine zU (i := 1) (N := some 58) #[true, true, false, false, false, false, false, false, false, false] rfl rfl HT_ ?_;refine zU (i := 2) (N := some 59) #[true, true, true, false, false, false, false, false, false, false] rfl rfl HT_ ?_;refine take_ (i := 3) (N := some 60) (v := ?_) (a' := ?_) #[true, true, true, true, false, false, false, false, false, false] rfl rfl (take_of HT_.out zQ) (fun _ _ _ h => h) (Or.inl ⟨by rfl, ?_⟩) hHeld ?_ ?_;rotate_left
      · rintro w' ⟨s0, s1, s2⟩;go_simp
        with_reducible rfl
      rotate_left
      · simp only [zP];rfl
      refine zU (i := 4) (N := some 61) #[true, true, true, true, true, false, false, false, false, false] rfl rfl HT_ ?_;refine take_ (i := 5) (N := some 62) (v := ?_) (a' := ?_) #[true, true, true, true, true, true, false, false, false, false] rfl rfl (take_of HT_.out zQ) (fun _ _ _ h => h) (Or.inl ⟨by rfl, ?_⟩) hHeld ?_ ?_;rotate_left
      · rintro w' ⟨s0, s1, s2⟩;go_simp
        with_reducible rfl
      rotate_left
      · simp only [zP];rfl
      refine zU (i := 6) (N := some 63) #[true, true, true, true, true, true, true, false, false, false] rfl rfl HT_ ?_;refine take_ (i := 7) (N := some 64) (v := ?_) (a' := ?_) #[true, true, true, true, true, true, true, true, false, false] rfl rfl (take_of HT_.out zQ) (fun _ _ _ h => h) (Or.inl ⟨by rfl, ?_⟩) hHeld ?_ ?_;rotate_left
      · rintro w' ⟨s0, s1, s2⟩;go_simp
        with_reducible rfl
      rotate_left
      · simp only [zP];rfl
      refine one_ (i := 8) (N := some 65) #[true, true, true, true, true, true, true, true, true, false] rfl rfl (one_of HT_.out zQ) (by decide) (fun K hK => ?_);refine goes_ Tryz.func20 zQ rfl #[.slice At ts.length ct] (by rfl) rfl rfl (by (try simp only [List.map_toArray, List.map_cons, List.map_nil]); first | done | rfl) ?_;refine (clone_Target At ct ts _ HT.out HTT.out.1 (by have := HTT.out.2.1; omega)).mono ?_;rintro e wc ⟨tv, rfl, htv, hb⟩;refine ⟨_, rfl, ?_⟩;have HX := zN (Kd.R_lower htv HN.out);replace HS := zN (HS.out.below hb);replace HC := zN (HC.out.below hb);replace HK := zN (HK.out.below hb);replace HN := zN (Nat.le_trans HN.out hb.size);replace G3 := zN (blk_below G3.out hb);replace G5 := zN (blk_below G5.out hb);clear HT htv hb;refine hK.out _ _ ⟨(blk_cell HS.out.own 1).trans rfl, (blk_cell G3.out 6).trans rfl, (blk_cell G3.out 7).trans rfl⟩ (fun hHeld => ?_);clear hK K;refine norm_ (a' := ?_) ?_ ?_;rotate_left
      · show Act.put _ (some 65) _ = _
        simp only [zP];rfl
      refine last_ (i := 9) (N := none) #[true, true, true, true, true, true, true, true, true, true] rfl rfl (one_of HT_.out zQ) (by decide) (fun K hK => ?_);have HCC := zN (HC.out.putP HIA.out HZ.out HX.out);refine update_step (by rfl) 64 (.tmp 60) (.tmp 62) (.tmp 65) rfl 9 33 keyedS Tryz.underlying64 HR bp _ _ HS.out.mp (Nat.lt_of_le_of_lt HP.out.np (by decide)) rfl (.string cpo) tv _ rfl rfl (WideMaps.keyOf_string_mk Tryz.underlying9 (s := cpo) HZ.out) (.held tv) [] rfl (fun w6 hm ht => ?_);replace HS := zN (HS.out.turnP HD.out hm ht);replace HC := zN (HC.out.turned ht);replace HK := zN (KeepW.turned HK.out ht (.inl rfl));replace HN := zN (size_turned HN.out ht);replace G3 := zN (turned_cells ht G3.out);replace G5 := zN (turned_cells ht G5.out);replace HX := zN (R_turned HX.out ht);replace HCC := zN (HCC.out.turned ht);clear hm ht;refine hK.out _ _ ?_;clear hK K;refine done_ (done_of HT_.out zQ) ?_;clear HT_;clear hHeld;have HPP := zN (HP.out.putP (x := tv) HTA.out HZZ.out.2.2 HTT.out.2.1 HTT.out.2.2 HPN.out);go_wp2_with ((go_at_call 39; refine (storeBytes_ok HS.out HCC.out HPP.out).mono ?_; rintro e wq ⟨Aq, nq, cq, rfl, hnq, hb⟩; replace HS := zN (HS.out.below hb); replace HC := zN (HC.out.below hb); replace HK := zN (HK.out.below hb); replace HN := zN (Nat.le_trans HN.out hb.size); replace G3 := zN (blk_below G3.out hb); replace G5 := zN (blk_below G5.out hb); replace HX := zN (Kd.R_below HX.out hb); replace HCC := zN (HCC.out.below hb); clear hb hnq));rotate_left
      · go_ret;exact ActPost.good HK.out HS.out HCC.out HPP.out
      have HSZ := zN (Nat.le_trans (Nat.le_trans (Nat.le_add_right _ _) (Nat.le_of_eq (size_del (k := (.string cpo.data.toList : Lit)) (HS.out.mp.tidy keyedS)))) HPP.out.np);clear HCC HPP HX;replace HS := zN HS.out.drew;replace HC := zN HC.out.drew;replace HK := zN HK.out.drew;replace HN := zN (size_drew HN.out);replace G3 := zN (blk_drew G3.out);replace G5 := zN (blk_drew G5.out);refine start_ (n := 7) (S := fun w' => w' = wq.drew) (ds := [6]) #[false, false, false, false, false, false, false] zQ rfl rfl rfl (fun hHeld => ?_);refine with_tab (T := ac_T13) ac_T13_is (fun HT_ => ?_);generalize wq.drew = wd2 at HS HC HK HN G3 G5 hHeld ⊢;have m1 : wd2.cell? ⟨gs, 1, none⟩ = some (.map (some bp)) := (blk_cell HS.out.own 1).trans rfl;have e6 : wd2.cell? ⟨g3, 6, none⟩ = some (.string cpo) := (blk_cell G3.out 6).trans rfl;refine zU (i := 0) (N := some 70) #[true, false, false, false, false, false, false] rfl rfl HT_ ?_;refine zU (i := 1) (N := some 71) #[true, true, false, false, false, false, false] rfl rfl HT_ ?_;refine zU (i := 2) (N := some 72) #[true, true, true, false, false, false, false] rfl rfl HT_ ?_;refine take_ (i := 3) (N := some 73) (v := ?_) (a' := ?_) #[true, true, true, true, false, false, false] rfl rfl (take_of HT_.out zQ) (fun _ _ _ h => h) (Or.inl ⟨by rfl, ?_⟩) hHeld ?_ ?_;rotate_left
      · rintro w' rfl;go_simp
        with_reducible rfl
      rotate_left
      · simp only [zP];rfl
      refine zU (i := 4) (N := some 74) #[true, true, true, true, true, false, false] rfl rfl HT_ ?_;refine take_ (i := 5) (N := some 75) (v := ?_) (a' := ?_) #[true, true, true, true, true, true, false] rfl rfl (take_of HT_.out zQ) (fun _ _ _ h => h) (Or.inl ⟨by rfl, ?_⟩) hHeld ?_ ?_;rotate_left
      · rintro w' rfl;go_simp
        with_reducible rfl
      rotate_left
      · simp only [zP];rfl
      refine last_ (i := 6) (N := none) #[true, true, true, true, true, true, true] rfl rfl (one_of HT_.out zQ) (by decide) (fun K hK => ?_);clear m1 e6;refine delete_step (by rfl) 64 9 (.tmp 73) (.tmp 75) rfl 33 keyedS Tryz.underlying64 HR bp _ _ HS.out.mp rfl (.string cpo) _ rfl (WideMaps.keyOf_string_mk Tryz.underlying9 (s := cpo) HZ.out) (fun w7 hm ht => ?_);replace HS := zN (HS.out.turnP HD.out hm ht);replace HC := zN (HC.out.turned ht);replace HK := zN (KeepW.turned HK.out ht (.inl rfl));replace HN := zN (size_turned HN.out ht);replace G3 := zN (turned_cells ht G3.out);replace G5 := zN (turned_cells ht G5.out);clear hm ht;refine hK.out _ _ ?_;clear hK K;refine done_ (done_of HT_.out zQ) ?_;clear HT_;go_wp2;go_ret;have hs := HS.out;rw [restore0 HPB.out.symm HCA.out (HS.out.mp.canon keyedS)] at hs;exact ActPost.bad 6 (by decide) HK.out hs HC.out
    have HPN := zN (.inl HPB.out.symm : has DP (.string cpo.data.toList) = true ∨ Maps.size DP < 200);go_upto_region 11 with (fail)
    replace HS := zN HS.out.drew;replace HC := zN HC.out.drew;replace HK := zN HK.out.drew;replace HN := zN (size_drew HN.out);replace HT := zN (Kd.C_drew HT.out);replace G3 := zN (blk_drew G3.out);replace G5 := zN (blk_drew G5.out);refine start_ (n := 10) (S := fun w' => w'.cell? ⟨gs, 1, none⟩ = some (.map (some bp)) ∧ w'.cell? ⟨g3, 6, none⟩ = some (.string cpo) ∧ w'.cell? ⟨g3, 7, none⟩ = some (.slice At ts.length ct)) (ds := [9]) #[false, false, false, false, false, false, false, false, false, false] zQ rfl rfl ⟨(blk_cell HS.out.own 1).trans rfl, (blk_cell G3.out 6).trans rfl, (blk_cell G3.out 7).trans rfl⟩ (fun hHeld => ?_);refine with_tab (T := ac_T11) ac_T11_is (fun HT_ => ?_);generalize w4.drew = wd at HS HC HK HN HT G3 G5 hHeld ⊢;refine zU (i := 0) (N := some 57) #[true, false, false, false, false, false, false, false, false, false] rfl rfl HT_ ?_;refine zU (i := 1) (N := some 58) #[true, true, false, false, false, false, false, false, false, false] rfl rfl HT_ ?_;refine zU (i := 2) (N := some 59) #[true, true, true, false, false, false, false, false, false, false] rfl rfl HT_ ?_;refine take_ (i := 3) (N := some 60) (v := ?_) (a' := ?_) #[true, true, true, true, false, false, false, false, false, false] rfl rfl (take_of HT_.out zQ) (fun _ _ _ h => h) (Or.inl ⟨by rfl, ?_⟩) hHeld ?_ ?_;rotate_left
    · rintro w' ⟨s0, s1, s2⟩;go_simp
      with_reducible rfl
    rotate_left
    · simp only [zP];rfl
    refine zU (i := 4) (N := some 61) #[true, true, true, true, true, false, false, false, false, false] rfl rfl HT_ ?_;refine take_ (i := 5) (N := some 62) (v := ?_) (a' := ?_) #[true, true, true, true, true, true, false, false, false, false] rfl rfl (take_of HT_.out zQ) (fun _ _ _ h => h) (Or.inl ⟨by rfl, ?_⟩) hHeld ?_ ?_;rotate_left
    · rintro w' ⟨s0, s1, s2⟩;go_simp
      with_reducible rfl
    rotate_left
    · simp only [zP];rfl
    refine zU (i := 6) (N := some 63) #[true, true, true, true, true, true, true, false, false, false] rfl rfl HT_ ?_;refine take_ (i := 7) (N := some 64) (v := ?_) (a' := ?_) #[true, true, true, true, true, true, true, true, false, false] rfl rfl (take_of HT_.out zQ) (fun _ _ _ h => h) (Or.inl ⟨by rfl, ?_⟩) hHeld ?_ ?_;rotate_left
    · rintro w' ⟨s0, s1, s2⟩;go_simp
      with_reducible rfl
    rotate_left
    · simp only [zP];rfl
    refine one_ (i := 8) (N := some 65) #[true, true, true, true, true, true, true, true, true, false] rfl rfl (one_of HT_.out zQ) (by decide) (fun K hK => ?_);refine goes_ Tryz.func20 zQ rfl #[.slice At ts.length ct] (by rfl) rfl rfl (by (try simp only [List.map_toArray, List.map_cons, List.map_nil]); first | done | rfl) ?_;refine (clone_Target At ct ts _ HT.out HTT.out.1 (by have := HTT.out.2.1; omega)).mono ?_;rintro e wc ⟨tv, rfl, htv, hb⟩;refine ⟨_, rfl, ?_⟩;have HX := zN (Kd.R_lower htv HN.out);replace HS := zN (HS.out.below hb);replace HC := zN (HC.out.below hb);replace HK := zN (HK.out.below hb);replace HN := zN (Nat.le_trans HN.out hb.size);replace G3 := zN (blk_below G3.out hb);replace G5 := zN (blk_below G5.out hb);clear HT htv hb;refine hK.out _ _ ⟨(blk_cell HS.out.own 1).trans rfl, (blk_cell G3.out 6).trans rfl, (blk_cell G3.out 7).trans rfl⟩ (fun hHeld => ?_);clear hK K;refine norm_ (a' := ?_) ?_ ?_;rotate_left
    · show Act.put _ (some 65) _ = _
      simp only [zP];rfl
    refine last_ (i := 9) (N := none) #[true, true, true, true, true, true, true, true, true, true] rfl rfl (one_of HT_.out zQ) (by decide) (fun K hK => ?_);have HCC := zN (HC.out.putP HIA.out HZ.out HX.out);refine update_step (by rfl) 64 (.tmp 60) (.tmp 62) (.tmp 65) rfl 9 33 keyedS Tryz.underlying64 HR bp _ _ HS.out.mp (Nat.lt_of_le_of_lt HP.out.np (by decide)) rfl (.string cpo) tv _ rfl rfl (WideMaps.keyOf_string_mk Tryz.underlying9 (s := cpo) HZ.out) (.held tv) [] rfl (fun w6 hm ht => ?_);replace HS := zN (HS.out.turnP HD.out hm ht);replace HC := zN (HC.out.turned ht);replace HK := zN (KeepW.turned HK.out ht (.inl rfl));replace HN := zN (size_turned HN.out ht);replace G3 := zN (turned_cells ht G3.out);replace G5 := zN (turned_cells ht G5.out);replace HX := zN (R_turned HX.out ht);replace HCC := zN (HCC.out.turned ht);clear hm ht;refine hK.out _ _ ?_;clear hK K;refine done_ (done_of HT_.out zQ) ?_;clear HT_;clear hHeld;have HPP := zN (HP.out.putP (x := tv) HTA.out HZZ.out.2.2 HTT.out.2.1 HTT.out.2.2 HPN.out);go_wp2_with ((go_at_call 39; refine (storeBytes_ok HS.out HCC.out HPP.out).mono ?_; rintro e wq ⟨Aq, nq, cq, rfl, hnq, hb⟩; replace HS := zN (HS.out.below hb); replace HC := zN (HC.out.below hb); replace HK := zN (HK.out.below hb); replace HN := zN (Nat.le_trans HN.out hb.size); replace G3 := zN (blk_below G3.out hb); replace G5 := zN (blk_below G5.out hb); replace HX := zN (Kd.R_below HX.out hb); replace HCC := zN (HCC.out.below hb); clear hb hnq));rotate_left
    · go_ret;exact ActPost.good HK.out HS.out HCC.out HPP.out
    have HSZ := zN (Nat.le_trans (Nat.le_trans (Nat.le_add_right _ _) (Nat.le_of_eq (size_del (k := (.string cpo.data.toList : Lit)) (HS.out.mp.tidy keyedS)))) HPP.out.np);clear HCC HPP HX;replace HS := zN HS.out.drew;replace HC := zN HC.out.drew;replace HK := zN HK.out.drew;replace HN := zN (size_drew HN.out);replace G3 := zN (blk_drew G3.out);replace G5 := zN (blk_drew G5.out);refine start_ (n := 7) (S := fun w' => w' = wq.drew) (ds := [6]) #[false, false, false, false, false, false, false] zQ rfl rfl rfl (fun hHeld => ?_);refine with_tab (T := ac_T13) ac_T13_is (fun HT_ => ?_);generalize wq.drew = wd2 at HS HC HK HN G3 G5 hHeld ⊢;have m1 : wd2.cell? ⟨gs, 1, none⟩ = some (.map (some bp)) := (blk_cell HS.out.own 1).trans rfl;have e6 : wd2.cell? ⟨g3, 6, none⟩ = some (.string cpo) := (blk_cell G3.out 6).trans rfl;refine zU (i := 0) (N := some 70) #[true, false, false, false, false, false, false] rfl rfl HT_ ?_;refine zU (i := 1) (N := some 71) #[true, true, false, false, false, false, false] rfl rfl HT_ ?_;refine zU (i := 2) (N := some 72) #[true, true, true, false, false, false, false] rfl rfl HT_ ?_;refine take_ (i := 3) (N := some 73) (v := ?_) (a' := ?_) #[true, true, true, true, false, false, false] rfl rfl (take_of HT_.out zQ) (fun _ _ _ h => h) (Or.inl ⟨by rfl, ?_⟩) hHeld ?_ ?_;rotate_left
    · rintro w' rfl;go_simp
      with_reducible rfl
    rotate_left
    · simp only [zP];rfl
    refine zU (i := 4) (N := some 74) #[true, true, true, true, true, false, false] rfl rfl HT_ ?_;refine take_ (i := 5) (N := some 75) (v := ?_) (a' := ?_) #[true, true, true, true, true, true, false] rfl rfl (take_of HT_.out zQ) (fun _ _ _ h => h) (Or.inl ⟨by rfl, ?_⟩) hHeld ?_ ?_;rotate_left
    · rintro w' rfl;go_simp
      with_reducible rfl
    rotate_left
    · simp only [zP];rfl
    refine last_ (i := 6) (N := none) #[true, true, true, true, true, true, true] rfl rfl (one_of HT_.out zQ) (by decide) (fun K hK => ?_);clear m1 e6;refine delete_step (by rfl) 64 9 (.tmp 73) (.tmp 75) rfl 33 keyedS Tryz.underlying64 HR bp _ _ HS.out.mp rfl (.string cpo) _ rfl (WideMaps.keyOf_string_mk Tryz.underlying9 (s := cpo) HZ.out) (fun w7 hm ht => ?_);replace HS := zN (HS.out.turnP HD.out hm ht);replace HC := zN (HC.out.turned ht);replace HK := zN (KeepW.turned HK.out ht (.inl rfl));replace HN := zN (size_turned HN.out ht);replace G3 := zN (turned_cells ht G3.out);replace G5 := zN (turned_cells ht G5.out);clear hm ht;refine hK.out _ _ ?_;clear hK K;refine done_ (done_of HT_.out zQ) ?_;clear HT_;have HIM := zN HS.out.mp.isMap;have HXA := zN (show ∀ z, DP.atKey (.string cpo.data.toList : Lit) z = .held xv from by obtain ⟨x', h1, _⟩ := HC.out.pools _ HPB.out.symm; have h2 := Hxv.out; rw [h1] at h2; rw [← h2]; exact h1);go_upto_region 15 with (fail)
    replace HS := zN HS.out.drew;replace HC := zN HC.out.drew;replace HK := zN HK.out.drew;replace HN := zN (size_drew HN.out);replace G3 := zN (blk_drew G3.out);replace G5 := zN (blk_drew G5.out);refine start_ (n := 8) (S := fun w' => w' = w7.drew) (ds := [7]) #[false, false, false, false, false, false, false, false] zQ rfl rfl rfl (fun hHeld => ?_);refine with_tab (T := ac_T15) ac_T15_is (fun HT_ => ?_);generalize w7.drew = wd3 at HS HC HK HN G3 G5 hHeld ⊢;have m1 : wd3.cell? ⟨gs, 1, none⟩ = some (.map (some bp)) := (blk_cell HS.out.own 1).trans rfl;have e6 : wd3.cell? ⟨g3, 6, none⟩ = some (.string cpo) := (blk_cell G3.out 6).trans rfl;refine zU (i := 0) (N := some 77) #[true, false, false, false, false, false, false, false] rfl rfl HT_ ?_;refine zU (i := 1) (N := some 78) #[true, true, false, false, false, false, false, false] rfl rfl HT_ ?_;refine zU (i := 2) (N := some 79) #[true, true, true, false, false, false, false, false] rfl rfl HT_ ?_;refine take_ (i := 3) (N := some 80) (v := ?_) (a' := ?_) #[true, true, true, true, false, false, false, false] rfl rfl (take_of HT_.out zQ) (fun _ _ _ h => h) (Or.inl ⟨by rfl, ?_⟩) hHeld ?_ ?_;rotate_left
    · rintro w' rfl;go_simp
      with_reducible rfl
    rotate_left
    · simp only [zP];rfl
    refine zU (i := 4) (N := some 81) #[true, true, true, true, true, false, false, false] rfl rfl HT_ ?_;refine take_ (i := 5) (N := some 82) (v := ?_) (a' := ?_) #[true, true, true, true, true, true, false, false] rfl rfl (take_of HT_.out zQ) (fun _ _ _ h => h) (Or.inl ⟨by rfl, ?_⟩) hHeld ?_ ?_;rotate_left
    · rintro w' rfl;go_simp
      with_reducible rfl
    rotate_left
    · simp only [zP];rfl
    refine zU (i := 6) (N := some 83) #[true, true, true, true, true, true, true, false] rfl rfl HT_ ?_;refine last_ (i := 7) (N := none) #[true, true, true, true, true, true, true, true] rfl rfl (one_of HT_.out zQ) (by decide) (fun K hK => ?_);clear m1 e6;refine update_step (by rfl) 64 (.tmp 80) (.tmp 82) (.tmp 83) rfl 9 33 keyedS Tryz.underlying64 HR bp _ _ HS.out.mp (Nat.lt_of_le_of_lt HSZ.out (by decide)) rfl (.string cpo) xv _ rfl rfl (WideMaps.keyOf_string_mk Tryz.underlying9 (s := cpo) HZ.out) (.held xv) [] rfl (fun w8 hm ht => ?_);replace HS := zN (HS.out.turnP HD.out hm ht);replace HC := zN (HC.out.turned ht);replace HK := zN (KeepW.turned HK.out ht (.inl rfl));replace HN := zN (size_turned HN.out ht);replace G3 := zN (turned_cells ht G3.out);replace G5 := zN (turned_cells ht G5.out);clear hm ht;refine hK.out _ _ ?_;clear hK K;refine done_ (done_of HT_.out zQ) ?_;clear HT_;go_wp2;go_ret;have hs := HS.out;rw [restore1 (isKeyS HZ.out) HPB.out.symm HXA.out HCA.out (HS.out.mp.canon keyedS) HIM.out] at hs;exact ActPost.bad 6 (by decide) HK.out hs HC.out
  have d1 : decide (ca = 1) = false := zf hca;by_cases hca2 : ca = 2
  · have d2 : decide (ca = 2) = true := zt hca2;go_upto_region 18 with (fail)
    clear hca2 d2;cases pb
    · go_wp2;go_ret;exact ActPost.bad 8 (by decide) HK.out HS.out HC.out
    have m2 : w4.cell? ⟨gs, 2, none⟩ = some (.map (some br)) := (blk_cell HS.out.own 2).trans rfl;go_wp2_with ((at_range; refine wpList_range_own _ rfl _ 65 rfl 84 9 keyedPl Tryz.underlying65 HR br _ DR rfl HS.out.mr ?_; intro w0 hrg0 hg0 hs0));have hb0 := (Below.refl w4.heap.size w4).grown hg0 (zh _) (fun _ h => by cases h);have HR0 := zN hrg0;have HB0 := zN hb0;clear hrg0 hb0 hg0 hs0 m2;go_frame;go_loopg [4, 11] (Maps.size DR) (fun n v4 v11 wr => ∃ left, v4 = .int .i64 0 ∧ Aside0 (wr.ranges Tryz.prog 84 HR br w4.heap.size (Maps.size DR) DR left n) ∧ Aside0 (Below w4.heap.size w4 wr) ∧ Aside0 (∀ x : PK, has DR x.k = true → left x.k = false → (Lit.string (g x).data.toList) ≠ .string cpo.data.toList))
    case atStart => exact ⟨_, rfl, HR0, HB0, ⟨fun x h1 h2 => by rw [h1] at h2; cases h2⟩⟩
    case round =>
      clear HR0 HB0;obtain ⟨left, rfl, HR0, HB0, HNO⟩ := hrel;go_wp2_with ((at_next; refine wpList_next_ranges _ rfl _ rfl 84 keyedPl HR PK.v id (fun key kl hk => by obtain ⟨a, b, rfl, ha, hb, _⟩ := plK_inv hk; exact ⟨⟨a, b, ha, hb⟩, rfl⟩) (fun v _ _ => ⟨v, rfl⟩) br w4.heap.size _ _ _ _ rfl HR0.out ?_ ?_));rotate_left
      · intro x c kl yd yp w2 cnt2 hkey hlk hv1 hv2 hat hrg2 hlt hg2 hs2 hen;obtain rfl : kl = x.k := zo (hkey.symm.trans (plK_is x.ha x.hb));have hhas : has DR x.k = true := has_true_of_atKey hat
        obtain rfl : c = .string (g x) := by have h1 := hv1; rw [← hat (.held (.string ⟨#[]⟩)), HC.out.routes x hhas] at h1; injection h1 with h1
        have hb2 := HB0.out.grown hg2 HB0.out.size (fun _ e => by cases e; exact zh _);have hc6 : w2.cell? ⟨g3, 6, none⟩ = some (.string cpo) := (blk_cell (blk_below G3.out hb2) 6).trans rfl;have HNO2 := Aside0.mk (fun hne => fun y h1 h2 => by
          by_cases e : y.k = x.k
          · rw [PK.inj e]; exact hne
          refine HNO.out y h1 ?_;rw [sameKey_ne e] at h2; simpa using h2 : (Lit.string (g x).data.toList) ≠ .string cpo.data.toList → ∀ y : PK, has DR y.k = true → (left y.k && !y.k.sameKey x.k) = false → (Lit.string (g y).data.toList) ≠ .string cpo.data.toList)
        have HR2 := zN hrg2;have HB2 := zN hb2;have HLT := zN hlt;clear hrg2 hb2 hlt hg2 hs2 hkey hlk hv1 hv2 hat hhas HNO;have hxv : x.v = .agg #[.string x.a, .string x.b] := rfl;rw [hxv] at hen ⊢;clear hxv;cases d3 : ((g x).toList == cpo.toList)
        · go_wp2;go_roundg cnt2
          case measure => exact HLT.out
          case rel => exact ⟨_, rfl, HR2, HB2, ⟨HNO2.out (fun e => by injection e with e; rw [show g x = cpo from ByteArray.ext (Array.toList_inj.1 e)] at d3; simp at d3)⟩⟩
        go_wp2;have hb := HB2.out;replace HS := zN (HS.out.below hb);replace HC := zN (HC.out.below hb);replace HK := zN (HK.out.below hb);replace HN := zN (Nat.le_trans HN.out hb.size);replace HT := zN (Kd.C_below HT.out hb);replace G3 := zN (blk_below G3.out hb);replace G5 := zN (blk_below G5.out hb);clear hb;go_ret;exact ActPost.bad 13 (by decide) HK.out HS.out HC.out
      intro hc0 hl0;have HNO2 := zN (fun x h1 => HNO.out x h1 (hl0 _) : ∀ x : PK, has DR x.k = true → (Lit.string (g x).data.toList) ≠ .string cpo.data.toList);have hb := HB0.out;clear hc0 hl0 HNO;replace HS := zN (HS.out.below hb);replace HC := zN (HC.out.below hb);replace HK := zN (HK.out.below hb);replace HN := zN (Nat.le_trans HN.out hb.size);replace HT := zN (Kd.C_below HT.out hb);replace G3 := zN (blk_below G3.out hb);replace G5 := zN (blk_below G5.out hb);clear hb HB0 HR0;go_upto_region 25 with (fail)
      clear HT;replace HS := zN HS.out.drew;replace HC := zN HC.out.drew;replace HK := zN HK.out.drew;replace HN := zN (size_drew HN.out);replace G3 := zN (blk_drew G3.out);replace G5 := zN (blk_drew G5.out);refine start_ (n := 7) (S := fun w' => w' = wr.drew) (ds := [6]) #[false, false, false, false, false, false, false] zQ rfl rfl rfl (fun hHeld => ?_);refine with_tab (T := ac_T25) ac_T25_is (fun HT_ => ?_);generalize wr.drew = wd at HS HC HK HN G3 G5 hHeld ⊢;have m1 : wd.cell? ⟨gs, 1, none⟩ = some (.map (some bp)) := (blk_cell HS.out.own 1).trans rfl;have e6 : wd.cell? ⟨g3, 6, none⟩ = some (.string cpo) := (blk_cell G3.out 6).trans rfl;refine zU (i := 0) (N := some 101) #[true, false, false, false, false, false, false] rfl rfl HT_ ?_;refine zU (i := 1) (N := some 102) #[true, true, false, false, false, false, false] rfl rfl HT_ ?_;refine zU (i := 2) (N := some 103) #[true, true, true, false, false, false, false] rfl rfl HT_ ?_;refine take_ (i := 3) (N := some 104) (v := ?_) (a' := ?_) #[true, true, true, true, false, false, false] rfl rfl (take_of HT_.out zQ) (fun _ _ _ h => h) (Or.inl ⟨by rfl, ?_⟩) hHeld ?_ ?_;rotate_left
      · rintro w' rfl;go_simp
        with_reducible rfl
      rotate_left
      · simp only [zP];rfl
      refine zU (i := 4) (N := some 105) #[true, true, true, true, true, false, false] rfl rfl HT_ ?_;refine take_ (i := 5) (N := some 106) (v := ?_) (a' := ?_) #[true, true, true, true, true, true, false] rfl rfl (take_of HT_.out zQ) (fun _ _ _ h => h) (Or.inl ⟨by rfl, ?_⟩) hHeld ?_ ?_;rotate_left
      · rintro w' rfl;go_simp
        with_reducible rfl
      rotate_left
      · simp only [zP];rfl
      refine last_ (i := 6) (N := none) #[true, true, true, true, true, true, true] rfl rfl (one_of HT_.out zQ) (by decide) (fun K hK => ?_);clear m1 e6;have HCC := zN (HC.out.delP (.string cpo.data.toList : Lit));refine delete_step (by rfl) 64 9 (.tmp 104) (.tmp 106) rfl 33 keyedS Tryz.underlying64 HR bp _ _ HS.out.mp rfl (.string cpo) _ rfl (WideMaps.keyOf_string_mk Tryz.underlying9 (s := cpo) HZ.out) (fun w7 hm ht => ?_);replace HS := zN (HS.out.turnP HD.out hm ht);replace HC := zN (HC.out.turned ht);replace HK := zN (KeepW.turned HK.out ht (.inl rfl));replace HN := zN (size_turned HN.out ht);replace G3 := zN (turned_cells ht G3.out);replace G5 := zN (turned_cells ht G5.out);replace HCC := zN (HCC.out.turned ht);clear hm ht;refine hK.out _ _ ?_;clear hK K;refine done_ (done_of HT_.out zQ) ?_;clear HT_;go_wp2;go_ret;exact ActPost.good HK.out HS.out HCC.out (HP.out.delP HTA.out HNO2.out)
  have d2 : decide (ca = 2) = false := zf hca2;by_cases hca3 : ca = 3
  · have d3 : decide (ca = 3) = true := zt hca3;go_upto_region 27 with (fail)
    cases pb
    · go_wp2;go_ret;exact ActPost.bad 8 (by decide) HK.out HS.out HC.out
    go_upto_region 29 with (fail)
    cases rb
    · have m2 : w4.cell? ⟨gs, 2, none⟩ = some (.map (some br)) := (blk_cell HS.out.own 2).trans rfl;by_cases hlt : 64 ≤ Maps.size DR
      · have d4 : decide ((64 : Int) ≤ (Maps.size DR : Int)) = true := zt zO;have hln := HS.out.mr.len Tryz.underlying65 3;go_wp2;go_ret;exact ActPost.bad 6 (by decide) HK.out HS.out HC.out
      have d4 : decide ((64 : Int) ≤ (Maps.size DR : Int)) = false := zf zO;have hsz : Maps.size DR < 200 := by omega
      have HPN := zN (.inr hsz : has DR X.k = true ∨ Maps.size DR < 200);have hln := HS.out.mr.len Tryz.underlying65 3;go_upto_region 31 with (fail)
      clear m2 d4 hlt hln hsz;clear HT;replace HS := zN HS.out.drew;replace HC := zN HC.out.drew;replace HK := zN HK.out.drew;replace HN := zN (size_drew HN.out);replace G3 := zN (blk_drew G3.out);replace G5 := zN (blk_drew G5.out);refine start_ (n := 8) (S := fun w' => w' = w4.drew) (ds := [7]) #[false, false, false, false, false, false, false, false] zQ rfl rfl rfl (fun hHeld => ?_);refine with_tab (T := ac_T31) ac_T31_is (fun HT_ => ?_);generalize w4.drew = wd at HS HC HK HN G3 G5 hHeld ⊢;have m2 : wd.cell? ⟨gs, 2, none⟩ = some (.map (some br)) := (blk_cell HS.out.own 2).trans rfl;have e6 : wd.cell? ⟨g3, 6, none⟩ = some (.string cpo) := (blk_cell G3.out 6).trans rfl;have p0 : wd.cell? ⟨g5, 0, none⟩ = some (.string X.a) := (blk_cell G5.out 0).trans rfl;have p1 : wd.cell? ⟨g5, 1, none⟩ = some (.string X.b) := (blk_cell G5.out 1).trans rfl;refine zU (i := 0) (N := some 121) #[true, false, false, false, false, false, false, false] rfl rfl HT_ ?_;refine zU (i := 1) (N := some 122) #[true, true, false, false, false, false, false, false] rfl rfl HT_ ?_;refine zU (i := 2) (N := some 123) #[true, true, true, false, false, false, false, false] rfl rfl HT_ ?_;refine take_ (i := 3) (N := some 124) (v := ?_) (a' := ?_) #[true, true, true, true, false, false, false, false] rfl rfl (take_of HT_.out zQ) (fun _ _ _ h => h) (Or.inl ⟨by rfl, ?_⟩) hHeld ?_ ?_;rotate_left
      · rintro w' rfl;go_simp
        with_reducible rfl
      rotate_left
      · simp only [zP];rfl
      refine take_ (i := 4) (N := some 125) (v := ?_) (a' := ?_) #[true, true, true, true, true, false, false, false] rfl rfl (take_of HT_.out zQ) (fun _ _ _ h => h) (Or.inl ⟨by rfl, ?_⟩) hHeld ?_ ?_;rotate_left
      · rintro w' rfl;go_simp
        with_reducible rfl
      rotate_left
      · simp only [zP];rfl
      refine zU (i := 5) (N := some 126) #[true, true, true, true, true, true, false, false] rfl rfl HT_ ?_;refine take_ (i := 6) (N := some 127) (v := ?_) (a' := ?_) #[true, true, true, true, true, true, true, false] rfl rfl (take_of HT_.out zQ) (fun _ _ _ h => h) (Or.inl ⟨by rfl, ?_⟩) hHeld ?_ ?_;rotate_left
      · rintro w' rfl;go_simp
        with_reducible rfl
      rotate_left
      · simp only [zP];rfl
      refine last_ (i := 7) (N := none) #[true, true, true, true, true, true, true, true] rfl rfl (one_of HT_.out zQ) (by decide) (fun K hK => ?_);clear m2 e6 p0 p1;have HCC := zN (HC.out.putR HIB.out X cpo);refine update_step (by rfl) 65 (.tmp 124) (.tmp 125) (.tmp 127) rfl 84 9 keyedPl Tryz.underlying65 HR br _ _ HS.out.mr (Nat.lt_of_le_of_lt HP.out.nr (by decide)) rfl (.agg #[.string X.a, .string X.b]) (.string cpo) _ rfl rfl (PK.is X) (.held (.string cpo)) [] rfl (fun w6 hm ht => ?_);replace HS := zN (HS.out.turnR HD.out hm ht);replace HC := zN (HC.out.turned ht);replace HK := zN (KeepW.turned HK.out ht (.inr rfl));replace HN := zN (size_turned HN.out ht);replace G3 := zN (turned_cells ht G3.out);replace G5 := zN (turned_cells ht G5.out);replace HCC := zN (HCC.out.turned ht);clear hm ht;refine hK.out _ _ ?_;clear hK K;refine done_ (done_of HT_.out zQ) ?_;clear HT_;have HPP := zN (HP.out.putR HTB.out ⟨HZZ.out.1, HZZ.out.2.1⟩ HZZ.out.2.2 HPB.out.symm HPN.out);go_wp2_with ((go_at_call 39; refine (storeBytes_ok HS.out HCC.out HPP.out).mono ?_; rintro e wq ⟨Aq, nq, cq, rfl, hnq, hb⟩; replace HS := zN (HS.out.below hb); replace HC := zN (HC.out.below hb); replace HK := zN (HK.out.below hb); replace HN := zN (Nat.le_trans HN.out hb.size); replace G3 := zN (blk_below G3.out hb); replace G5 := zN (blk_below G5.out hb); replace HCC := zN (HCC.out.below hb); clear hb hnq));rotate_left
      · go_ret;exact ActPost.good HK.out HS.out HCC.out HPP.out
      have HSZ := zN (Nat.le_trans (Nat.le_trans (Nat.le_add_right _ _) (Nat.le_of_eq (size_del (k := X.k) (HS.out.mr.tidy keyedPl)))) HPP.out.nr);clear HCC HPP;replace HS := zN HS.out.drew;replace HC := zN HC.out.drew;replace HK := zN HK.out.drew;replace HN := zN (size_drew HN.out);replace G3 := zN (blk_drew G3.out);replace G5 := zN (blk_drew G5.out);refine start_ (n := 6) (S := fun w' => w' = wq.drew) (ds := [5]) #[false, false, false, false, false, false] zQ rfl rfl rfl (fun hHeld => ?_);refine with_tab (T := ac_T33) ac_T33_is (fun HT_ => ?_);generalize wq.drew = wd2 at HS HC HK HN G3 G5 hHeld ⊢;have m2 : wd2.cell? ⟨gs, 2, none⟩ = some (.map (some br)) := (blk_cell HS.out.own 2).trans rfl;have p0 : wd2.cell? ⟨g5, 0, none⟩ = some (.string X.a) := (blk_cell G5.out 0).trans rfl;have p1 : wd2.cell? ⟨g5, 1, none⟩ = some (.string X.b) := (blk_cell G5.out 1).trans rfl;refine zU (i := 0) (N := some 132) #[true, false, false, false, false, false] rfl rfl HT_ ?_;refine zU (i := 1) (N := some 133) #[true, true, false, false, false, false] rfl rfl HT_ ?_;refine zU (i := 2) (N := some 134) #[true, true, true, false, false, false] rfl rfl HT_ ?_;refine take_ (i := 3) (N := some 135) (v := ?_) (a' := ?_) #[true, true, true, true, false, false] rfl rfl (take_of HT_.out zQ) (fun _ _ _ h => h) (Or.inl ⟨by rfl, ?_⟩) hHeld ?_ ?_;rotate_left
      · rintro w' rfl;go_simp
        with_reducible rfl
      rotate_left
      · simp only [zP];rfl
      refine take_ (i := 4) (N := some 136) (v := ?_) (a' := ?_) #[true, true, true, true, true, false] rfl rfl (take_of HT_.out zQ) (fun _ _ _ h => h) (Or.inl ⟨by rfl, ?_⟩) hHeld ?_ ?_;rotate_left
      · rintro w' rfl;go_simp
        with_reducible rfl
      rotate_left
      · simp only [zP];rfl
      refine last_ (i := 5) (N := none) #[true, true, true, true, true, true] rfl rfl (one_of HT_.out zQ) (by decide) (fun K hK => ?_);clear m2 p0 p1;refine delete_step (by rfl) 65 84 (.tmp 135) (.tmp 136) rfl 9 keyedPl Tryz.underlying65 HR br _ _ HS.out.mr rfl (.agg #[.string X.a, .string X.b]) _ rfl (PK.is X) (fun w7 hm ht => ?_);replace HS := zN (HS.out.turnR HD.out hm ht);replace HC := zN (HC.out.turned ht);replace HK := zN (KeepW.turned HK.out ht (.inr rfl));replace HN := zN (size_turned HN.out ht);replace G3 := zN (turned_cells ht G3.out);replace G5 := zN (turned_cells ht G5.out);clear hm ht;refine hK.out _ _ ?_;clear hK K;refine done_ (done_of HT_.out zQ) ?_;clear HT_;go_wp2;go_ret;have hs := HS.out;rw [restore0 HRB.out.symm HCB.out (HS.out.mr.canon keyedPl)] at hs;exact ActPost.bad 6 (by decide) HK.out hs HC.out
    have HPN := zN (.inl HRB.out.symm : has DR X.k = true ∨ Maps.size DR < 200);go_upto_region 31 with (fail)
    clear HT;replace HS := zN HS.out.drew;replace HC := zN HC.out.drew;replace HK := zN HK.out.drew;replace HN := zN (size_drew HN.out);replace G3 := zN (blk_drew G3.out);replace G5 := zN (blk_drew G5.out);refine start_ (n := 8) (S := fun w' => w' = w4.drew) (ds := [7]) #[false, false, false, false, false, false, false, false] zQ rfl rfl rfl (fun hHeld => ?_);refine with_tab (T := ac_T31) ac_T31_is (fun HT_ => ?_);generalize w4.drew = wd at HS HC HK HN G3 G5 hHeld ⊢;have m2 : wd.cell? ⟨gs, 2, none⟩ = some (.map (some br)) := (blk_cell HS.out.own 2).trans rfl;have e6 : wd.cell? ⟨g3, 6, none⟩ = some (.string cpo) := (blk_cell G3.out 6).trans rfl;have p0 : wd.cell? ⟨g5, 0, none⟩ = some (.string X.a) := (blk_cell G5.out 0).trans rfl;have p1 : wd.cell? ⟨g5, 1, none⟩ = some (.string X.b) := (blk_cell G5.out 1).trans rfl;refine zU (i := 0) (N := some 121) #[true, false, false, false, false, false, false, false] rfl rfl HT_ ?_;refine zU (i := 1) (N := some 122) #[true, true, false, false, false, false, false, false] rfl rfl HT_ ?_;refine zU (i := 2) (N := some 123) #[true, true, true, false, false, false, false, false] rfl rfl HT_ ?_;refine take_ (i := 3) (N := some 124) (v := ?_) (a' := ?_) #[true, true, true, true, false, false, false, false] rfl rfl (take_of HT_.out zQ) (fun _ _ _ h => h) (Or.inl ⟨by rfl, ?_⟩) hHeld ?_ ?_;rotate_left
    · rintro w' rfl;go_simp
      with_reducible rfl
    rotate_left
    · simp only [zP];rfl
    refine take_ (i := 4) (N := some 125) (v := ?_) (a' := ?_) #[true, true, true, true, true, false, false, false] rfl rfl (take_of HT_.out zQ) (fun _ _ _ h => h) (Or.inl ⟨by rfl, ?_⟩) hHeld ?_ ?_;rotate_left
    · rintro w' rfl;go_simp
      with_reducible rfl
    rotate_left
    · simp only [zP];rfl
    refine zU (i := 5) (N := some 126) #[true, true, true, true, true, true, false, false] rfl rfl HT_ ?_;refine take_ (i := 6) (N := some 127) (v := ?_) (a' := ?_) #[true, true, true, true, true, true, true, false] rfl rfl (take_of HT_.out zQ) (fun _ _ _ h => h) (Or.inl ⟨by rfl, ?_⟩) hHeld ?_ ?_;rotate_left
    · rintro w' rfl;go_simp
      with_reducible rfl
    rotate_left
    · simp only [zP];rfl
    refine last_ (i := 7) (N := none) #[true, true, true, true, true, true, true, true] rfl rfl (one_of HT_.out zQ) (by decide) (fun K hK => ?_);clear m2 e6 p0 p1;have HCC := zN (HC.out.putR HIB.out X cpo);refine update_step (by rfl) 65 (.tmp 124) (.tmp 125) (.tmp 127) rfl 84 9 keyedPl Tryz.underlying65 HR br _ _ HS.out.mr (Nat.lt_of_le_of_lt HP.out.nr (by decide)) rfl (.agg #[.string X.a, .string X.b]) (.string cpo) _ rfl rfl (PK.is X) (.held (.string cpo)) [] rfl (fun w6 hm ht => ?_);replace HS := zN (HS.out.turnR HD.out hm ht);replace HC := zN (HC.out.turned ht);replace HK := zN (KeepW.turned HK.out ht (.inr rfl));replace HN := zN (size_turned HN.out ht);replace G3 := zN (turned_cells ht G3.out);replace G5 := zN (turned_cells ht G5.out);replace HCC := zN (HCC.out.turned ht);clear hm ht;refine hK.out _ _ ?_;clear hK K;refine done_ (done_of HT_.out zQ) ?_;clear HT_;have HPP := zN (HP.out.putR HTB.out ⟨HZZ.out.1, HZZ.out.2.1⟩ HZZ.out.2.2 HPB.out.symm HPN.out);go_wp2_with ((go_at_call 39; refine (storeBytes_ok HS.out HCC.out HPP.out).mono ?_; rintro e wq ⟨Aq, nq, cq, rfl, hnq, hb⟩; replace HS := zN (HS.out.below hb); replace HC := zN (HC.out.below hb); replace HK := zN (HK.out.below hb); replace HN := zN (Nat.le_trans HN.out hb.size); replace G3 := zN (blk_below G3.out hb); replace G5 := zN (blk_below G5.out hb); replace HCC := zN (HCC.out.below hb); clear hb hnq));rotate_left
    · go_ret;exact ActPost.good HK.out HS.out HCC.out HPP.out
    have HSZ := zN (Nat.le_trans (Nat.le_trans (Nat.le_add_right _ _) (Nat.le_of_eq (size_del (k := X.k) (HS.out.mr.tidy keyedPl)))) HPP.out.nr);clear HCC HPP;replace HS := zN HS.out.drew;replace HC := zN HC.out.drew;replace HK := zN HK.out.drew;replace HN := zN (size_drew HN.out);replace G3 := zN (blk_drew G3.out);replace G5 := zN (blk_drew G5.out);refine start_ (n := 6) (S := fun w' => w' = wq.drew) (ds := [5]) #[false, false, false, false, false, false] zQ rfl rfl rfl (fun hHeld => ?_);refine with_tab (T := ac_T33) ac_T33_is (fun HT_ => ?_);generalize wq.drew = wd2 at HS HC HK HN G3 G5 hHeld ⊢;have m2 : wd2.cell? ⟨gs, 2, none⟩ = some (.map (some br)) := (blk_cell HS.out.own 2).trans rfl;have p0 : wd2.cell? ⟨g5, 0, none⟩ = some (.string X.a) := (blk_cell G5.out 0).trans rfl;have p1 : wd2.cell? ⟨g5, 1, none⟩ = some (.string X.b) := (blk_cell G5.out 1).trans rfl;refine zU (i := 0) (N := some 132) #[true, false, false, false, false, false] rfl rfl HT_ ?_;refine zU (i := 1) (N := some 133) #[true, true, false, false, false, false] rfl rfl HT_ ?_;refine zU (i := 2) (N := some 134) #[true, true, true, false, false, false] rfl rfl HT_ ?_;refine take_ (i := 3) (N := some 135) (v := ?_) (a' := ?_) #[true, true, true, true, false, false] rfl rfl (take_of HT_.out zQ) (fun _ _ _ h => h) (Or.inl ⟨by rfl, ?_⟩) hHeld ?_ ?_;rotate_left
    · rintro w' rfl;go_simp
      with_reducible rfl
    rotate_left
    · simp only [zP];rfl
    refine take_ (i := 4) (N := some 136) (v := ?_) (a' := ?_) #[true, true, true, true, true, false] rfl rfl (take_of HT_.out zQ) (fun _ _ _ h => h) (Or.inl ⟨by rfl, ?_⟩) hHeld ?_ ?_;rotate_left
    · rintro w' rfl;go_simp
      with_reducible rfl
    rotate_left
    · simp only [zP];rfl
    refine last_ (i := 5) (N := none) #[true, true, true, true, true, true] rfl rfl (one_of HT_.out zQ) (by decide) (fun K hK => ?_);clear m2 p0 p1;refine delete_step (by rfl) 65 84 (.tmp 135) (.tmp 136) rfl 9 keyedPl Tryz.underlying65 HR br _ _ HS.out.mr rfl (.agg #[.string X.a, .string X.b]) _ rfl (PK.is X) (fun w7 hm ht => ?_);replace HS := zN (HS.out.turnR HD.out hm ht);replace HC := zN (HC.out.turned ht);replace HK := zN (KeepW.turned HK.out ht (.inr rfl));replace HN := zN (size_turned HN.out ht);replace G3 := zN (turned_cells ht G3.out);replace G5 := zN (turned_cells ht G5.out);clear hm ht;refine hK.out _ _ ?_;clear hK K;refine done_ (done_of HT_.out zQ) ?_;clear HT_;have HIM := zN HS.out.mr.isMap;have HXA := zN (show ∀ z, DR.atKey X.k z = .held yv from by have h1 := HC.out.routes X HRB.out.symm; have h2 := Hyv.out; rw [h1] at h2; rw [← h2]; exact h1);go_upto_region 35 with (fail)
    replace HS := zN HS.out.drew;replace HC := zN HC.out.drew;replace HK := zN HK.out.drew;replace HN := zN (size_drew HN.out);replace G3 := zN (blk_drew G3.out);replace G5 := zN (blk_drew G5.out);refine start_ (n := 7) (S := fun w' => w' = w7.drew) (ds := [6]) #[false, false, false, false, false, false, false] zQ rfl rfl rfl (fun hHeld => ?_);refine with_tab (T := ac_T35) ac_T35_is (fun HT_ => ?_);generalize w7.drew = wd3 at HS HC HK HN G3 G5 hHeld ⊢;have m2 : wd3.cell? ⟨gs, 2, none⟩ = some (.map (some br)) := (blk_cell HS.out.own 2).trans rfl;have p0 : wd3.cell? ⟨g5, 0, none⟩ = some (.string X.a) := (blk_cell G5.out 0).trans rfl;have p1 : wd3.cell? ⟨g5, 1, none⟩ = some (.string X.b) := (blk_cell G5.out 1).trans rfl;refine zU (i := 0) (N := some 138) #[true, false, false, false, false, false, false] rfl rfl HT_ ?_;refine zU (i := 1) (N := some 139) #[true, true, false, false, false, false, false] rfl rfl HT_ ?_;refine zU (i := 2) (N := some 140) #[true, true, true, false, false, false, false] rfl rfl HT_ ?_;refine take_ (i := 3) (N := some 141) (v := ?_) (a' := ?_) #[true, true, true, true, false, false, false] rfl rfl (take_of HT_.out zQ) (fun _ _ _ h => h) (Or.inl ⟨by rfl, ?_⟩) hHeld ?_ ?_;rotate_left
    · rintro w' rfl;go_simp
      with_reducible rfl
    rotate_left
    · simp only [zP];rfl
    refine take_ (i := 4) (N := some 142) (v := ?_) (a' := ?_) #[true, true, true, true, true, false, false] rfl rfl (take_of HT_.out zQ) (fun _ _ _ h => h) (Or.inl ⟨by rfl, ?_⟩) hHeld ?_ ?_;rotate_left
    · rintro w' rfl;go_simp
      with_reducible rfl
    rotate_left
    · simp only [zP];rfl
    refine zU (i := 5) (N := some 143) #[true, true, true, true, true, true, false] rfl rfl HT_ ?_;refine last_ (i := 6) (N := none) #[true, true, true, true, true, true, true] rfl rfl (one_of HT_.out zQ) (by decide) (fun K hK => ?_);clear m2 p0 p1;refine update_step (by rfl) 65 (.tmp 141) (.tmp 142) (.tmp 143) rfl 84 9 keyedPl Tryz.underlying65 HR br _ _ HS.out.mr (Nat.lt_of_le_of_lt HSZ.out (by decide)) rfl (.agg #[.string X.a, .string X.b]) yv _ rfl rfl (PK.is X) (.held yv) [] rfl (fun w8 hm ht => ?_);replace HS := zN (HS.out.turnR HD.out hm ht);replace HC := zN (HC.out.turned ht);replace HK := zN (KeepW.turned HK.out ht (.inr rfl));replace HN := zN (size_turned HN.out ht);replace G3 := zN (turned_cells ht G3.out);replace G5 := zN (turned_cells ht G5.out);clear hm ht;refine hK.out _ _ ?_;clear hK K;refine done_ (done_of HT_.out zQ) ?_;clear HT_;go_wp2;go_ret;have hs := HS.out;rw [restore1 X.isKey HRB.out.symm HXA.out HCB.out (HS.out.mr.canon keyedPl) HIM.out] at hs;exact ActPost.bad 6 (by decide) HK.out hs HC.out
  have d3 : decide (ca = 3) = false := zf hca3;go_upto_region 5 with (fail)
  cases rb
  · go_wp2;go_ret;exact ActPost.bad 8 (by decide) HK.out HS.out HC.out
  go_upto_region 7 with (fail)
  clear HT;replace HS := zN HS.out.drew;replace HC := zN HC.out.drew;replace HK := zN HK.out.drew;replace HN := zN (size_drew HN.out);replace G3 := zN (blk_drew G3.out);replace G5 := zN (blk_drew G5.out);refine start_ (n := 6) (S := fun w' => w' = w4.drew) (ds := [5]) #[false, false, false, false, false, false] zQ rfl rfl rfl (fun hHeld => ?_);refine with_tab (T := ac_T7) ac_T7_is (fun HT_ => ?_);generalize w4.drew = wd at HS HC HK HN G3 G5 hHeld ⊢;have m2 : wd.cell? ⟨gs, 2, none⟩ = some (.map (some br)) := (blk_cell HS.out.own 2).trans rfl;have p0 : wd.cell? ⟨g5, 0, none⟩ = some (.string X.a) := (blk_cell G5.out 0).trans rfl;have p1 : wd.cell? ⟨g5, 1, none⟩ = some (.string X.b) := (blk_cell G5.out 1).trans rfl;refine zU (i := 0) (N := some 40) #[true, false, false, false, false, false] rfl rfl HT_ ?_;refine zU (i := 1) (N := some 41) #[true, true, false, false, false, false] rfl rfl HT_ ?_;refine zU (i := 2) (N := some 42) #[true, true, true, false, false, false] rfl rfl HT_ ?_;refine take_ (i := 3) (N := some 43) (v := ?_) (a' := ?_) #[true, true, true, true, false, false] rfl rfl (take_of HT_.out zQ) (fun _ _ _ h => h) (Or.inl ⟨by rfl, ?_⟩) hHeld ?_ ?_;rotate_left
  · rintro w' rfl;go_simp
    with_reducible rfl
  rotate_left
  · simp only [zP];rfl
  refine take_ (i := 4) (N := some 44) (v := ?_) (a' := ?_) #[true, true, true, true, true, false] rfl rfl (take_of HT_.out zQ) (fun _ _ _ h => h) (Or.inl ⟨by rfl, ?_⟩) hHeld ?_ ?_;rotate_left
  · rintro w' rfl;go_simp
    with_reducible rfl
  rotate_left
  · simp only [zP];rfl
  refine last_ (i := 5) (N := none) #[true, true, true, true, true, true] rfl rfl (one_of HT_.out zQ) (by decide) (fun K hK => ?_);clear m2 p0 p1;have HCC := zN (HC.out.delR X.k);refine delete_step (by rfl) 65 84 (.tmp 43) (.tmp 44) rfl 9 keyedPl Tryz.underlying65 HR br _ _ HS.out.mr rfl (.agg #[.string X.a, .string X.b]) _ rfl (PK.is X) (fun w7 hm ht => ?_);replace HS := zN (HS.out.turnR HD.out hm ht);replace HC := zN (HC.out.turned ht);replace HK := zN (KeepW.turned HK.out ht (.inr rfl));replace HN := zN (size_turned HN.out ht);replace G3 := zN (turned_cells ht G3.out);replace G5 := zN (turned_cells ht G5.out);replace HCC := zN (HCC.out.turned ht);clear hm ht;refine hK.out _ _ ?_;clear hK K;refine done_ (done_of HT_.out zQ) ?_;clear HT_;go_wp2;go_ret;exact ActPost.good HK.out HS.out HCC.out (HP.out.delR HTB.out X.k)
open Go.RowKit Go.Proofs.YtpigfccpogmeaaaGreatDoorW.PrintWords Go.Proofs.YtpigfccpogmeaaaGreatDoorW.PrintLast Go.Proofs.YtpigfccpogmeaaaGreatDoorW.PrintMore
def small_.f (a0 : Int) : Option (Bool) := if a0 ≥ 97 then (if a0 ≤ 122 then (some true) else (if a0 ≥ 48 then (if a0 ≤ 57 then (some true) else (some (a0 == 45))) else (some (a0 == 45)))) else (if a0 ≥ 48 then (if a0 ≤ 57 then (some true) else (some (a0 == 45))) else (some (a0 == 45)))
set_option maxHeartbeats 8000000 in
set_option maxRecDepth 100000 in
theorem small_.calls (a0 : Int) (r : Bool) (w : World) (h : small_.f a0 = some r) :
    Calls Tryz.prog 64 #[.int .u8 a0] w fun e w' => e = .returned (.bool r) ∧ Drawn0 w w' := by
  have H : (if a0 ≥ 97 then (if a0 ≤ 122 then (some true) else (if a0 ≥ 48 then (if a0 ≤ 57 then (some true) else (some (a0 == 45))) else (some (a0 == 45)))) else (if a0 ≥ 48 then (if a0 ≤ 57 then (some true) else (some (a0 == 45))) else (some (a0 == 45)))) = some r := h;clear h;by_cases c2 : a0 ≥ 97;rotate_left
  · rw [zn c2] at H;have c2b0 : decide (97 ≤ a0) = false := zf c2;clear c2;by_cases c6 : a0 ≥ 48;rotate_left
    · rw [zn c6] at H;have c6b0 : decide (48 ≤ a0) = false := zf c6;clear c6;obtain rfl := zo H;go_enter Tryz.func64, Tryz.ntmps64;go_wp2;go_ret;exact ⟨zI, zD⟩
    rw [zp c6] at H;have c6b0 : decide (48 ≤ a0) = true := zt c6;clear c6;by_cases c7 : a0 ≤ 57
    · rw [zp c7] at H;have c7b0 := zt c7;clear c7;obtain rfl := zo H;go_enter Tryz.func64, Tryz.ntmps64;go_wp2;go_ret;exact ⟨zI, zD⟩
    rw [zn c7] at H;have c7b0 := zf c7;clear c7;obtain rfl := zo H;go_enter Tryz.func64, Tryz.ntmps64;go_wp2;go_ret;exact ⟨zI, zD⟩
  rw [zp c2] at H;have c2b0 : decide (97 ≤ a0) = true := zt c2;clear c2;by_cases c3 : a0 ≤ 122
  · rw [zp c3] at H;have c3b0 := zt c3;clear c3;obtain rfl := zo H;go_enter Tryz.func64, Tryz.ntmps64;go_wp2;go_ret;exact ⟨zI, zD⟩
  rw [zn c3] at H;have c3b0 := zf c3;clear c3;by_cases c4 : a0 ≥ 48;rotate_left
  · rw [zn c4] at H;have c4b0 : decide (48 ≤ a0) = false := zf c4;clear c4;obtain rfl := zo H;go_enter Tryz.func64, Tryz.ntmps64;go_wp2;go_ret;exact ⟨zI, zD⟩
  rw [zp c4] at H;have c4b0 : decide (48 ≤ a0) = true := zt c4;clear c4;by_cases c5 : a0 ≤ 57
  · rw [zp c5] at H;have c5b0 := zt c5;clear c5;obtain rfl := zo H;go_enter Tryz.func64, Tryz.ntmps64;go_wp2;go_ret;exact ⟨zI, zD⟩
  rw [zn c5] at H;have c5b0 := zf c5;clear c5;obtain rfl := zo H;go_enter Tryz.func64, Tryz.ntmps64;go_wp2;go_ret;exact ⟨zI, zD⟩
theorem conf_each.gen {J : Nat → World → Prop} (f : Nat) (bound : Array Value) (eg : ∀ args w, (callFunc f args).run Tryz.prog w = .ok (.enter f args) w) (p : Nat → Bool) (s : ByteArray) (hs : s.size < 9223372036854775807) (most : Int) (w : World)
    (hcall : ∀ i (hi : i < s.size) W, J i W → Calls Tryz.prog f (#[.int .u8 ((s[i]'hi).toNat : Int)] ++ bound) W fun e W' => e = .returned (.bool (p i)) ∧ J (i + 1) W') (h0 : J 0 w) :
    Calls Tryz.prog 63 #[.string s, .int .i64 most, .func (.func f) #[] bound] w fun e w' => ∃ n, n ≤ s.size ∧ J n w' ∧ (∀ i, i < n - 1 → p i = true) ∧ ((n ≠ 0 ∧ p (n - 1) = false ∧ e = .returned (.bool false)) ∨ (n = s.size ∧ (∀ i, i < n → p i = true) ∧ e = .returned (.bool (decide (0 < s.size) && decide ((s.size : Int) ≤ most))))) := by
  have HC := zN hcall;have H0 := zN h0;have HS := zN hs;clear hcall h0 hs;go_enter Tryz.func63, Tryz.ntmps63;go_wp2;go_loopg [10] (s.size + 1) (fun n v10 wr => ∃ i : Nat, v10 = .int .i64 (i : Int) ∧ Aside0 (i + n = s.size + 1 ∧ i ≤ s.size) ∧ Aside0 (∀ j, j < i → p j = true) ∧ Aside0 (J i wr))
  case atStart => exact ⟨0, rfl, ⟨zO, zO⟩, ⟨fun j hj => by omega⟩, H0⟩
  case round =>
    clear H0;obtain ⟨i, rfl, HN, HP, HJ⟩ := hrel
    rcases Nat.lt_or_ge i s.size with hi | hi
    · have c1 : decide ((i : Int) < (s.size : Int)) = true := zt zO;have c2 := zu (Int.natCast_nonneg i);have c3 := zu (Int.ofNat_lt.mpr hi);have HI := zN hi;obtain ⟨j', hj'⟩ : ∃ j' : Nat, j' = i + 1 := ⟨_, rfl⟩;have hw : wrap64 ((i : Int) + 1) = (j' : Int) := by have := HS.out; subst hj'; unfold wrap64; omega
      have HJ' := zN hj';clear hi hj';go_wp2_with fail;refine (HC.out i HI.out wr HJ.out).mono ?_;rintro e W1 ⟨rfl, hJ⟩;have HJ1 := zN hJ;clear hJ;cases hp : p i with
      | false =>
        have HPI := zN hp;clear hp;go_wp2;go_ret;exact ⟨i + 1, by have := HI.out; omega, HJ1.out, fun j hj => HP.out j zO, .inl ⟨zO, HPI.out, rfl⟩⟩
      | true =>
        have HPI := zN hp;clear hp;go_wp2;go_roundg (s.size - i)
        case measure => have := HN.out; have := HI.out; omega
        case rel =>
          refine ⟨j', zI, ⟨by have := HN.out; have := HI.out; have := HJ'.out; omega⟩, ⟨fun j hj => ?_⟩, ⟨HJ'.out ▸ HJ1.out⟩⟩
          rcases Nat.lt_or_ge j i with h | h
          · exact HP.out j h
          have := HJ'.out;obtain rfl : j = i := by omega
          exact HPI.out
    have c1 : decide ((i : Int) < (s.size : Int)) = false := zf zO;obtain rfl : i = s.size := by have := HN.out; omega
    clear hi
    have fin : ∀ b : Bool, b = (decide (0 < s.size) && decide ((s.size : Int) ≤ most)) → ∃ n, n ≤ s.size ∧ J n wr ∧ (∀ i, i < n - 1 → p i = true) ∧ ((n ≠ 0 ∧ p (n - 1) = false ∧ Ending.returned (.bool b) = Ending.returned (.bool false)) ∨ (n = s.size ∧ (∀ i, i < n → p i = true) ∧ Ending.returned (.bool b) = Ending.returned (.bool (decide (0 < s.size) && decide ((s.size : Int) ≤ most))))) :=
      fun b hb => ⟨s.size, zh _, HJ.out, fun j hj => HP.out j zO, .inr ⟨rfl, HP.out, by rw [hb]⟩⟩
    have FIN := zN fin;clear fin;by_cases h0 : 0 < s.size
    · have d0 : decide (0 < (s.size : Int)) = true := zt zO;have d0n : decide (0 < s.size) = true := zt h0;by_cases h1 : (s.size : Int) ≤ most
      · have d1 : decide ((s.size : Int) ≤ most) = true := zt h1;clear h0 h1;go_wp2;go_ret;exact FIN.out _ (by rw [d0n, d1]; rfl)
      have d1 : decide ((s.size : Int) ≤ most) = false := zf h1;clear h0 h1;go_wp2;go_ret;exact FIN.out _ (by rw [d0n, d1]; rfl)
    have d0 : decide (0 < (s.size : Int)) = false := zf zO;have d0n : decide (0 < s.size) = false := zf h0;clear h0;go_wp2;go_ret;exact FIN.out _ (by rw [d0n]; rfl)
def allI (p : Nat → Bool) (n : Nat) : Bool := (List.range n).all p
theorem allI_true {p : Nat → Bool} {n : Nat} (h : ∀ i, i < n → p i = true) : allI p n = true := by
  unfold allI;rw [List.all_eq_true];exact fun i hi => h i (List.mem_range.1 hi)
theorem allI_false {p : Nat → Bool} {n i : Nat} (hi : i < n) (h : p i = false) : allI p n = false := by
  cases e : allI p n
  · rfl
  unfold allI at e;rw [List.all_eq_true] at e;rw [e i (List.mem_range.2 hi)] at h;cases h
def eachB (p : Nat → Bool) (s : ByteArray) (most : Nat) : Bool := allI p s.size && (decide (0 < s.size) && decide (s.size ≤ most))
theorem conf_each.is {J : Nat → World → Prop} (f : Nat) (bound : Array Value) (eg : ∀ args w, (callFunc f args).run Tryz.prog w = .ok (.enter f args) w) (p : Nat → Bool) (s : ByteArray) (hs : s.size < 9223372036854775807) (most : Nat) (w : World)
    (hcall : ∀ i (hi : i < s.size) W, J i W → Calls Tryz.prog f (#[.int .u8 ((s[i]'hi).toNat : Int)] ++ bound) W fun e W' => e = .returned (.bool (p i)) ∧ J (i + 1) W') (h0 : J 0 w) :
    Calls Tryz.prog 63 #[.string s, .int .i64 (most : Int), .func (.func f) #[] bound] w fun e w' => e = .returned (.bool (eachB p s most)) ∧ ∃ n, n ≤ s.size ∧ J n w' ∧ (eachB p s most = true → n = s.size) := by
  refine (conf_each.gen (J := J) f bound eg p s hs (most : Int) w hcall h0).mono ?_;rintro e w' ⟨n, hn, hJ, hp, ⟨hn0, hpn, rfl⟩ | ⟨rfl, hall, rfl⟩⟩
  · have he : eachB p s most = false := by unfold eachB; rw [allI_false (show n - 1 < s.size by omega) hpn]; rfl
    exact ⟨by rw [he], n, hn, hJ, fun h => by rw [he] at h; cases h⟩
  refine ⟨?_, s.size, zh _, hJ, fun _ => rfl⟩;unfold eachB;rw [allI_true hall, show decide ((s.size : Int) ≤ (most : Int)) = decide (s.size ≤ most) from by simp];rfl
def smallB (c : Int) : Bool := (small_.f c).getD false
theorem small_some (c : Int) : small_.f c = some (smallB c) := by
  unfold smallB small_.f
  repeat' split
  all_goals rfl
def by_ (s : ByteArray) (i : Nat) : Int := ((s.data.getD i 0).toNat : Int)
theorem by_is (s : ByteArray) (i : Nat) (hi : i < s.size) : ((s[i]'hi).toNat : Int) = by_ s i := by
  unfold by_;rw [Array.getD_eq_getD_getElem?, Array.getElem?_eq_getElem (show i < s.data.size from hi)];rfl
theorem conf_poolName.hand (a0 : ByteArray) (hs : a0.size < 9223372036854775807) (w : World) :
    Calls Tryz.prog 35 #[.string a0] w fun e w' => e = .returned (.bool (eachB (fun i => smallB (by_ a0 i)) a0 64)) ∧ Below w.heap.size w w' := by
  go_enter Tryz.func35, Tryz.ntmps35;go_wp2_with fail;refine (conf_each.is (J := fun _ W => Below w.heap.size w W) 64 #[] (enters_ Tryz.func64 zQ rfl) (fun i => smallB (by_ a0 i)) a0 hs 64 w ?_ (Below.refl _ _)).mono ?_
  · intro i hi W hb;refine (small_.calls _ (smallB (by_ a0 i)) W (by rw [by_is]; exact small_some _)).mono ?_;rintro e W' ⟨rfl, hd⟩;exact ⟨rfl, below_step hb hd.below⟩
  rintro e w1 ⟨rfl, n, _, hb, _⟩;go_wp2;go_ret;exact ⟨rfl, hb⟩
def preB (c : Int) : Bool := decide (32 < c) && (decide (c < 127) && (c != 63 && c != 35))
def addB (c : Int) : Bool := decide (32 < c) && decide (c < 127)
theorem conf_prefix1.hand (c : Int) (w : World) : Calls Tryz.prog 66 #[.int .u8 c] w fun e w' => e = .returned (.bool (preB c)) ∧ Below w.heap.size w w' := by
  have HB := zN (Below.refl w.heap.size w);unfold preB;by_cases h1 : 32 < c;rotate_left
  · have d1 : decide (32 < c) = false := zf h1;rw [d1];clear h1;go_enter Tryz.func66, Tryz.ntmps66;go_wp2;go_ret;exact ⟨rfl, HB.out⟩
  have d1 : decide (32 < c) = true := zt h1;by_cases h2 : c < 127;rotate_left
  · have d2 : decide (c < 127) = false := zf h2;rw [d1, d2];clear h1 h2;go_enter Tryz.func66, Tryz.ntmps66;go_wp2;go_ret;exact ⟨rfl, HB.out⟩
  have d2 : decide (c < 127) = true := zt h2;by_cases h3 : c = 63
  · have d3 : (c != 63) = false := zc.mpr h3;rw [d1, d2, d3];clear h1 h2 h3;go_enter Tryz.func66, Tryz.ntmps66;go_wp2;go_ret;exact ⟨rfl, HB.out⟩
  have d3 : (c != 63) = true := bne_iff_ne.mpr h3;by_cases h4 : c = 35
  · have d4 : (c != 35) = false := zc.mpr h4;rw [d1, d2, d3, d4];clear h1 h2 h3 h4;go_enter Tryz.func66, Tryz.ntmps66;go_wp2;go_ret;exact ⟨rfl, HB.out⟩
  have d4 : (c != 35) = true := bne_iff_ne.mpr h4;rw [d1, d2, d3, d4];clear h1 h2 h3 h4;go_enter Tryz.func66, Tryz.ntmps66;go_wp2;go_ret;exact ⟨rfl, HB.out⟩
theorem conf_address1.hand (c : Int) (w : World) : Calls Tryz.prog 90 #[.int .u8 c] w fun e w' => e = .returned (.bool (addB c)) ∧ Below w.heap.size w w' := by
  have HB := zN (Below.refl w.heap.size w);unfold addB;by_cases h1 : 32 < c;rotate_left
  · have d1 : decide (32 < c) = false := zf h1;rw [d1];clear h1;go_enter Tryz.func90, Tryz.ntmps90;go_wp2;go_ret;exact ⟨rfl, HB.out⟩
  have d1 : decide (32 < c) = true := zt h1;by_cases h2 : c < 127
  · have d2 : decide (c < 127) = true := zt h2;rw [d1, d2];clear h1 h2;go_enter Tryz.func90, Tryz.ntmps90;go_wp2;go_ret;exact ⟨rfl, HB.out⟩
  have d2 : decide (c < 127) = false := zf h2;rw [d1, d2];clear h1 h2;go_enter Tryz.func90, Tryz.ntmps90;go_wp2;go_ret;exact ⟨rfl, HB.out⟩
theorem conf_address.hand (a0 : ByteArray) (hs : a0.size < 9223372036854775807) (w : World) :
    Calls Tryz.prog 67 #[.string a0] w fun e w' => e = .returned (.bool (eachB (fun i => addB (by_ a0 i)) a0 64)) ∧ Below w.heap.size w w' := by
  go_enter Tryz.func67, Tryz.ntmps67;go_wp2_with fail;refine (conf_each.is (J := fun _ W => Below w.heap.size w W) 90 #[] (enters_ Tryz.func90 zQ rfl) (fun i => addB (by_ a0 i)) a0 hs 64 w ?_ (Below.refl _ _)).mono ?_
  · intro i hi W hb;rw [by_is];refine (conf_address1.hand _ W).mono ?_;rintro e W' ⟨rfl, hd⟩;exact ⟨rfl, below_step hb hd⟩
  rintro e w1 ⟨rfl, n, _, hb, _⟩;go_wp2;go_ret;exact ⟨rfl, hb⟩
theorem conf_prefix.hand (a0 : ByteArray) (hs : a0.size < 9223372036854775807) (w : World) :
    Calls Tryz.prog 37 #[.string a0] w fun e w' => e = .returned (.bool (eachB (fun i => preB (by_ a0 i)) a0 128 && by_ a0 0 == 47)) ∧ Below w.heap.size w w' := by
  go_enter Tryz.func37, Tryz.ntmps37;go_wp2_with fail;refine (conf_each.is (J := fun _ W => Below w.heap.size w W) 66 #[] (enters_ Tryz.func66 zQ rfl) (fun i => preB (by_ a0 i)) a0 hs 128 w ?_ (Below.refl _ _)).mono ?_
  · intro i hi W hb;rw [by_is];refine (conf_prefix1.hand _ W).mono ?_;rintro e W' ⟨rfl, hd⟩;exact ⟨rfl, below_step hb hd⟩
  rintro e w1 ⟨rfl, n, _, hb, _⟩;have HB := zN hb;clear hb;cases hE : eachB (fun i => preB (by_ a0 i)) a0 128 with
  | false =>
    have HE := zN hE;clear hE;go_wp2;go_ret;exact ⟨by rw [HE.out]; rfl, HB.out⟩
  | true =>
    have h0 : 0 < a0.size := by
      unfold eachB at hE;simp only [Bool.and_eq_true, decide_eq_true_eq] at hE;exact hE.2.1
    have hb0 := by_is a0 0 h0;have c3 := zu (Int.ofNat_lt.mpr h0);have HE := zN hE;clear hE;go_wp2;go_ret;exact ⟨by rw [HE.out]; rfl, HB.out⟩
def ptB (s : ByteArray) (i : Nat) : Bool := if i = 0 then true else by_ s (i - 1) == 46
def hostB (s : ByteArray) (i : Nat) : Bool := smallB (by_ s i) || (by_ s i == 46 && !ptB s i)
def HostJ (s : ByteArray) (w : World) (i : Nat) (W : World) : Prop := W.heap[w.heap.size]? = some (.cells #[.bool (ptB s i)] 4 (0, 0)) ∧ Below w.heap.size w W
theorem conf_host1.hand (s : ByteArray) (w W : World) (i : Nat) (h : HostJ s w i W) : Calls Tryz.prog 65 #[.int .u8 (by_ s i), .pointer (some ⟨w.heap.size, 0, none⟩)] W fun e W' => e = .returned (.bool (hostB s i)) ∧ HostJ s w (i + 1) W' := by
  obtain ⟨hp, hb⟩ := h;have HP := zN hp;have HB := zN hb;have k0 : W.cell? ⟨w.heap.size, 0, none⟩ = some (.bool (ptB s i)) := (blk_cell hp 0).trans rfl;have u0 : W.frozen? ⟨w.heap.size, 0, none⟩ = false := blk_frozen hp 0;clear hp hb;have hpt : ptB s (i + 1) = (by_ s i == 46) := rfl;have HPT := zN hpt;clear hpt;unfold hostB;generalize by_ s i = c at HPT ⊢;generalize ptB s i = was at k0 HP ⊢;go_enter Tryz.func65, Tryz.ntmps65;go_upto_region 3 with (fail)
  have hP2 : (W.setCell ⟨w.heap.size, 0, none⟩ (.bool (c == 46))).heap[w.heap.size]? = some (.cells #[.bool (c == 46)] 4 (0, 0)) := blk_put HP.out 0 (.bool (c == 46)) rfl;have hB2 := below_set (j := 0) (v := .bool (c == 46)) HB.out (zh w.heap.size);generalize W.setCell ⟨w.heap.size, 0, none⟩ (.bool (c == 46)) = W1 at hP2 hB2 ⊢;clear k0 u0 HP HB;have HB := zN hB2;have HP := zN hP2;clear hB2 hP2;generalize hd : (c == 46) = dot at HPT HP ⊢;have HD := zN hd;clear hd;cases hs : smallB c with
  | true =>
    go_wp2_with fail;refine (small_.calls c true W1 (by rw [small_some, hs])).mono ?_;rintro e W2 ⟨rfl, ⟨nd, rfl⟩⟩;have HS := zN hs;clear hs;go_wp2;go_ret;exact ⟨by rw [HS.out]; rfl, by rw [HPT.out]; exact blk_drewN HP.out nd, pw_below_drewN HB.out nd⟩
  | false =>
    go_wp2_with fail;refine (small_.calls c false W1 (by rw [small_some, hs])).mono ?_;rintro e W2 ⟨rfl, ⟨nd, rfl⟩⟩;have HS := zN hs;clear hs;have k1 : (W1.drewN nd).cell? ⟨w.heap.size, 0, none⟩ = some (.bool dot) := (blk_cell (blk_drewN HP.out nd) 0).trans rfl;cases dot with
    | true =>
      go_wp2;go_ret;exact ⟨by rw [HS.out, HD.out]; rfl, by rw [HPT.out]; exact blk_drewN HP.out nd, pw_below_drewN HB.out nd⟩
    | false =>
      go_wp2;go_ret;exact ⟨by rw [HS.out, HD.out]; rfl, by rw [HPT.out]; exact blk_drewN HP.out nd, pw_below_drewN HB.out nd⟩
theorem conf_host.hand (a0 : ByteArray) (hs : a0.size < 9223372036854775807) (w : World) :
    Calls Tryz.prog 36 #[.string a0] w fun e w' => e = .returned (.bool (eachB (hostB a0) a0 64 && !ptB a0 a0.size)) ∧ Below w.heap.size w w' := by
  go_enter Tryz.func36, Tryz.ntmps36;go_upto_region 2 with (fail)
  go_wp2_with fail;refine (conf_each.is (J := HostJ a0 w) 65 #[.pointer (some ⟨w.heap.size, 0, none⟩)] (enters_ Tryz.func65 zQ rfl) (hostB a0) a0 hs 64 _ ?_ ⟨blk_new _ _, below_alloc (Below.refl _ _) _⟩).mono ?_
  · intro i hi W hJ;rw [by_is];exact conf_host1.hand a0 w W i hJ
  rintro e w1 ⟨rfl, n, _, ⟨hp, hb⟩, hn⟩;have HB := zN hb;have HP := zN hp;clear hb hp;cases hE : eachB (hostB a0) a0 64 with
  | false =>
    have HE := zN hE;clear hE hn;go_wp2;go_ret;exact ⟨by rw [HE.out]; rfl, HB.out⟩
  | true =>
    obtain rfl := hn hE;have HE := zN hE;clear hE hn;have k1 : w1.cell? ⟨w.heap.size, 0, none⟩ = some (.bool (ptB a0 a0.size)) := (blk_cell HP.out 0).trans rfl;go_wp2;go_ret;exact ⟨by rw [HE.out]; rfl, HB.out⟩
end Go.Proofs.YtpigfccpogmeaaaGreatDoor.S
end
section
namespace Go.Proofs.YtpigfccpogmeaaaGreatDoor.S
open Go.RowKit Go.Proofs.YtpigfccpogmeaaaGreatDoorW.PrintWords Go.Proofs.YtpigfccpogmeaaaGreatDoorW.PrintLast Go.Proofs.YtpigfccpogmeaaaGreatDoorW.PrintMore
attribute [local go_sem] max2_int min2_int max_two min_two max_three min_three max_four min_four
attribute [local go_sem] fbin_eql fbin_neq fbin_lss fbin_leq fbin_gtr fbin_geq frun_add frun_sub frun_mul frun_quo frun_store fun_neg fcv_int fcv_same fb88 fb89
set_option linter.unusedVariables false
set_option linter.unusedSimpArgs false
def conf_poolName.f (a0 : ByteArray) : Option Bool := if a0.size < 9223372036854775807 then some (eachB (fun i => smallB (by_ a0 i)) a0 64) else none
theorem conf_poolName.calls (a0 : ByteArray) (r : Bool) (w : World) (h : conf_poolName.f a0 = some r) :
    Calls Tryz.prog 35 #[.string a0] w fun e w' => e = .returned (.bool r) ∧ Below w.heap.size w w' := by
  unfold conf_poolName.f at h
  split at h
  · next hs =>
    obtain rfl := zo h;exact conf_poolName.hand a0 hs w
  cases h


def conf_host.f (a0 : ByteArray) : Option Bool := if a0.size < 9223372036854775807 then some (eachB (hostB a0) a0 64 && !ptB a0 a0.size) else none
theorem conf_host.calls (a0 : ByteArray) (r : Bool) (w : World) (h : conf_host.f a0 = some r) :
    Calls Tryz.prog 36 #[.string a0] w fun e w' => e = .returned (.bool r) ∧ Below w.heap.size w w' := by
  unfold conf_host.f at h
  split at h
  · next hs =>
    obtain rfl := zo h;exact conf_host.hand a0 hs w
  cases h


def conf_prefix.f (a0 : ByteArray) : Option Bool := if a0.size < 9223372036854775807 then some (eachB (fun i => preB (by_ a0 i)) a0 128 && by_ a0 0 == 47) else none
theorem conf_prefix.calls (a0 : ByteArray) (r : Bool) (w : World) (h : conf_prefix.f a0 = some r) :
    Calls Tryz.prog 37 #[.string a0] w fun e w' => e = .returned (.bool r) ∧ Below w.heap.size w w' := by
  unfold conf_prefix.f at h
  split at h
  · next hs =>
    obtain rfl := zo h;exact conf_prefix.hand a0 hs w
  cases h


def conf_address.f (a0 : ByteArray) : Option Bool := if a0.size < 9223372036854775807 then some (eachB (fun i => addB (by_ a0 i)) a0 64) else none
theorem conf_address.calls (a0 : ByteArray) (r : Bool) (w : World) (h : conf_address.f a0 = some r) :
    Calls Tryz.prog 67 #[.string a0] w fun e w' => e = .returned (.bool r) ∧ Below w.heap.size w w' := by
  unfold conf_address.f at h
  split at h
  · next hs =>
    obtain rfl := zo h;exact conf_address.hand a0 hs w
  cases h


-- NOT PRINTED: function 88 (math_Float64frombits)

-- NOT PRINTED: function 89 (math_Float64bits)

def math_Abs.f (a0 : Nat) : Option (Nat) := some ((Go.bits .andNot .u64 (a0 : Int) 9223372036854775808 : Int).toNat)
set_option maxHeartbeats 8000000 in
set_option maxRecDepth 100000 in
theorem math_Abs.calls (a0 : Nat) (r : Nat) (w : World) (h : math_Abs.f a0 = some r) :
    Calls Tryz.prog 62 #[.float .f64 a0] w fun e w' => e = .returned (.float .f64 r) ∧ Drawn0 w w' := by
  have H : (some ((Go.bits .andNot .u64 (a0 : Int) 9223372036854775808 : Int).toNat)) = some r := h;clear h;obtain rfl := zo H;go_enter Tryz.func62, Tryz.ntmps62;go_wp2;go_ret;exact ⟨zI, zD⟩

def math_IsInf.f (a0 : Nat) (a1 : Int) : Option (Bool) := if a1 = 0 then ((math_Abs.f a0).bind fun t103 => (some (fgtr t103 9218868437227405311))) else (if a1 < 0 then (some (fgtr (fneg a0) 9218868437227405311)) else (some (fgtr a0 9218868437227405311)))
set_option maxHeartbeats 8000000 in
set_option maxRecDepth 100000 in
theorem math_IsInf.calls (a0 : Nat) (a1 : Int) (r : Bool) (w : World) (h : math_IsInf.f a0 a1 = some r) :
    Calls Tryz.prog 33 #[.float .f64 a0, .int .i64 a1] w fun e w' => e = .returned (.bool r) ∧ Drawn0 w w' := by
  have H : (if a1 = 0 then ((math_Abs.f a0).bind fun t103 => (some (fgtr t103 9218868437227405311))) else (if a1 < 0 then (some (fgtr (fneg a0) 9218868437227405311)) else (some (fgtr a0 9218868437227405311)))) = some r := h;clear h;by_cases c3 : a1 = 0
  · rw [zp c3] at H;have c3b0 := beq_iff_eq.mpr c3;have c3b1 := zc.mpr c3;clear c3;obtain ⟨t103, A4, H⟩ := zA H;(try dsimp only at H);obtain rfl := zo H;go_enter Tryz.func33, Tryz.ntmps33;go_wp2_with (first | ((with_reducible refine gate_callee (f := 62) rfl ?_); refine zg (some 8) Tryz.func62 #[.float .f64 a0] ?_; (with_reducible refine (math_Abs.calls a0 t103 _ A4.out).mono ?_); rintro e w' ⟨rfl, ⟨nd, rfl⟩⟩; refine ⟨_, rfl, ?_⟩));go_ret;exact ⟨zI, zD⟩
  rw [zn c3] at H;have c3b0 := zb.mpr c3;have c3b1 := bne_iff_ne.mpr c3;by_cases c5 : a1 < 0
  · rw [zp c5] at H;have c5b0 := zt c5;clear c5;obtain rfl := zo H;go_enter Tryz.func33, Tryz.ntmps33;go_wp2;go_ret;exact ⟨zI, zD⟩
  rw [zn c5] at H;have c5b0 := zf c5;clear c5;obtain rfl := zo H;go_enter Tryz.func33, Tryz.ntmps33;go_wp2;go_ret;exact ⟨zI, zD⟩

def math_Signbit.f (a0 : Nat) : Option (Bool) := some (decide ((wrap64 ((a0 : Int))) < 0))
set_option maxHeartbeats 8000000 in
set_option maxRecDepth 100000 in
theorem math_Signbit.calls (a0 : Nat) (r : Bool) (w : World) (h : math_Signbit.f a0 = some r) :
    Calls Tryz.prog 91 #[.float .f64 a0] w fun e w' => e = .returned (.bool r) ∧ Drawn0 w w' := by
  have H : (some (decide ((wrap64 ((a0 : Int))) < 0))) = some r := h;clear h;obtain rfl := zo H;go_enter Tryz.func91, Tryz.ntmps91;go_wp2;go_ret;exact ⟨zI, zD⟩

def conf_weight.f (a0 : Nat) : Option (Bool) := if (fgeq a0 0) = true then ((math_IsInf.f a0 1).bind fun t104 => (if t104 = true then (some false) else ((math_Signbit.f a0).bind fun t105 => (some (!t105))))) else (some false)
set_option maxHeartbeats 8000000 in
set_option maxRecDepth 100000 in
theorem conf_weight.calls (a0 : Nat) (r : Bool) (w : World) (h : conf_weight.f a0 = some r) :
    Calls Tryz.prog 68 #[.float .f64 a0] w fun e w' => e = .returned (.bool r) ∧ Drawn0 w w' := by
  have H : (if (fgeq a0 0) = true then ((math_IsInf.f a0 1).bind fun t104 => (if t104 = true then (some false) else ((math_Signbit.f a0).bind fun t105 => (some (!t105))))) else (some false)) = some r := h;clear h;by_cases c2 : (fgeq a0 0) = true;rotate_left
  · rw [zn c2] at H;have c2b0 : (fgeq a0 0) = false := by simpa using c2
    clear c2;obtain rfl := zo H;go_enter Tryz.func68, Tryz.ntmps68;go_wp2;go_ret;exact ⟨zI, zD⟩
  rw [zp c2] at H;have c2b0 : (fgeq a0 0) = true := c2;clear c2;obtain ⟨t104, A3, H⟩ := zA H;(try dsimp only at H);by_cases c4 : t104 = true
  · subst c4;have H1 := H; rw [zp rfl] at H1;clear H;have H := H1;clear H1;obtain rfl := zo H;go_enter Tryz.func68, Tryz.ntmps68;go_wp2_with (first | (go_at_call 33; (with_reducible refine (math_IsInf.calls a0 1 true _ A3.out).mono ?_); rintro e w' ⟨rfl, ⟨nd, rfl⟩⟩));go_ret;exact ⟨zI, zD⟩
  replace c4 := zq.mpr c4;subst c4;have H1 := H; rw [zn (show ¬ (false = true) by decide)] at H1;clear H;have H := H1;clear H1;obtain ⟨t105, A5, H⟩ := zA H;(try dsimp only at H);obtain rfl := zo H;go_enter Tryz.func68, Tryz.ntmps68;go_wp2_with (first | (go_at_call 33; (with_reducible refine (math_IsInf.calls a0 1 false _ A3.out).mono ?_); rintro e w' ⟨rfl, ⟨nd, rfl⟩⟩) | (go_at_call 91; (with_reducible refine (math_Signbit.calls a0 t105 _ A5.out).mono ?_); rintro e w' ⟨rfl, ⟨nd, rfl⟩⟩));go_ret;exact ⟨zI, zD⟩

mutual
def conf_targets.l0 : Nat → List (S62) → List (S62) → Int → Int → Option (Int)
 | 0, _, _, _, _ => none
 | k + 1, x0, x7, x8, x9 => if x9 < x8 then (if 0 ≤ x9 then (if x9 < (x7.length : Int) then ((conf_address.f ((rd_T62 x7 x9).f0)).bind fun t108 => (if t108 = true then (conf_targets.l0 k x0 x7 x8 (wrap64 (x9 + 1))) else (some 14))) else (none)) else (none)) else (conf_targets.l1 k x0 x0 (x0.length : Int) 0)
def conf_targets.l1 : Nat → List (S62) → List (S62) → Int → Int → Option (Int)
 | 0, _, _, _, _ => none
 | k + 1, x0, x18, x19, x20 => if x20 < x19 then (if 0 ≤ x20 then (if x20 < (x18.length : Int) then ((conf_weight.f ((rd_T62 x18 x20).f1)).bind fun t111 => (if t111 = true then (conf_targets.l1 k x0 x18 x19 (wrap64 (x20 + 1))) else (some 15))) else (none)) else (none)) else (if (x0.length : Int) > 16 then (some 6) else (some 0))
end
def conf_targets.f (k : Nat) (l0 : List (S62)) : Option (Int) := conf_targets.l0 k l0 l0 (l0.length : Int) 0
theorem conf_targets.mono_l : ∀ k, (∀ y0 y1 y2 y3, LeO (conf_targets.l0 k y0 y1 y2 y3) (conf_targets.l0 (k + 1) y0 y1 y2 y3)) ∧ (∀ y0 y1 y2 y3, LeO (conf_targets.l1 k y0 y1 y2 y3) (conf_targets.l1 (k + 1) y0 y1 y2 y3))
 | 0 => ⟨fun _ _ _ _ r h => by simp [conf_targets.l0] at h, fun _ _ _ _ r h => by simp [conf_targets.l1] at h⟩
 | k + 1 => by
  obtain ⟨ih0, ih1⟩ := conf_targets.mono_l k;refine ⟨?_, ?_⟩
  ·intro y0 y1 y2 y3;unfold conf_targets.l0
   repeat' with_reducible first | exact ih0 _ _ _ _ | exact ih1 _ _ _ _ | exact LeO.refl _ | exact LeO.none _ | refine LeO.ite ?_ ?_ | refine LeO.bind ?_ (fun _ => ?_)
  intro y0 y1 y2 y3;unfold conf_targets.l1
  repeat' with_reducible first | exact ih0 _ _ _ _ | exact ih1 _ _ _ _ | exact LeO.refl _ | exact LeO.none _ | refine LeO.ite ?_ ?_ | refine LeO.bind ?_ (fun _ => ?_)
theorem conf_targets.mono : ∀ a0 k, LeO (conf_targets.f k a0) (conf_targets.f (k + 1) a0) := by
 intro a0 k;obtain ⟨ih0, ih1⟩ := conf_targets.mono_l k;unfold conf_targets.f
 repeat' with_reducible first | exact ih0 _ _ _ _ | exact ih1 _ _ _ _ | exact LeO.refl _ | exact LeO.none _ | refine LeO.ite ?_ ?_ | refine LeO.bind ?_ (fun _ => ?_)
set_option maxHeartbeats 8000000 in
set_option maxRecDepth 100000 in
theorem conf_targets.calls (k : Nat) (A0 : Option Addr) (c0 : Nat) (l0 : List (S62)) (r : Int) (w : World) (hr0 : Kd.C k62 w A0 l0.length l0) (hc0 : l0.length ≤ c0) (h : conf_targets.f k l0 = some r) :
  Calls Tryz.prog 38 #[.slice A0 l0.length c0] w fun e w' => e = .returned (.int .i64 r) ∧ Below w.heap.size w w' := by
 have hu62 := Tryz.underlying62;have HR0 := zN hr0;have HC0 := zN hc0;clear hr0 hc0;have HB := zN (Below.refl w.heap.size w);have H : (conf_targets.l0 k l0 l0 (l0.length : Int) 0) = some r := h;clear h;have H' := zN H;clear H;go_enter Tryz.func38, Tryz.ntmps38;go_wp2;go_loopg [9] k (fun kq v9 w' => ∃ (x9_1 : Int), v9 = .int .i64 x9_1 ∧ Aside0 (conf_targets.l0 kq l0 l0 (l0.length : Int) x9_1 = some r) ∧ Aside0 (kq ≤ k) ∧ Aside0 (Below w.heap.size w w'))
 case atStart => exact ⟨(0), zI, H', ⟨zh _⟩, ⟨zB HB⟩⟩
 case round =>
  clear H';obtain ⟨x9_1, rfl, HA, HK1, HB⟩ := hrel;cases gk with
  | zero => exact absurd HA.out (by simp [conf_targets.l0])
  | succ k1 =>
   have H := HA.out;clear HA;simp only [conf_targets.l0] at H;by_cases c2 : x9_1 < (l0.length : Int)
   ·rw [zp c2] at H;have c2b0 := zt c2;clear c2;by_cases c3 : 0 ≤ x9_1;rotate_left
    ·rw [zn c3] at H;exact absurd H (by simp)
    rw [zp c3] at H;have c3b0 := zt c3;clear c3;by_cases c4 : x9_1 < (l0.length : Int);rotate_left
    ·rw [zn c4] at H;exact absurd H (by simp)
    rw [zp c4] at H;have c4b0 := zt c4;clear c4;obtain ⟨t108, A5, H⟩ := zA H;(try dsimp only at H);by_cases c6 : t108 = true
    ·subst c6;have H1 := H; rw [zp rfl] at H1;clear H;have H := H1;clear H1;have H' := zN H;clear H;have p106 : 0 ≤ (x9_1 : Int) := zd zS;have q106 : x9_1 < (l0.length : Int) := zd zS;obtain ⟨ad106, e106, hx106_0, hx106_1⟩ := at_T62 HR0.out x9_1 p106 q106;cases e106;replace hx106_0 := (HB.out.cell (zw w _ hx106_0)).trans hx106_0;replace hx106_1 := (HB.out.cell (zw w _ hx106_1)).trans hx106_1;replace p106 := zu p106;replace q106 := zu q106;go_wp2_with (first | ((with_reducible refine gate_dst (N := 4) rfl ?_); refine zX #[.string (⟨#[]⟩ : ByteArray), .float .f64 0] 62 rfl ?_; intro gb107 hg w7 hbox hb; have BK107 := zN hbox; have GW107 := zY w (zB HB) hg; have GE107 := zY w (zB HB) hg; replace HB := zk HB hb; clear hb hbox hg; obtain ⟨hcz8_0, hcz8_1, hfz8_0, hfz8_1⟩ := zC2 BK107) | ((with_reducible refine gate_callee (f := 67) rfl ?_); refine zg (some 15) Tryz.func67 #[.string ((rd_T62 l0 x9_1).f0)] ?_; (with_reducible refine (conf_address.calls ((rd_T62 l0 x9_1).f0) true _ A5.out).mono ?_); rintro e w9 ⟨rfl, hb⟩; refine ⟨_, rfl, ?_⟩; replace BK107 := zN (blk_below (g := gb107) (o := .cells #[.string ((rd_T62 l0 x9_1).f0), .float .f64 ((rd_T62 l0 x9_1).f1)] 62 (0, 0)) (zF BK107) hb); replace HB := zk1 HB GE107 hb; (try clear hb); (try clear hb2); (try clear hk); (try clear hi)));go_roundg k1
     case measure => have := HK1.out; omega
     case rel => exact ⟨(wrap64 (x9_1 + 1)), zI, H', ⟨by have := HK1.out; omega⟩, ⟨zB1 HB GE107⟩⟩
    replace c6 := zq.mpr c6;subst c6;have H1 := H; rw [zn (show ¬ (false = true) by decide)] at H1;clear H;have H := H1;clear H1;obtain rfl := zo H;have p106 : 0 ≤ (x9_1 : Int) := zd zS;have q106 : x9_1 < (l0.length : Int) := zd zS;obtain ⟨ad106, e106, hx106_0, hx106_1⟩ := at_T62 HR0.out x9_1 p106 q106;cases e106;replace hx106_0 := (HB.out.cell (zw w _ hx106_0)).trans hx106_0;replace hx106_1 := (HB.out.cell (zw w _ hx106_1)).trans hx106_1;replace p106 := zu p106;replace q106 := zu q106;go_wp2_with (first | ((with_reducible refine gate_dst (N := 4) rfl ?_); refine zX #[.string (⟨#[]⟩ : ByteArray), .float .f64 0] 62 rfl ?_; intro gb107 hg w10 hbox hb; have BK107 := zN hbox; have GW107 := zY w (zB HB) hg; have GE107 := zY w (zB HB) hg; replace HB := zk HB hb; clear hb hbox hg; obtain ⟨hcz11_0, hcz11_1, hfz11_0, hfz11_1⟩ := zC2 BK107) | ((with_reducible refine gate_callee (f := 67) rfl ?_); refine zg (some 15) Tryz.func67 #[.string ((rd_T62 l0 x9_1).f0)] ?_; (with_reducible refine (conf_address.calls ((rd_T62 l0 x9_1).f0) false _ A5.out).mono ?_); rintro e w12 ⟨rfl, hb⟩; refine ⟨_, rfl, ?_⟩; replace BK107 := zN (blk_below (g := gb107) (o := .cells #[.string ((rd_T62 l0 x9_1).f0), .float .f64 ((rd_T62 l0 x9_1).f1)] 62 (0, 0)) (zF BK107) hb); replace HB := zk1 HB GE107 hb; (try clear hb); (try clear hb2); (try clear hk); (try clear hi)));go_ret;exact ⟨zE, zB1 HB GE107⟩
   rw [zn c2] at H;have c2b0 := zf c2;clear c2;have H' := zN H;clear H;go_wp2;go_loopg [20] k1 (fun kq v20 w' => ∃ (x20_2 : Int), v20 = .int .i64 x20_2 ∧ Aside0 (conf_targets.l1 kq l0 l0 (l0.length : Int) x20_2 = some r) ∧ Aside0 (kq ≤ k1) ∧ Aside0 (Below w.heap.size w w'))
   case atStart => exact ⟨(0), zI, H', ⟨zh _⟩, ⟨zB HB⟩⟩
   case round =>
    clear H'
    try clear c2
    try clear c2b0
    obtain ⟨x20_2, rfl, HA, HK2, HB⟩ := hrel;cases gk with
    | zero => exact absurd HA.out (by simp [conf_targets.l1])
    | succ k2 =>
     have H := HA.out;clear HA;simp only [conf_targets.l1] at H;by_cases c13 : x20_2 < (l0.length : Int);rotate_left
     ·rw [zn c13] at H;have c13b0 := zf c13;clear c13;by_cases c22 : (l0.length : Int) > 16
      ·rw [zp c22] at H;have c22b0 : decide (16 < (l0.length : Int)) = true := zt c22;have c22b1 : decide (16 < l0.length) = true := zt zO;clear c22;obtain rfl := zo H;go_wp2;go_ret;exact ⟨zE, zB HB⟩
      rw [zn c22] at H;have c22b0 : decide (16 < (l0.length : Int)) = false := zf c22;have c22b1 : decide (16 < l0.length) = false := zf zO;clear c22;obtain rfl := zo H;go_wp2;go_ret;exact ⟨zE, zB HB⟩
     rw [zp c13] at H;have c13b0 := zt c13;clear c13;by_cases c14 : 0 ≤ x20_2;rotate_left
     ·rw [zn c14] at H;exact absurd H (by simp)
     rw [zp c14] at H;have c14b0 := zt c14;clear c14;by_cases c15 : x20_2 < (l0.length : Int);rotate_left
     ·rw [zn c15] at H;exact absurd H (by simp)
     rw [zp c15] at H;have c15b0 := zt c15;clear c15;obtain ⟨t111, A16, H⟩ := zA H;(try dsimp only at H);by_cases c17 : t111 = true
     ·subst c17;have H1 := H; rw [zp rfl] at H1;clear H;have H := H1;clear H1;have H' := zN H;clear H;have p109 : 0 ≤ (x20_2 : Int) := zd zS;have q109 : x20_2 < (l0.length : Int) := zd zS;obtain ⟨ad109, e109, hx109_0, hx109_1⟩ := at_T62 HR0.out x20_2 p109 q109;cases e109;replace hx109_0 := (HB.out.cell (zw w _ hx109_0)).trans hx109_0;replace hx109_1 := (HB.out.cell (zw w _ hx109_1)).trans hx109_1;replace p109 := zu p109;replace q109 := zu q109;go_wp2_with (first | ((with_reducible refine gate_dst (N := 6) rfl ?_); refine zX #[.string (⟨#[]⟩ : ByteArray), .float .f64 0] 62 rfl ?_; intro gb110 hg w18 hbox hb; have BK110 := zN hbox; have GW110 := zY w (zB HB) hg; have GE110 := zY w (zB HB) hg; replace HB := zk HB hb; clear hb hbox hg; obtain ⟨hcz19_0, hcz19_1, hfz19_0, hfz19_1⟩ := zC2 BK110) | ((with_reducible refine gate_callee (f := 68) rfl ?_); refine zg (some 26) Tryz.func68 #[.float .f64 ((rd_T62 l0 x20_2).f1)] ?_; (with_reducible refine (conf_weight.calls ((rd_T62 l0 x20_2).f1) true _ A16.out).mono ?_); rintro e w' ⟨rfl, ⟨nd, rfl⟩⟩; refine ⟨_, rfl, ?_⟩));go_roundg k2
      case measure => have := HK1.out; have := HK2.out; omega
      case rel => exact ⟨(wrap64 (x20_2 + 1)), zI, H', ⟨by have := HK1.out; have := HK2.out; omega⟩, ⟨zB1 HB GE110⟩⟩
     replace c17 := zq.mpr c17;subst c17;have H1 := H; rw [zn (show ¬ (false = true) by decide)] at H1;clear H;have H := H1;clear H1;obtain rfl := zo H;have p109 : 0 ≤ (x20_2 : Int) := zd zS;have q109 : x20_2 < (l0.length : Int) := zd zS;obtain ⟨ad109, e109, hx109_0, hx109_1⟩ := at_T62 HR0.out x20_2 p109 q109;cases e109;replace hx109_0 := (HB.out.cell (zw w _ hx109_0)).trans hx109_0;replace hx109_1 := (HB.out.cell (zw w _ hx109_1)).trans hx109_1;replace p109 := zu p109;replace q109 := zu q109;go_wp2_with (first | ((with_reducible refine gate_dst (N := 6) rfl ?_); refine zX #[.string (⟨#[]⟩ : ByteArray), .float .f64 0] 62 rfl ?_; intro gb110 hg w20 hbox hb; have BK110 := zN hbox; have GW110 := zY w (zB HB) hg; have GE110 := zY w (zB HB) hg; replace HB := zk HB hb; clear hb hbox hg; obtain ⟨hcz21_0, hcz21_1, hfz21_0, hfz21_1⟩ := zC2 BK110) | ((with_reducible refine gate_callee (f := 68) rfl ?_); refine zg (some 26) Tryz.func68 #[.float .f64 ((rd_T62 l0 x20_2).f1)] ?_; (with_reducible refine (conf_weight.calls ((rd_T62 l0 x20_2).f1) false _ A16.out).mono ?_); rintro e w' ⟨rfl, ⟨nd, rfl⟩⟩; refine ⟨_, rfl, ?_⟩));go_ret;exact ⟨zE, zB1 HB GE110⟩

mutual
def conf_Check.j0 : Nat → Bool → Int → Int → Int → Int → ByteArray → ByteArray → ByteArray → List (S62) → Option (Int)
 | 0, _, _, _, _, _, _, _, _, _ => none
 | k + 1, x3, x113000, x113001, x113002, x113003, x113004, x113005, x113006, x113007 => if x113000 = 3 then (conf_Check.j1 k x3 true x113000 x113001 x113002 x113003 x113004 x113005 x113006 x113007) else (conf_Check.j1 k x3 (x113000 == 4) x113000 x113001 x113002 x113003 x113004 x113005 x113006 x113007)
def conf_Check.j1 : Nat → Bool → Bool → Int → Int → Int → Int → ByteArray → ByteArray → ByteArray → List (S62) → Option (Int)
 | 0, _, _, _, _, _, _, _, _, _, _ => none
 | k + 1, x3, x4, x113000, x113001, x113002, x113003, x113004, x113005, x113006, x113007 => if x113001 = 0 then (conf_Check.j2 k x3 x4 (x113002 == 0) x113000 x113001 x113002 x113003 x113004 x113005 x113006 x113007) else (if x113002 ≥ 1 then (conf_Check.j2 k x3 x4 (decide (x113002 ≤ 1099511627776)) x113000 x113001 x113002 x113003 x113004 x113005 x113006 x113007) else (conf_Check.j2 k x3 x4 false x113000 x113001 x113002 x113003 x113004 x113005 x113006 x113007))
def conf_Check.j2 : Nat → Bool → Bool → Bool → Int → Int → Int → Int → ByteArray → ByteArray → ByteArray → List (S62) → Option (Int)
 | 0, _, _, _, _, _, _, _, _, _, _, _ => none
 | k + 1, x3, x4, x5, x113000, x113001, x113002, x113003, x113004, x113005, x113006, x113007 => if x3 = true then (conf_Check.j3 k x3 x4 x5 false x113000 x113001 x113002 x113003 x113004 x113005 x113006 x113007) else (conf_Check.j3 k x3 x4 x5 (!x4) x113000 x113001 x113002 x113003 x113004 x113005 x113006 x113007)
def conf_Check.j3 : Nat → Bool → Bool → Bool → Bool → Int → Int → Int → Int → ByteArray → ByteArray → ByteArray → List (S62) → Option (Int)
 | 0, _, _, _, _, _, _, _, _, _, _, _, _ => none
 | k + 1, x3, x4, x5, x41, x113000, x113001, x113002, x113003, x113004, x113005, x113006, x113007 => if x41 = true then (conf_Check.j7 k x3 x4 x41 x113000 x113001 x113002 x113003 x113004 x113005 x113006 x113007) else (if x113001 < 0 then (conf_Check.j4 k x3 x4 x5 true x113000 x113001 x113002 x113003 x113004 x113005 x113006 x113007) else (conf_Check.j4 k x3 x4 x5 (decide (x113001 > 32)) x113000 x113001 x113002 x113003 x113004 x113005 x113006 x113007))
def conf_Check.j7 : Nat → Bool → Bool → Bool → Int → Int → Int → Int → ByteArray → ByteArray → ByteArray → List (S62) → Option (Int)
 | 0, _, _, _, _, _, _, _, _, _, _, _ => none
 | k + 1, x3, x4, x41, x113000, x113001, x113002, x113003, x113004, x113005, x113006, x113007 => if x41 = true then (some 2) else (if x3 = true then ((conf_poolName.f x113006).bind fun t113 => (conf_Check.j8 k x4 (!t113) x113000 x113001 x113002 x113003 x113004 x113005 x113006 x113007)) else (conf_Check.j8 k x4 false x113000 x113001 x113002 x113003 x113004 x113005 x113006 x113007))
def conf_Check.j8 : Nat → Bool → Bool → Int → Int → Int → Int → ByteArray → ByteArray → ByteArray → List (S62) → Option (Int)
 | 0, _, _, _, _, _, _, _, _, _, _ => none
 | k + 1, x4, x94, x113000, x113001, x113002, x113003, x113004, x113005, x113006, x113007 => if x94 = true then (some 14) else (if x4 = true then ((conf_host.f x113004).bind fun t114 => (if t114 = true then ((conf_prefix.f x113005).bind fun t115 => (if t115 = true then ((conf_targets.f k x113007).bind fun t116 => (some t116)) else (some 14))) else (some 14))) else ((conf_targets.f k x113007).bind fun t117 => (some t117)))
def conf_Check.j4 : Nat → Bool → Bool → Bool → Bool → Int → Int → Int → Int → ByteArray → ByteArray → ByteArray → List (S62) → Option (Int)
 | 0, _, _, _, _, _, _, _, _, _, _, _, _ => none
 | k + 1, x3, x4, x5, x41, x113000, x113001, x113002, x113003, x113004, x113005, x113006, x113007 => if x41 = true then (conf_Check.j7 k x3 x4 x41 x113000 x113001 x113002 x113003 x113004 x113005 x113006 x113007) else (if x5 = true then (if x113003 < (-1) then (conf_Check.j5 k x3 x4 true x113000 x113001 x113002 x113003 x113004 x113005 x113006 x113007) else (conf_Check.j5 k x3 x4 (decide (x113003 ≥ 1099511627776)) x113000 x113001 x113002 x113003 x113004 x113005 x113006 x113007)) else (conf_Check.j7 k x3 x4 (!x5) x113000 x113001 x113002 x113003 x113004 x113005 x113006 x113007))
def conf_Check.j5 : Nat → Bool → Bool → Bool → Int → Int → Int → Int → ByteArray → ByteArray → ByteArray → List (S62) → Option (Int)
 | 0, _, _, _, _, _, _, _, _, _, _, _ => none
 | k + 1, x3, x4, x41, x113000, x113001, x113002, x113003, x113004, x113005, x113006, x113007 => if x41 = true then (conf_Check.j7 k x3 x4 x41 x113000 x113001 x113002 x113003 x113004 x113005 x113006 x113007) else (if x3 = true then (conf_Check.j6 k x3 x4 false x113000 x113001 x113002 x113003 x113004 x113005 x113006 x113007) else (conf_Check.j6 k x3 x4 (x113006.toList != ([] : List UInt8)) x113000 x113001 x113002 x113003 x113004 x113005 x113006 x113007))
def conf_Check.j6 : Nat → Bool → Bool → Bool → Int → Int → Int → Int → ByteArray → ByteArray → ByteArray → List (S62) → Option (Int)
 | 0, _, _, _, _, _, _, _, _, _, _, _ => none
 | k + 1, x3, x4, x41, x113000, x113001, x113002, x113003, x113004, x113005, x113006, x113007 => if x41 = true then (conf_Check.j7 k x3 x4 x41 x113000 x113001 x113002 x113003 x113004 x113005 x113006 x113007) else (if x4 = true then (if x113000 = 1 then (conf_Check.j7 k x3 x4 false x113000 x113001 x113002 x113003 x113004 x113005 x113006 x113007) else (conf_Check.j7 k x3 x4 (decide ((x113007.length : Int) > 0)) x113000 x113001 x113002 x113003 x113004 x113005 x113006 x113007)) else (if x113004.toList = ([] : List UInt8) then (if x113005.toList = ([] : List UInt8) then (if x113000 = 1 then (conf_Check.j7 k x3 x4 false x113000 x113001 x113002 x113003 x113004 x113005 x113006 x113007) else (conf_Check.j7 k x3 x4 (decide ((x113007.length : Int) > 0)) x113000 x113001 x113002 x113003 x113004 x113005 x113006 x113007)) else (conf_Check.j7 k x3 x4 (x113005.toList != ([] : List UInt8)) x113000 x113001 x113002 x113003 x113004 x113005 x113006 x113007)) else (conf_Check.j7 k x3 x4 true x113000 x113001 x113002 x113003 x113004 x113005 x113006 x113007)))
end
def conf_Check.f (k : Nat) (a0_0 : Int) (a0_1 : Int) (a0_2 : Int) (a0_3 : Int) (a0_4 : ByteArray) (a0_5 : ByteArray) (a0_6 : ByteArray) (l0_7 : List (S62)) : Option (Int) := if a0_0 = 1 then (conf_Check.j0 k true a0_0 a0_1 a0_2 a0_3 a0_4 a0_5 a0_6 l0_7) else (if a0_0 = 2 then (conf_Check.j0 k true a0_0 a0_1 a0_2 a0_3 a0_4 a0_5 a0_6 l0_7) else (conf_Check.j0 k (a0_0 == 3) a0_0 a0_1 a0_2 a0_3 a0_4 a0_5 a0_6 l0_7))
theorem conf_Check.mono_l : ∀ k, (∀ y0 y1 y2 y3 y4 y5 y6 y7 y8, LeO (conf_Check.j0 k y0 y1 y2 y3 y4 y5 y6 y7 y8) (conf_Check.j0 (k + 1) y0 y1 y2 y3 y4 y5 y6 y7 y8)) ∧ (∀ y0 y1 y2 y3 y4 y5 y6 y7 y8 y9, LeO (conf_Check.j1 k y0 y1 y2 y3 y4 y5 y6 y7 y8 y9) (conf_Check.j1 (k + 1) y0 y1 y2 y3 y4 y5 y6 y7 y8 y9)) ∧ (∀ y0 y1 y2 y3 y4 y5 y6 y7 y8 y9 y10, LeO (conf_Check.j2 k y0 y1 y2 y3 y4 y5 y6 y7 y8 y9 y10) (conf_Check.j2 (k + 1) y0 y1 y2 y3 y4 y5 y6 y7 y8 y9 y10)) ∧ (∀ y0 y1 y2 y3 y4 y5 y6 y7 y8 y9 y10 y11, LeO (conf_Check.j3 k y0 y1 y2 y3 y4 y5 y6 y7 y8 y9 y10 y11) (conf_Check.j3 (k + 1) y0 y1 y2 y3 y4 y5 y6 y7 y8 y9 y10 y11)) ∧ (∀ y0 y1 y2 y3 y4 y5 y6 y7 y8 y9 y10, LeO (conf_Check.j7 k y0 y1 y2 y3 y4 y5 y6 y7 y8 y9 y10) (conf_Check.j7 (k + 1) y0 y1 y2 y3 y4 y5 y6 y7 y8 y9 y10)) ∧ (∀ y0 y1 y2 y3 y4 y5 y6 y7 y8 y9, LeO (conf_Check.j8 k y0 y1 y2 y3 y4 y5 y6 y7 y8 y9) (conf_Check.j8 (k + 1) y0 y1 y2 y3 y4 y5 y6 y7 y8 y9)) ∧ (∀ y0 y1 y2 y3 y4 y5 y6 y7 y8 y9 y10 y11, LeO (conf_Check.j4 k y0 y1 y2 y3 y4 y5 y6 y7 y8 y9 y10 y11) (conf_Check.j4 (k + 1) y0 y1 y2 y3 y4 y5 y6 y7 y8 y9 y10 y11)) ∧ (∀ y0 y1 y2 y3 y4 y5 y6 y7 y8 y9 y10, LeO (conf_Check.j5 k y0 y1 y2 y3 y4 y5 y6 y7 y8 y9 y10) (conf_Check.j5 (k + 1) y0 y1 y2 y3 y4 y5 y6 y7 y8 y9 y10)) ∧ (∀ y0 y1 y2 y3 y4 y5 y6 y7 y8 y9 y10, LeO (conf_Check.j6 k y0 y1 y2 y3 y4 y5 y6 y7 y8 y9 y10) (conf_Check.j6 (k + 1) y0 y1 y2 y3 y4 y5 y6 y7 y8 y9 y10))
 | 0 => ⟨fun _ _ _ _ _ _ _ _ _ r h => by simp [conf_Check.j0] at h, fun _ _ _ _ _ _ _ _ _ _ r h => by simp [conf_Check.j1] at h, fun _ _ _ _ _ _ _ _ _ _ _ r h => by simp [conf_Check.j2] at h, fun _ _ _ _ _ _ _ _ _ _ _ _ r h => by simp [conf_Check.j3] at h, fun _ _ _ _ _ _ _ _ _ _ _ r h => by simp [conf_Check.j7] at h, fun _ _ _ _ _ _ _ _ _ _ r h => by simp [conf_Check.j8] at h, fun _ _ _ _ _ _ _ _ _ _ _ _ r h => by simp [conf_Check.j4] at h, fun _ _ _ _ _ _ _ _ _ _ _ r h => by simp [conf_Check.j5] at h, fun _ _ _ _ _ _ _ _ _ _ _ r h => by simp [conf_Check.j6] at h⟩
 | k + 1 => by
  obtain ⟨ih0, ih1, ih2, ih3, ih4, ih5, ih6, ih7, ih8⟩ := conf_Check.mono_l k;refine ⟨?_, ?_, ?_, ?_, ?_, ?_, ?_, ?_, ?_⟩
  ·intro y0 y1 y2 y3 y4 y5 y6 y7 y8;unfold conf_Check.j0
   repeat' with_reducible first | exact ih0 _ _ _ _ _ _ _ _ _ | exact ih1 _ _ _ _ _ _ _ _ _ _ | exact ih2 _ _ _ _ _ _ _ _ _ _ _ | exact ih3 _ _ _ _ _ _ _ _ _ _ _ _ | exact ih4 _ _ _ _ _ _ _ _ _ _ _ | exact ih5 _ _ _ _ _ _ _ _ _ _ | exact ih6 _ _ _ _ _ _ _ _ _ _ _ _ | exact ih7 _ _ _ _ _ _ _ _ _ _ _ | exact ih8 _ _ _ _ _ _ _ _ _ _ _ | exact conf_targets.mono _ _ | exact LeO.refl _ | exact LeO.none _ | refine LeO.ite ?_ ?_ | refine LeO.bind ?_ (fun _ => ?_)
  ·intro y0 y1 y2 y3 y4 y5 y6 y7 y8 y9;unfold conf_Check.j1
   repeat' with_reducible first | exact ih0 _ _ _ _ _ _ _ _ _ | exact ih1 _ _ _ _ _ _ _ _ _ _ | exact ih2 _ _ _ _ _ _ _ _ _ _ _ | exact ih3 _ _ _ _ _ _ _ _ _ _ _ _ | exact ih4 _ _ _ _ _ _ _ _ _ _ _ | exact ih5 _ _ _ _ _ _ _ _ _ _ | exact ih6 _ _ _ _ _ _ _ _ _ _ _ _ | exact ih7 _ _ _ _ _ _ _ _ _ _ _ | exact ih8 _ _ _ _ _ _ _ _ _ _ _ | exact conf_targets.mono _ _ | exact LeO.refl _ | exact LeO.none _ | refine LeO.ite ?_ ?_ | refine LeO.bind ?_ (fun _ => ?_)
  ·intro y0 y1 y2 y3 y4 y5 y6 y7 y8 y9 y10;unfold conf_Check.j2
   repeat' with_reducible first | exact ih0 _ _ _ _ _ _ _ _ _ | exact ih1 _ _ _ _ _ _ _ _ _ _ | exact ih2 _ _ _ _ _ _ _ _ _ _ _ | exact ih3 _ _ _ _ _ _ _ _ _ _ _ _ | exact ih4 _ _ _ _ _ _ _ _ _ _ _ | exact ih5 _ _ _ _ _ _ _ _ _ _ | exact ih6 _ _ _ _ _ _ _ _ _ _ _ _ | exact ih7 _ _ _ _ _ _ _ _ _ _ _ | exact ih8 _ _ _ _ _ _ _ _ _ _ _ | exact conf_targets.mono _ _ | exact LeO.refl _ | exact LeO.none _ | refine LeO.ite ?_ ?_ | refine LeO.bind ?_ (fun _ => ?_)
  ·intro y0 y1 y2 y3 y4 y5 y6 y7 y8 y9 y10 y11;unfold conf_Check.j3
   repeat' with_reducible first | exact ih0 _ _ _ _ _ _ _ _ _ | exact ih1 _ _ _ _ _ _ _ _ _ _ | exact ih2 _ _ _ _ _ _ _ _ _ _ _ | exact ih3 _ _ _ _ _ _ _ _ _ _ _ _ | exact ih4 _ _ _ _ _ _ _ _ _ _ _ | exact ih5 _ _ _ _ _ _ _ _ _ _ | exact ih6 _ _ _ _ _ _ _ _ _ _ _ _ | exact ih7 _ _ _ _ _ _ _ _ _ _ _ | exact ih8 _ _ _ _ _ _ _ _ _ _ _ | exact conf_targets.mono _ _ | exact LeO.refl _ | exact LeO.none _ | refine LeO.ite ?_ ?_ | refine LeO.bind ?_ (fun _ => ?_)
  ·intro y0 y1 y2 y3 y4 y5 y6 y7 y8 y9 y10;unfold conf_Check.j7
   repeat' with_reducible first | exact ih0 _ _ _ _ _ _ _ _ _ | exact ih1 _ _ _ _ _ _ _ _ _ _ | exact ih2 _ _ _ _ _ _ _ _ _ _ _ | exact ih3 _ _ _ _ _ _ _ _ _ _ _ _ | exact ih4 _ _ _ _ _ _ _ _ _ _ _ | exact ih5 _ _ _ _ _ _ _ _ _ _ | exact ih6 _ _ _ _ _ _ _ _ _ _ _ _ | exact ih7 _ _ _ _ _ _ _ _ _ _ _ | exact ih8 _ _ _ _ _ _ _ _ _ _ _ | exact conf_targets.mono _ _ | exact LeO.refl _ | exact LeO.none _ | refine LeO.ite ?_ ?_ | refine LeO.bind ?_ (fun _ => ?_)
  ·intro y0 y1 y2 y3 y4 y5 y6 y7 y8 y9;unfold conf_Check.j8
   repeat' with_reducible first | exact ih0 _ _ _ _ _ _ _ _ _ | exact ih1 _ _ _ _ _ _ _ _ _ _ | exact ih2 _ _ _ _ _ _ _ _ _ _ _ | exact ih3 _ _ _ _ _ _ _ _ _ _ _ _ | exact ih4 _ _ _ _ _ _ _ _ _ _ _ | exact ih5 _ _ _ _ _ _ _ _ _ _ | exact ih6 _ _ _ _ _ _ _ _ _ _ _ _ | exact ih7 _ _ _ _ _ _ _ _ _ _ _ | exact ih8 _ _ _ _ _ _ _ _ _ _ _ | exact conf_targets.mono _ _ | exact LeO.refl _ | exact LeO.none _ | refine LeO.ite ?_ ?_ | refine LeO.bind ?_ (fun _ => ?_)
  ·intro y0 y1 y2 y3 y4 y5 y6 y7 y8 y9 y10 y11;unfold conf_Check.j4
   repeat' with_reducible first | exact ih0 _ _ _ _ _ _ _ _ _ | exact ih1 _ _ _ _ _ _ _ _ _ _ | exact ih2 _ _ _ _ _ _ _ _ _ _ _ | exact ih3 _ _ _ _ _ _ _ _ _ _ _ _ | exact ih4 _ _ _ _ _ _ _ _ _ _ _ | exact ih5 _ _ _ _ _ _ _ _ _ _ | exact ih6 _ _ _ _ _ _ _ _ _ _ _ _ | exact ih7 _ _ _ _ _ _ _ _ _ _ _ | exact ih8 _ _ _ _ _ _ _ _ _ _ _ | exact conf_targets.mono _ _ | exact LeO.refl _ | exact LeO.none _ | refine LeO.ite ?_ ?_ | refine LeO.bind ?_ (fun _ => ?_)
  ·intro y0 y1 y2 y3 y4 y5 y6 y7 y8 y9 y10;unfold conf_Check.j5
   repeat' with_reducible first | exact ih0 _ _ _ _ _ _ _ _ _ | exact ih1 _ _ _ _ _ _ _ _ _ _ | exact ih2 _ _ _ _ _ _ _ _ _ _ _ | exact ih3 _ _ _ _ _ _ _ _ _ _ _ _ | exact ih4 _ _ _ _ _ _ _ _ _ _ _ | exact ih5 _ _ _ _ _ _ _ _ _ _ | exact ih6 _ _ _ _ _ _ _ _ _ _ _ _ | exact ih7 _ _ _ _ _ _ _ _ _ _ _ | exact ih8 _ _ _ _ _ _ _ _ _ _ _ | exact conf_targets.mono _ _ | exact LeO.refl _ | exact LeO.none _ | refine LeO.ite ?_ ?_ | refine LeO.bind ?_ (fun _ => ?_)
  intro y0 y1 y2 y3 y4 y5 y6 y7 y8 y9 y10;unfold conf_Check.j6
  repeat' with_reducible first | exact ih0 _ _ _ _ _ _ _ _ _ | exact ih1 _ _ _ _ _ _ _ _ _ _ | exact ih2 _ _ _ _ _ _ _ _ _ _ _ | exact ih3 _ _ _ _ _ _ _ _ _ _ _ _ | exact ih4 _ _ _ _ _ _ _ _ _ _ _ | exact ih5 _ _ _ _ _ _ _ _ _ _ | exact ih6 _ _ _ _ _ _ _ _ _ _ _ _ | exact ih7 _ _ _ _ _ _ _ _ _ _ _ | exact ih8 _ _ _ _ _ _ _ _ _ _ _ | exact conf_targets.mono _ _ | exact LeO.refl _ | exact LeO.none _ | refine LeO.ite ?_ ?_ | refine LeO.bind ?_ (fun _ => ?_)
theorem conf_Check.mono : ∀ a0 a1 a2 a3 a4 a5 a6 a7 k, LeO (conf_Check.f k a0 a1 a2 a3 a4 a5 a6 a7) (conf_Check.f (k + 1) a0 a1 a2 a3 a4 a5 a6 a7) := by
 intro a0 a1 a2 a3 a4 a5 a6 a7 k;obtain ⟨ih0, ih1, ih2, ih3, ih4, ih5, ih6, ih7, ih8⟩ := conf_Check.mono_l k;unfold conf_Check.f
 repeat' with_reducible first | exact ih0 _ _ _ _ _ _ _ _ _ | exact ih1 _ _ _ _ _ _ _ _ _ _ | exact ih2 _ _ _ _ _ _ _ _ _ _ _ | exact ih3 _ _ _ _ _ _ _ _ _ _ _ _ | exact ih4 _ _ _ _ _ _ _ _ _ _ _ | exact ih5 _ _ _ _ _ _ _ _ _ _ | exact ih6 _ _ _ _ _ _ _ _ _ _ _ _ | exact ih7 _ _ _ _ _ _ _ _ _ _ _ | exact ih8 _ _ _ _ _ _ _ _ _ _ _ | exact conf_targets.mono _ _ | exact LeO.refl _ | exact LeO.none _ | refine LeO.ite ?_ ?_ | refine LeO.bind ?_ (fun _ => ?_)
set_option maxHeartbeats 8000000 in
set_option maxRecDepth 100000 in
theorem conf_Check.calls (k : Nat) (a0_0 : Int) (a0_1 : Int) (a0_2 : Int) (a0_3 : Int) (a0_4 : ByteArray) (a0_5 : ByteArray) (a0_6 : ByteArray) (A0_7 : Option Addr) (c0_7 : Nat) (l0_7 : List (S62)) (r : Int) (w : World) (hr0_7 : Kd.C k62 w A0_7 l0_7.length l0_7) (hc0_7 : l0_7.length ≤ c0_7) (h : conf_Check.f k a0_0 a0_1 a0_2 a0_3 a0_4 a0_5 a0_6 l0_7 = some r) :
  Calls Tryz.prog 15 #[.agg #[.int .i64 a0_0, .int .i64 a0_1, .int .i64 a0_2, .int .i64 a0_3, .string a0_4, .string a0_5, .string a0_6, .slice A0_7 l0_7.length c0_7]] w fun e w' => e = .returned (.int .i64 r) ∧ Below w.heap.size w w' := by
 have hu35 := Tryz.underlying35;have HR0_7 := zN hr0_7;have HC0_7 := zN hc0_7;clear hr0_7 hc0_7;have HB := zN (Below.refl w.heap.size w);have H : (if a0_0 = 1 then (conf_Check.j0 k true a0_0 a0_1 a0_2 a0_3 a0_4 a0_5 a0_6 l0_7) else (if a0_0 = 2 then (conf_Check.j0 k true a0_0 a0_1 a0_2 a0_3 a0_4 a0_5 a0_6 l0_7) else (conf_Check.j0 k (a0_0 == 3) a0_0 a0_1 a0_2 a0_3 a0_4 a0_5 a0_6 l0_7))) = some r := h;clear h;have HC2 := zN H;clear H;go_enter Tryz.func15, Tryz.ntmps15;go_upto_region 1 with (first | ((with_reducible refine gate_dst (N := 1) rfl ?_); (try (refine gate_guard (by rfl) ?_; dsimp only)); refine zX #[.int .i64 a0_0, .int .i64 a0_1, .int .i64 a0_2, .int .i64 a0_3, .string a0_4, .string a0_5, .string a0_6, .slice A0_7 l0_7.length c0_7] 35 rfl ?_; intro gb112 hg w3 hbox hb; have BK112 := zN hbox; have GW112 := zY w (zB HB) hg; have GE112 := zY w (zB HB) hg; replace HB := zk HB hb; clear hb hbox hg))
 (try simp only [Act.put, List.setIfInBounds_toArray, List.set_cons_zero, List.set_cons_succ]);go_cut [3] (fun v3 wc => ∃ (kq : Nat) (x3_1 : Bool), v3 = .bool x3_1 ∧ Aside0 (conf_Check.j0 kq x3_1 a0_0 a0_1 a0_2 a0_3 a0_4 a0_5 a0_6 l0_7 = some r) ∧ Aside0 (kq ≤ k) ∧ Aside0 (wc.heap[gb112]? = some (.cells #[.int .i64 a0_0, .int .i64 a0_1, .int .i64 a0_2, .int .i64 a0_3, .string a0_4, .string a0_5, .string a0_6, (.slice A0_7 l0_7.length c0_7)] 35 (0, 0))) ∧ Aside0 (Below w.heap.size w wc))
 case first =>
  have H := HC2.out;clear HC2;by_cases c4 : a0_0 = 1
  ·rw [zp c4] at H;have c4b0 := beq_iff_eq.mpr c4;have c4b1 := zc.mpr c4;clear c4;(first | rw [c4b0] | (simp only [i64_w, i32_w]; rw [c4b0]) | skip);have H' := zN H;clear H;obtain ⟨hcz5_0, hcz5_1, hcz5_2, hcz5_3, hcz5_4, hcz5_5, hcz5_6, hcz5_7, hfz5_0, hfz5_1, hfz5_2, hfz5_3, hfz5_4, hfz5_5, hfz5_6, hfz5_7⟩ := zC8 BK112;go_wp2;go_meet
   case rel => exact ⟨_, (true), zI, H', ⟨by first | omega | exact zh _⟩, ⟨zK BK112⟩, ⟨zB1 HB GE112⟩⟩
  rw [zn c4] at H;have c4b0 := zb.mpr c4;have c4b1 := bne_iff_ne.mpr c4;(first | rw [c4b0] | (simp only [i64_w, i32_w]; rw [c4b0]) | skip);by_cases c6 : a0_0 = 2
  ·rw [zp c6] at H;have c6b0 := beq_iff_eq.mpr c6;have c6b1 := zc.mpr c6;clear c6;have H' := zN H;clear H;obtain ⟨hcz7_0, hcz7_1, hcz7_2, hcz7_3, hcz7_4, hcz7_5, hcz7_6, hcz7_7, hfz7_0, hfz7_1, hfz7_2, hfz7_3, hfz7_4, hfz7_5, hfz7_6, hfz7_7⟩ := zC8 BK112;go_wp2;go_meet
   case rel => exact ⟨_, (true), zI, H', ⟨by first | omega | exact zh _⟩, ⟨zK BK112⟩, ⟨zB1 HB GE112⟩⟩
  rw [zn c6] at H;have c6b0 := zb.mpr c6;have c6b1 := bne_iff_ne.mpr c6;have H' := zN H;clear H;obtain ⟨hcz8_0, hcz8_1, hcz8_2, hcz8_3, hcz8_4, hcz8_5, hcz8_6, hcz8_7, hfz8_0, hfz8_1, hfz8_2, hfz8_3, hfz8_4, hfz8_5, hfz8_6, hfz8_7⟩ := zC8 BK112;go_wp2;go_meet
  case rel => exact ⟨_, ((a0_0 == 3)), zI, H', ⟨by first | omega | exact zh _⟩, ⟨zK BK112⟩, ⟨zB1 HB GE112⟩⟩
 case rest =>
  clear HC2;obtain ⟨kq, x3_1, rfl, HA, HJ1, BK112, HB⟩ := hcut;cases kq with
  | zero => exact absurd HA.out (by simp [conf_Check.j0])
  | succ kj1 =>
   have H := HA.out;clear HA;simp only [conf_Check.j0] at H;have HC9 := zN H;clear H;go_upto_region 2 with (fail)
   go_cut [4] (fun v4 wc => ∃ (kq : Nat) (x4_8 : Bool), v4 = .bool x4_8 ∧ Aside0 (conf_Check.j1 kq x3_1 x4_8 a0_0 a0_1 a0_2 a0_3 a0_4 a0_5 a0_6 l0_7 = some r) ∧ Aside0 (kq ≤ kj1) ∧ Aside0 (wc.heap[gb112]? = some (.cells #[.int .i64 a0_0, .int .i64 a0_1, .int .i64 a0_2, .int .i64 a0_3, .string a0_4, .string a0_5, .string a0_6, (.slice A0_7 l0_7.length c0_7)] 35 (0, 0))) ∧ Aside0 (Below w.heap.size w wc))
   case first =>
    have H := HC9.out;clear HC9;by_cases c10 : a0_0 = 3
    ·rw [zp c10] at H;have c10b0 := beq_iff_eq.mpr c10;have c10b1 := zc.mpr c10;clear c10;(first | rw [c10b0] | (simp only [i64_w, i32_w]; rw [c10b0]) | skip);have H' := zN H;clear H;obtain ⟨hcz11_0, hcz11_1, hcz11_2, hcz11_3, hcz11_4, hcz11_5, hcz11_6, hcz11_7, hfz11_0, hfz11_1, hfz11_2, hfz11_3, hfz11_4, hfz11_5, hfz11_6, hfz11_7⟩ := zC8 BK112;go_wp2;go_meet
     case rel => exact ⟨_, (true), zI, H', ⟨by have := HJ1.out; first | omega | exact zh _⟩, ⟨zK BK112⟩, ⟨zB1 HB GE112⟩⟩
    rw [zn c10] at H;have c10b0 := zb.mpr c10;have c10b1 := bne_iff_ne.mpr c10;(first | rw [c10b0] | (simp only [i64_w, i32_w]; rw [c10b0]) | skip);have H' := zN H;clear H;obtain ⟨hcz12_0, hcz12_1, hcz12_2, hcz12_3, hcz12_4, hcz12_5, hcz12_6, hcz12_7, hfz12_0, hfz12_1, hfz12_2, hfz12_3, hfz12_4, hfz12_5, hfz12_6, hfz12_7⟩ := zC8 BK112;go_wp2;go_meet
    case rel => exact ⟨_, ((a0_0 == 4)), zI, H', ⟨by have := HJ1.out; first | omega | exact zh _⟩, ⟨zK BK112⟩, ⟨zB1 HB GE112⟩⟩
   case rest =>
    clear HC9;obtain ⟨kq, x4_8, rfl, HA, HJ8, BK112, HB⟩ := hcut;cases kq with
    | zero => exact absurd HA.out (by simp [conf_Check.j1])
    | succ kj8 =>
     have H := HA.out;clear HA;simp only [conf_Check.j1] at H;have HC13 := zN H;clear H;obtain ⟨hcz14_0, hcz14_1, hcz14_2, hcz14_3, hcz14_4, hcz14_5, hcz14_6, hcz14_7, hfz14_0, hfz14_1, hfz14_2, hfz14_3, hfz14_4, hfz14_5, hfz14_6, hfz14_7⟩ := zC8 BK112;go_upto_if 32 with (fail)
     go_cut [5] (fun v5 wc => ∃ (kq : Nat) (x5_12 : Bool), v5 = .bool x5_12 ∧ Aside0 (conf_Check.j2 kq x3_1 x4_8 x5_12 a0_0 a0_1 a0_2 a0_3 a0_4 a0_5 a0_6 l0_7 = some r) ∧ Aside0 (kq ≤ kj8) ∧ Aside0 (wc.heap[gb112]? = some (.cells #[.int .i64 a0_0, .int .i64 a0_1, .int .i64 a0_2, .int .i64 a0_3, .string a0_4, .string a0_5, .string a0_6, (.slice A0_7 l0_7.length c0_7)] 35 (0, 0))) ∧ Aside0 (Below w.heap.size w wc))
     case first =>
      have H := HC13.out;clear HC13;by_cases c15 : a0_1 = 0
      ·rw [zp c15] at H;have c15b0 := beq_iff_eq.mpr c15;have c15b1 := zc.mpr c15;clear c15;(first | rw [c15b0] | (simp only [i64_w, i32_w]; rw [c15b0]) | skip);have H' := zN H;clear H;go_wp2;go_meet
       case rel => exact ⟨_, ((a0_2 == 0)), zI, H', ⟨by have := HJ1.out; have := HJ8.out; first | omega | exact zh _⟩, ⟨zK BK112⟩, ⟨zB1 HB GE112⟩⟩
      rw [zn c15] at H;have c15b0 := zb.mpr c15;have c15b1 := bne_iff_ne.mpr c15;(first | rw [c15b0] | (simp only [i64_w, i32_w]; rw [c15b0]) | skip);by_cases c16 : a0_2 ≥ 1
      ·rw [zp c16] at H;have c16b0 : decide (1 ≤ a0_2) = true := zt c16;clear c16;have H' := zN H;clear H;obtain ⟨hcz17_0, hcz17_1, hcz17_2, hcz17_3, hcz17_4, hcz17_5, hcz17_6, hcz17_7, hfz17_0, hfz17_1, hfz17_2, hfz17_3, hfz17_4, hfz17_5, hfz17_6, hfz17_7⟩ := zC8 BK112;go_wp2;go_meet
       case rel => exact ⟨_, (decide (a0_2 ≤ 1099511627776)), zI, H', ⟨by have := HJ1.out; have := HJ8.out; first | omega | exact zh _⟩, ⟨zK BK112⟩, ⟨zB1 HB GE112⟩⟩
      rw [zn c16] at H;have c16b0 : decide (1 ≤ a0_2) = false := zf c16;clear c16;have H' := zN H;clear H;obtain ⟨hcz18_0, hcz18_1, hcz18_2, hcz18_3, hcz18_4, hcz18_5, hcz18_6, hcz18_7, hfz18_0, hfz18_1, hfz18_2, hfz18_3, hfz18_4, hfz18_5, hfz18_6, hfz18_7⟩ := zC8 BK112;go_wp2;go_meet
      case rel => exact ⟨_, (false), zI, H', ⟨by have := HJ1.out; have := HJ8.out; first | omega | exact zh _⟩, ⟨zK BK112⟩, ⟨zB1 HB GE112⟩⟩
     case rest =>
      clear HC13
      try clear hcz14_0
      try clear hcz14_1
      try clear hcz14_2
      try clear hcz14_3
      try clear hcz14_4
      try clear hcz14_5
      try clear hcz14_6
      try clear hcz14_7
      try clear hfz14_0
      try clear hfz14_1
      try clear hfz14_2
      try clear hfz14_3
      try clear hfz14_4
      try clear hfz14_5
      try clear hfz14_6
      try clear hfz14_7
      obtain ⟨kq, x5_12, rfl, HA, HJ12, BK112, HB⟩ := hcut;cases kq with
      | zero => exact absurd HA.out (by simp [conf_Check.j2])
      | succ kj12 =>
       have H := HA.out;clear HA;simp only [conf_Check.j2] at H;have HC19 := zN H;clear H;go_upto_region 6 with (fail)
       go_cut [41] (fun v41 wc => ∃ (kq : Nat) (x41_18 : Bool), v41 = .bool x41_18 ∧ Aside0 (conf_Check.j3 kq x3_1 x4_8 x5_12 x41_18 a0_0 a0_1 a0_2 a0_3 a0_4 a0_5 a0_6 l0_7 = some r) ∧ Aside0 (kq ≤ kj12) ∧ Aside0 (wc.heap[gb112]? = some (.cells #[.int .i64 a0_0, .int .i64 a0_1, .int .i64 a0_2, .int .i64 a0_3, .string a0_4, .string a0_5, .string a0_6, (.slice A0_7 l0_7.length c0_7)] 35 (0, 0))) ∧ Aside0 (Below w.heap.size w wc))
       case first =>
        have H := HC19.out;clear HC19;by_cases c20 : x3_1 = true
        ·subst c20;have H1 := H; rw [zp rfl] at H1;clear H;have H := H1;clear H1;have H' := zN H;clear H;go_wp2;go_meet
         case rel => exact ⟨_, (false), zI, H', ⟨by have := HJ1.out; have := HJ8.out; have := HJ12.out; first | omega | exact zh _⟩, ⟨zK BK112⟩, ⟨zB1 HB GE112⟩⟩
        replace c20 := zq.mpr c20;subst c20;have H1 := H; rw [zn (show ¬ (false = true) by decide)] at H1;clear H;have H := H1;clear H1;have H' := zN H;clear H;go_wp2;go_meet
        case rel => exact ⟨_, (!x4_8), zI, H', ⟨by have := HJ1.out; have := HJ8.out; have := HJ12.out; first | omega | exact zh _⟩, ⟨zK BK112⟩, ⟨zB1 HB GE112⟩⟩
       case rest =>
        clear HC19
        try clear hcz14_0
        try clear hcz14_1
        try clear hcz14_2
        try clear hcz14_3
        try clear hcz14_4
        try clear hcz14_5
        try clear hcz14_6
        try clear hcz14_7
        try clear hfz14_0
        try clear hfz14_1
        try clear hfz14_2
        try clear hfz14_3
        try clear hfz14_4
        try clear hfz14_5
        try clear hfz14_6
        try clear hfz14_7
        obtain ⟨kq, x41_18, rfl, HA, HJ18, BK112, HB⟩ := hcut;cases kq with
        | zero => exact absurd HA.out (by simp [conf_Check.j3])
        | succ kj18 =>
         have H := HA.out;clear HA;simp only [conf_Check.j3] at H;have HC21 := zN H;clear H;go_upto_if 41 with (fail)
         go_cut [41] (fun v41 wc => ∃ (kq : Nat) (x41_20 : Bool), v41 = .bool x41_20 ∧ Aside0 (conf_Check.j7 kq x3_1 x4_8 x41_20 a0_0 a0_1 a0_2 a0_3 a0_4 a0_5 a0_6 l0_7 = some r) ∧ Aside0 (kq ≤ kj18) ∧ Aside0 (wc.heap[gb112]? = some (.cells #[.int .i64 a0_0, .int .i64 a0_1, .int .i64 a0_2, .int .i64 a0_3, .string a0_4, .string a0_5, .string a0_6, (.slice A0_7 l0_7.length c0_7)] 35 (0, 0))) ∧ Aside0 (Below w.heap.size w wc))
         case first =>
          have H := HC21.out;clear HC21;by_cases c22 : x41_18 = true
          ·subst c22;have H1 := H; rw [zp rfl] at H1;clear H;have H := H1;clear H1;have H' := zN H;clear H;go_wp2;go_meet
           case rel => exact ⟨_, (true), zI, H', ⟨by have := HJ1.out; have := HJ8.out; have := HJ12.out; have := HJ18.out; first | omega | exact zh _⟩, ⟨zK BK112⟩, ⟨zB1 HB GE112⟩⟩
          replace c22 := zq.mpr c22;subst c22;have H1 := H; rw [zn (show ¬ (false = true) by decide)] at H1;clear H;have H := H1;clear H1;have HC23 := zN H;clear H;go_upto_region 7 with (fail)
          go_cut [41] (fun v41 wc => ∃ (kq : Nat) (x41_22 : Bool), v41 = .bool x41_22 ∧ Aside0 (conf_Check.j4 kq x3_1 x4_8 x5_12 x41_22 a0_0 a0_1 a0_2 a0_3 a0_4 a0_5 a0_6 l0_7 = some r) ∧ Aside0 (kq ≤ kj18) ∧ Aside0 (wc.heap[gb112]? = some (.cells #[.int .i64 a0_0, .int .i64 a0_1, .int .i64 a0_2, .int .i64 a0_3, .string a0_4, .string a0_5, .string a0_6, (.slice A0_7 l0_7.length c0_7)] 35 (0, 0))) ∧ Aside0 (Below w.heap.size w wc))
          case first =>
           have H := HC23.out;clear HC23;by_cases c24 : a0_1 < 0
           ·rw [zp c24] at H;have c24b0 := zt c24;clear c24;(first | rw [c24b0] | (simp only [i64_w, i32_w]; rw [c24b0]) | skip);have H' := zN H;clear H;obtain ⟨hcz25_0, hcz25_1, hcz25_2, hcz25_3, hcz25_4, hcz25_5, hcz25_6, hcz25_7, hfz25_0, hfz25_1, hfz25_2, hfz25_3, hfz25_4, hfz25_5, hfz25_6, hfz25_7⟩ := zC8 BK112;go_wp2;go_meet
            case rel => exact ⟨_, (true), zI, H', ⟨by have := HJ1.out; have := HJ8.out; have := HJ12.out; have := HJ18.out; first | omega | exact zh _⟩, ⟨zK BK112⟩, ⟨zB1 HB GE112⟩⟩
           rw [zn c24] at H;have c24b0 := zf c24;clear c24;(first | rw [c24b0] | (simp only [i64_w, i32_w]; rw [c24b0]) | skip);have H' := zN H;clear H;obtain ⟨hcz26_0, hcz26_1, hcz26_2, hcz26_3, hcz26_4, hcz26_5, hcz26_6, hcz26_7, hfz26_0, hfz26_1, hfz26_2, hfz26_3, hfz26_4, hfz26_5, hfz26_6, hfz26_7⟩ := zC8 BK112;go_wp2;go_meet
           case rel => exact ⟨_, (decide (a0_1 > 32)), zI, H', ⟨by have := HJ1.out; have := HJ8.out; have := HJ12.out; have := HJ18.out; first | omega | exact zh _⟩, ⟨zK BK112⟩, ⟨zB1 HB GE112⟩⟩
          case rest =>
           clear HC23
           try clear c22
           try clear hcz14_0
           try clear hcz14_1
           try clear hcz14_2
           try clear hcz14_3
           try clear hcz14_4
           try clear hcz14_5
           try clear hcz14_6
           try clear hcz14_7
           try clear hfz14_0
           try clear hfz14_1
           try clear hfz14_2
           try clear hfz14_3
           try clear hfz14_4
           try clear hfz14_5
           try clear hfz14_6
           try clear hfz14_7
           obtain ⟨kq, x41_22, rfl, HA, HJ22, BK112, HB⟩ := hcut;cases kq with
           | zero => exact absurd HA.out (by simp [conf_Check.j4])
           | succ kj22 =>
            have H := HA.out;clear HA;simp only [conf_Check.j4] at H;by_cases c27 : x41_22 = true
            ·subst c27;have H1 := H; rw [zp rfl] at H1;clear H;have H := H1;clear H1;have H' := zN H;clear H;go_wp2;go_meet
             case rel => exact ⟨_, (true), zI, H', ⟨by have := HJ1.out; have := HJ8.out; have := HJ12.out; have := HJ18.out; have := HJ22.out; first | omega | exact zh _⟩, ⟨zK BK112⟩, ⟨zB1 HB GE112⟩⟩
            replace c27 := zq.mpr c27;subst c27;have H1 := H; rw [zn (show ¬ (false = true) by decide)] at H1;clear H;have H := H1;clear H1;by_cases c28 : x5_12 = true;rotate_left
            ·replace c28 := zq.mpr c28;subst c28;have H1 := H; rw [zn (show ¬ (false = true) by decide)] at H1;clear H;have H := H1;clear H1;have H' := zN H;clear H;go_wp2;go_meet
             case rel => exact ⟨_, (!false), zI, H', ⟨by have := HJ1.out; have := HJ8.out; have := HJ12.out; have := HJ18.out; have := HJ22.out; first | omega | exact zh _⟩, ⟨zK BK112⟩, ⟨zB1 HB GE112⟩⟩
            subst c28;have H1 := H; rw [zp rfl] at H1;clear H;have H := H1;clear H1;have HC29 := zN H;clear H;go_upto_region 9 with (fail)
            go_cut [41] (fun v41 wc => ∃ (kq : Nat) (x41_28 : Bool), v41 = .bool x41_28 ∧ Aside0 (conf_Check.j5 kq x3_1 x4_8 x41_28 a0_0 a0_1 a0_2 a0_3 a0_4 a0_5 a0_6 l0_7 = some r) ∧ Aside0 (kq ≤ kj22) ∧ Aside0 (wc.heap[gb112]? = some (.cells #[.int .i64 a0_0, .int .i64 a0_1, .int .i64 a0_2, .int .i64 a0_3, .string a0_4, .string a0_5, .string a0_6, (.slice A0_7 l0_7.length c0_7)] 35 (0, 0))) ∧ Aside0 (Below w.heap.size w wc))
            case first =>
             have H := HC29.out;clear HC29;by_cases c30 : a0_3 < (-1)
             ·rw [zp c30] at H;have c30b0 := zt c30;clear c30;(first | rw [c30b0] | (simp only [i64_w, i32_w]; rw [c30b0]) | skip);have H' := zN H;clear H;obtain ⟨hcz31_0, hcz31_1, hcz31_2, hcz31_3, hcz31_4, hcz31_5, hcz31_6, hcz31_7, hfz31_0, hfz31_1, hfz31_2, hfz31_3, hfz31_4, hfz31_5, hfz31_6, hfz31_7⟩ := zC8 BK112;go_wp2;go_meet
              case rel => exact ⟨_, (true), zI, H', ⟨by have := HJ1.out; have := HJ8.out; have := HJ12.out; have := HJ18.out; have := HJ22.out; first | omega | exact zh _⟩, ⟨zK BK112⟩, ⟨zB1 HB GE112⟩⟩
             rw [zn c30] at H;have c30b0 := zf c30;clear c30;(first | rw [c30b0] | (simp only [i64_w, i32_w]; rw [c30b0]) | skip);have H' := zN H;clear H;obtain ⟨hcz32_0, hcz32_1, hcz32_2, hcz32_3, hcz32_4, hcz32_5, hcz32_6, hcz32_7, hfz32_0, hfz32_1, hfz32_2, hfz32_3, hfz32_4, hfz32_5, hfz32_6, hfz32_7⟩ := zC8 BK112;go_wp2;go_meet
             case rel => exact ⟨_, (decide (a0_3 ≥ 1099511627776)), zI, H', ⟨by have := HJ1.out; have := HJ8.out; have := HJ12.out; have := HJ18.out; have := HJ22.out; first | omega | exact zh _⟩, ⟨zK BK112⟩, ⟨zB1 HB GE112⟩⟩
            case rest =>
             clear HC29
             try clear c22
             try clear c27
             try clear c28
             try clear hcz14_0
             try clear hcz14_1
             try clear hcz14_2
             try clear hcz14_3
             try clear hcz14_4
             try clear hcz14_5
             try clear hcz14_6
             try clear hcz14_7
             try clear hfz14_0
             try clear hfz14_1
             try clear hfz14_2
             try clear hfz14_3
             try clear hfz14_4
             try clear hfz14_5
             try clear hfz14_6
             try clear hfz14_7
             obtain ⟨kq, x41_28, rfl, HA, HJ28, BK112, HB⟩ := hcut;cases kq with
             | zero => exact absurd HA.out (by simp [conf_Check.j5])
             | succ kj28 =>
              have H := HA.out;clear HA;simp only [conf_Check.j5] at H;by_cases c33 : x41_28 = true
              ·subst c33;have H1 := H; rw [zp rfl] at H1;clear H;have H := H1;clear H1;have H' := zN H;clear H;go_wp2;go_meet
               case rel => exact ⟨_, (true), zI, H', ⟨by have := HJ1.out; have := HJ8.out; have := HJ12.out; have := HJ18.out; have := HJ22.out; have := HJ28.out; first | omega | exact zh _⟩, ⟨zK BK112⟩, ⟨zB1 HB GE112⟩⟩
              replace c33 := zq.mpr c33;subst c33;have H1 := H; rw [zn (show ¬ (false = true) by decide)] at H1;clear H;have H := H1;clear H1;have HC34 := zN H;clear H;go_upto_region 10 with (fail)
              go_cut [41] (fun v41 wc => ∃ (kq : Nat) (x41_33 : Bool), v41 = .bool x41_33 ∧ Aside0 (conf_Check.j6 kq x3_1 x4_8 x41_33 a0_0 a0_1 a0_2 a0_3 a0_4 a0_5 a0_6 l0_7 = some r) ∧ Aside0 (kq ≤ kj28) ∧ Aside0 (wc.heap[gb112]? = some (.cells #[.int .i64 a0_0, .int .i64 a0_1, .int .i64 a0_2, .int .i64 a0_3, .string a0_4, .string a0_5, .string a0_6, (.slice A0_7 l0_7.length c0_7)] 35 (0, 0))) ∧ Aside0 (Below w.heap.size w wc))
              case first =>
               have H := HC34.out;clear HC34;by_cases c35 : x3_1 = true
               ·subst c35;have H1 := H; rw [zp rfl] at H1;clear H;have H := H1;clear H1;have H' := zN H;clear H;go_wp2;go_meet
                case rel => exact ⟨_, (false), zI, H', ⟨by have := HJ1.out; have := HJ8.out; have := HJ12.out; have := HJ18.out; have := HJ22.out; have := HJ28.out; first | omega | exact zh _⟩, ⟨zK BK112⟩, ⟨zB1 HB GE112⟩⟩
               replace c35 := zq.mpr c35;subst c35;have H1 := H; rw [zn (show ¬ (false = true) by decide)] at H1;clear H;have H := H1;clear H1;have H' := zN H;clear H;obtain ⟨hcz36_0, hcz36_1, hcz36_2, hcz36_3, hcz36_4, hcz36_5, hcz36_6, hcz36_7, hfz36_0, hfz36_1, hfz36_2, hfz36_3, hfz36_4, hfz36_5, hfz36_6, hfz36_7⟩ := zC8 BK112;go_wp2;go_meet
               case rel => exact ⟨_, ((a0_6.toList != ([] : List UInt8))), (by first | rfl | (simp; done) | (simp [*]; done) | (simp [*]; cases a0_6.toList <;> rfl)), H', ⟨by have := HJ1.out; have := HJ8.out; have := HJ12.out; have := HJ18.out; have := HJ22.out; have := HJ28.out; first | omega | exact zh _⟩, ⟨zK BK112⟩, ⟨zB1 HB GE112⟩⟩
              case rest =>
               clear HC34
               try clear c22
               try clear c27
               try clear c28
               try clear c33
               try clear hcz14_0
               try clear hcz14_1
               try clear hcz14_2
               try clear hcz14_3
               try clear hcz14_4
               try clear hcz14_5
               try clear hcz14_6
               try clear hcz14_7
               try clear hfz14_0
               try clear hfz14_1
               try clear hfz14_2
               try clear hfz14_3
               try clear hfz14_4
               try clear hfz14_5
               try clear hfz14_6
               try clear hfz14_7
               obtain ⟨kq, x41_33, rfl, HA, HJ33, BK112, HB⟩ := hcut;cases kq with
               | zero => exact absurd HA.out (by simp [conf_Check.j6])
               | succ kj33 =>
                have H := HA.out;clear HA;simp only [conf_Check.j6] at H;by_cases c37 : x41_33 = true
                ·subst c37;have H1 := H; rw [zp rfl] at H1;clear H;have H := H1;clear H1;have H' := zN H;clear H;go_wp2;go_meet
                 case rel => exact ⟨_, (true), zI, H', ⟨by have := HJ1.out; have := HJ8.out; have := HJ12.out; have := HJ18.out; have := HJ22.out; have := HJ28.out; have := HJ33.out; first | omega | exact zh _⟩, ⟨zK BK112⟩, ⟨zB1 HB GE112⟩⟩
                replace c37 := zq.mpr c37;subst c37;have H1 := H; rw [zn (show ¬ (false = true) by decide)] at H1;clear H;have H := H1;clear H1;by_cases c38 : x4_8 = true
                ·subst c38;have H1 := H; rw [zp rfl] at H1;clear H;have H := H1;clear H1;by_cases c39 : a0_0 = 1
                 ·rw [zp c39] at H;have c39b0 := beq_iff_eq.mpr c39;have c39b1 := zc.mpr c39;clear c39;have H' := zN H;clear H;obtain ⟨hcz40_0, hcz40_1, hcz40_2, hcz40_3, hcz40_4, hcz40_5, hcz40_6, hcz40_7, hfz40_0, hfz40_1, hfz40_2, hfz40_3, hfz40_4, hfz40_5, hfz40_6, hfz40_7⟩ := zC8 BK112;go_wp2;go_meet
                  case rel => exact ⟨_, (false), zI, H', ⟨by have := HJ1.out; have := HJ8.out; have := HJ12.out; have := HJ18.out; have := HJ22.out; have := HJ28.out; have := HJ33.out; first | omega | exact zh _⟩, ⟨zK BK112⟩, ⟨zB1 HB GE112⟩⟩
                 rw [zn c39] at H;have c39b0 := zb.mpr c39;have c39b1 := bne_iff_ne.mpr c39;have H' := zN H;clear H;obtain ⟨hcz41_0, hcz41_1, hcz41_2, hcz41_3, hcz41_4, hcz41_5, hcz41_6, hcz41_7, hfz41_0, hfz41_1, hfz41_2, hfz41_3, hfz41_4, hfz41_5, hfz41_6, hfz41_7⟩ := zC8 BK112;go_wp2;go_meet
                 case rel => exact ⟨_, (decide ((l0_7.length : Int) > 0)), zI, H', ⟨by have := HJ1.out; have := HJ8.out; have := HJ12.out; have := HJ18.out; have := HJ22.out; have := HJ28.out; have := HJ33.out; first | omega | exact zh _⟩, ⟨zK BK112⟩, ⟨zB1 HB GE112⟩⟩
                replace c38 := zq.mpr c38;subst c38;have H1 := H; rw [zn (show ¬ (false = true) by decide)] at H1;clear H;have H := H1;clear H1;by_cases c42 : a0_4.toList = ([] : List UInt8);rotate_left
                ·rw [zn c42] at H;have c42b0 := zb.mpr c42;have c42b1 := bne_iff_ne.mpr c42;have H' := zN H;clear H;obtain ⟨hcz48_0, hcz48_1, hcz48_2, hcz48_3, hcz48_4, hcz48_5, hcz48_6, hcz48_7, hfz48_0, hfz48_1, hfz48_2, hfz48_3, hfz48_4, hfz48_5, hfz48_6, hfz48_7⟩ := zC8 BK112;go_wp2;go_meet
                 case rel => exact ⟨_, (true), zI, H', ⟨by have := HJ1.out; have := HJ8.out; have := HJ12.out; have := HJ18.out; have := HJ22.out; have := HJ28.out; have := HJ33.out; first | omega | exact zh _⟩, ⟨zK BK112⟩, ⟨zB1 HB GE112⟩⟩
                rw [zp c42] at H;have c42b0 := beq_iff_eq.mpr c42;have c42b1 := zc.mpr c42;clear c42;by_cases c43 : a0_5.toList = ([] : List UInt8);rotate_left
                ·rw [zn c43] at H;have c43b0 := zb.mpr c43;have c43b1 := bne_iff_ne.mpr c43;have H' := zN H;clear H;obtain ⟨hcz47_0, hcz47_1, hcz47_2, hcz47_3, hcz47_4, hcz47_5, hcz47_6, hcz47_7, hfz47_0, hfz47_1, hfz47_2, hfz47_3, hfz47_4, hfz47_5, hfz47_6, hfz47_7⟩ := zC8 BK112;go_wp2;go_meet
                 case rel => exact ⟨_, ((a0_5.toList != ([] : List UInt8))), zI, H', ⟨by have := HJ1.out; have := HJ8.out; have := HJ12.out; have := HJ18.out; have := HJ22.out; have := HJ28.out; have := HJ33.out; first | omega | exact zh _⟩, ⟨zK BK112⟩, ⟨zB1 HB GE112⟩⟩
                rw [zp c43] at H;have c43b0 := beq_iff_eq.mpr c43;have c43b1 := zc.mpr c43;clear c43;by_cases c44 : a0_0 = 1
                ·rw [zp c44] at H;have c44b0 := beq_iff_eq.mpr c44;have c44b1 := zc.mpr c44;clear c44;have H' := zN H;clear H;obtain ⟨hcz45_0, hcz45_1, hcz45_2, hcz45_3, hcz45_4, hcz45_5, hcz45_6, hcz45_7, hfz45_0, hfz45_1, hfz45_2, hfz45_3, hfz45_4, hfz45_5, hfz45_6, hfz45_7⟩ := zC8 BK112;go_wp2;go_meet
                 case rel => exact ⟨_, (false), zI, H', ⟨by have := HJ1.out; have := HJ8.out; have := HJ12.out; have := HJ18.out; have := HJ22.out; have := HJ28.out; have := HJ33.out; first | omega | exact zh _⟩, ⟨zK BK112⟩, ⟨zB1 HB GE112⟩⟩
                rw [zn c44] at H;have c44b0 := zb.mpr c44;have c44b1 := bne_iff_ne.mpr c44;have H' := zN H;clear H;obtain ⟨hcz46_0, hcz46_1, hcz46_2, hcz46_3, hcz46_4, hcz46_5, hcz46_6, hcz46_7, hfz46_0, hfz46_1, hfz46_2, hfz46_3, hfz46_4, hfz46_5, hfz46_6, hfz46_7⟩ := zC8 BK112;go_wp2;go_meet
                case rel => exact ⟨_, (decide ((l0_7.length : Int) > 0)), zI, H', ⟨by have := HJ1.out; have := HJ8.out; have := HJ12.out; have := HJ18.out; have := HJ22.out; have := HJ28.out; have := HJ33.out; first | omega | exact zh _⟩, ⟨zK BK112⟩, ⟨zB1 HB GE112⟩⟩
         case rest =>
          clear HC21
          try clear hcz14_0
          try clear hcz14_1
          try clear hcz14_2
          try clear hcz14_3
          try clear hcz14_4
          try clear hcz14_5
          try clear hcz14_6
          try clear hcz14_7
          try clear hfz14_0
          try clear hfz14_1
          try clear hfz14_2
          try clear hfz14_3
          try clear hfz14_4
          try clear hfz14_5
          try clear hfz14_6
          try clear hfz14_7
          obtain ⟨kq, x41_20, rfl, HA, HJ20, BK112, HB⟩ := hcut;cases kq with
          | zero => exact absurd HA.out (by simp [conf_Check.j7])
          | succ kj20 =>
           have H := HA.out;clear HA;simp only [conf_Check.j7] at H;by_cases c49 : x41_20 = true
           ·subst c49;have H1 := H; rw [zp rfl] at H1;clear H;have H := H1;clear H1;obtain rfl := zo H;go_wp2;go_ret;exact ⟨zE, zB1 HB GE112⟩
           replace c49 := zq.mpr c49;subst c49;have H1 := H; rw [zn (show ¬ (false = true) by decide)] at H1;clear H;have H := H1;clear H1;have HC50 := zN H;clear H;go_upto_region 14 with (fail)
           go_cut [94] (fun v94 wc => ∃ (kq : Nat) (x94_49 : Bool), v94 = .bool x94_49 ∧ Aside0 (conf_Check.j8 kq x4_8 x94_49 a0_0 a0_1 a0_2 a0_3 a0_4 a0_5 a0_6 l0_7 = some r) ∧ Aside0 (kq ≤ kj20) ∧ Aside0 (wc.heap[gb112]? = some (.cells #[.int .i64 a0_0, .int .i64 a0_1, .int .i64 a0_2, .int .i64 a0_3, .string a0_4, .string a0_5, .string a0_6, (.slice A0_7 l0_7.length c0_7)] 35 (0, 0))) ∧ Aside0 (Below w.heap.size w wc))
           case first =>
            have H := HC50.out;clear HC50;by_cases c51 : x3_1 = true
            ·subst c51;have H1 := H; rw [zp rfl] at H1;clear H;have H := H1;clear H1;obtain ⟨t113, A52, H⟩ := zA H;(try dsimp only at H);have H' := zN H;clear H;obtain ⟨hcz53_0, hcz53_1, hcz53_2, hcz53_3, hcz53_4, hcz53_5, hcz53_6, hcz53_7, hfz53_0, hfz53_1, hfz53_2, hfz53_3, hfz53_4, hfz53_5, hfz53_6, hfz53_7⟩ := zC8 BK112;go_wp2_with (first | (go_at_call 35; (with_reducible refine (conf_poolName.calls a0_6 t113 _ A52.out).mono ?_); rintro e w54 ⟨rfl, hb⟩; replace BK112 := zj BK112 hb; replace HB := zk1 HB GE112 hb; (try clear hb); (try clear hb2); (try clear hk); (try clear hi)));go_meet
             case rel => exact ⟨_, (!t113), zI, H', ⟨by have := HJ1.out; have := HJ8.out; have := HJ12.out; have := HJ18.out; have := HJ20.out; first | omega | exact zh _⟩, ⟨zK BK112⟩, ⟨zB1 HB GE112⟩⟩
            replace c51 := zq.mpr c51;subst c51;have H1 := H; rw [zn (show ¬ (false = true) by decide)] at H1;clear H;have H := H1;clear H1;have H' := zN H;clear H;go_wp2;go_meet
            case rel => exact ⟨_, (false), zI, H', ⟨by have := HJ1.out; have := HJ8.out; have := HJ12.out; have := HJ18.out; have := HJ20.out; first | omega | exact zh _⟩, ⟨zK BK112⟩, ⟨zB1 HB GE112⟩⟩
           case rest =>
            clear HC50
            try clear c49
            try clear hcz14_0
            try clear hcz14_1
            try clear hcz14_2
            try clear hcz14_3
            try clear hcz14_4
            try clear hcz14_5
            try clear hcz14_6
            try clear hcz14_7
            try clear hfz14_0
            try clear hfz14_1
            try clear hfz14_2
            try clear hfz14_3
            try clear hfz14_4
            try clear hfz14_5
            try clear hfz14_6
            try clear hfz14_7
            obtain ⟨kq, x94_49, rfl, HA, HJ49, BK112, HB⟩ := hcut;cases kq with
            | zero => exact absurd HA.out (by simp [conf_Check.j8])
            | succ kj49 =>
             have H := HA.out;clear HA;simp only [conf_Check.j8] at H;by_cases c55 : x94_49 = true
             ·subst c55;have H1 := H; rw [zp rfl] at H1;clear H;have H := H1;clear H1;obtain rfl := zo H;go_wp2;go_ret;exact ⟨zE, zB1 HB GE112⟩
             replace c55 := zq.mpr c55;subst c55;have H1 := H; rw [zn (show ¬ (false = true) by decide)] at H1;clear H;have H := H1;clear H1;by_cases c56 : x4_8 = true;rotate_left
             ·replace c56 := zq.mpr c56;subst c56;have H1 := H; rw [zn (show ¬ (false = true) by decide)] at H1;clear H;have H := H1;clear H1;obtain ⟨t117, A74, H⟩ := zA H;(try dsimp only at H);obtain rfl := zo H;obtain ⟨hcz75_0, hcz75_1, hcz75_2, hcz75_3, hcz75_4, hcz75_5, hcz75_6, hcz75_7, hfz75_0, hfz75_1, hfz75_2, hfz75_3, hfz75_4, hfz75_5, hfz75_6, hfz75_7⟩ := zC8 BK112;go_wp2_with (first | ((with_reducible refine gate_callee (f := 38) rfl ?_); refine zg (some 117) Tryz.func38 #[.slice A0_7 l0_7.length c0_7] ?_; (with_reducible refine (conf_targets.calls kj49 _ _ l0_7 t117 _ ?side1 ?side2 A74.out).mono ?_); (case side1 => exact zs (Kd.C_below HR0_7.out HB.out)); (case side2 => exact HC0_7.out); rintro e w76 ⟨rfl, hb⟩; refine ⟨_, rfl, ?_⟩; replace BK112 := zj BK112 hb; replace HB := zk1 HB GE112 hb; (try clear hb); (try clear hb2); (try clear hk); (try clear hi)));go_ret;exact ⟨zE, zB1 HB GE112⟩
             subst c56;have H1 := H; rw [zp rfl] at H1;clear H;have H := H1;clear H1;obtain ⟨t114, A57, H⟩ := zA H;(try dsimp only at H);by_cases c58 : t114 = true;rotate_left
             ·replace c58 := zq.mpr c58;subst c58;have H1 := H; rw [zn (show ¬ (false = true) by decide)] at H1;clear H;have H := H1;clear H1;obtain rfl := zo H;obtain ⟨hcz72_0, hcz72_1, hcz72_2, hcz72_3, hcz72_4, hcz72_5, hcz72_6, hcz72_7, hfz72_0, hfz72_1, hfz72_2, hfz72_3, hfz72_4, hfz72_5, hfz72_6, hfz72_7⟩ := zC8 BK112;go_wp2_with (first | (go_at_call 36; (with_reducible refine (conf_host.calls a0_4 false _ A57.out).mono ?_); rintro e w73 ⟨rfl, hb⟩; replace BK112 := zj BK112 hb; replace HB := zk1 HB GE112 hb; (try clear hb); (try clear hb2); (try clear hk); (try clear hi)));go_ret;exact ⟨zE, zB1 HB GE112⟩
             subst c58;have H1 := H; rw [zp rfl] at H1;clear H;have H := H1;clear H1;obtain ⟨t115, A59, H⟩ := zA H;(try dsimp only at H);by_cases c60 : t115 = true
             ·subst c60;have H1 := H; rw [zp rfl] at H1;clear H;have H := H1;clear H1;obtain ⟨t116, A61, H⟩ := zA H;(try dsimp only at H);obtain rfl := zo H;obtain ⟨hcz62_0, hcz62_1, hcz62_2, hcz62_3, hcz62_4, hcz62_5, hcz62_6, hcz62_7, hfz62_0, hfz62_1, hfz62_2, hfz62_3, hfz62_4, hfz62_5, hfz62_6, hfz62_7⟩ := zC8 BK112;go_wp2_with (first | (go_at_call 36; (with_reducible refine (conf_host.calls a0_4 true _ A57.out).mono ?_); rintro e w63 ⟨rfl, hb⟩; replace BK112 := zj BK112 hb; replace HB := zk1 HB GE112 hb; (try clear hb); (try clear hb2); (try clear hk); (try clear hi); obtain ⟨hcz64_0, hcz64_1, hcz64_2, hcz64_3, hcz64_4, hcz64_5, hcz64_6, hcz64_7, hfz64_0, hfz64_1, hfz64_2, hfz64_3, hfz64_4, hfz64_5, hfz64_6, hfz64_7⟩ := zC8 BK112) | (go_at_call 37; (with_reducible refine (conf_prefix.calls a0_5 true _ A59.out).mono ?_); rintro e w65 ⟨rfl, hb⟩; replace BK112 := zj BK112 hb; replace HB := zk1 HB GE112 hb; (try clear hb); (try clear hb2); (try clear hk); (try clear hi); obtain ⟨hcz66_0, hcz66_1, hcz66_2, hcz66_3, hcz66_4, hcz66_5, hcz66_6, hcz66_7, hfz66_0, hfz66_1, hfz66_2, hfz66_3, hfz66_4, hfz66_5, hfz66_6, hfz66_7⟩ := zC8 BK112) | ((with_reducible refine gate_callee (f := 38) rfl ?_); refine zg (some 117) Tryz.func38 #[.slice A0_7 l0_7.length c0_7] ?_; (with_reducible refine (conf_targets.calls kj49 _ _ l0_7 t116 _ ?side1 ?side2 A61.out).mono ?_); (case side1 => exact zs (Kd.C_below HR0_7.out HB.out)); (case side2 => exact HC0_7.out); rintro e w67 ⟨rfl, hb⟩; refine ⟨_, rfl, ?_⟩; replace BK112 := zj BK112 hb; replace HB := zk1 HB GE112 hb; (try clear hb); (try clear hb2); (try clear hk); (try clear hi)));go_ret;exact ⟨zE, zB1 HB GE112⟩
             replace c60 := zq.mpr c60;subst c60;have H1 := H; rw [zn (show ¬ (false = true) by decide)] at H1;clear H;have H := H1;clear H1;obtain rfl := zo H;obtain ⟨hcz68_0, hcz68_1, hcz68_2, hcz68_3, hcz68_4, hcz68_5, hcz68_6, hcz68_7, hfz68_0, hfz68_1, hfz68_2, hfz68_3, hfz68_4, hfz68_5, hfz68_6, hfz68_7⟩ := zC8 BK112;go_wp2_with (first | (go_at_call 36; (with_reducible refine (conf_host.calls a0_4 true _ A57.out).mono ?_); rintro e w69 ⟨rfl, hb⟩; replace BK112 := zj BK112 hb; replace HB := zk1 HB GE112 hb; (try clear hb); (try clear hb2); (try clear hk); (try clear hi); obtain ⟨hcz70_0, hcz70_1, hcz70_2, hcz70_3, hcz70_4, hcz70_5, hcz70_6, hcz70_7, hfz70_0, hfz70_1, hfz70_2, hfz70_3, hfz70_4, hfz70_5, hfz70_6, hfz70_7⟩ := zC8 BK112) | (go_at_call 37; (with_reducible refine (conf_prefix.calls a0_5 false _ A59.out).mono ?_); rintro e w71 ⟨rfl, hb⟩; replace BK112 := zj BK112 hb; replace HB := zk1 HB GE112 hb; (try clear hb); (try clear hb2); (try clear hk); (try clear hi)));go_ret;exact ⟨zE, zB1 HB GE112⟩

end Go.Proofs.YtpigfccpogmeaaaGreatDoor.S
end
