import Derived.Test.YtaacjoeldgganaaTFq
import Derived.Test.YtaacjoeldgganaaTFi
import Derived.Deep.MidRow
/-! What the law's walk wants: a struct read whole out of a row; PutMsg's answer in one form; messages as they lie. -/
namespace Go.Proofs.Ytaacjoeldgganaa.S
open Go.RowKit Go.Proofs.YtaacjoeldgganaaW.PrintWords Go.Proofs.YtaacjoeldgganaaW.PrintLast Go.Proofs.YtaacjoeldgganaaW.PrintMore
set_option linter.unusedVariables false
set_option linter.unusedSimpArgs false
theorem run_loadVar_any {P : Program} (w : World) (p : Addr) (ty : TypeId) (cs : List Value) (d : TypeDesc) (hc : ∀ j v, cs[j]? = some v → w.cell? (p.add j) = some v)
    (hu : P.underlying ty = some d) (hd : d.isRow = true) (hi : (P.info? ty).map (·.size) = some cs.length) :
    (loadVar ty p).run P w = .ok (.agg cs.toArray) w := by
  have hl : (loadCells p cs.length).run P w = .ok cs.toArray w := run_loadCells_list (P := P) w p cs hc
  cases hq : P.info? ty with
  | none => simp [hq] at hi
  | some i =>
    have hs : i.size = cs.length := by simpa [hq] using hi
    have hagg : (isAgg ty).run P w = .ok true w := by
      unfold isAgg
      rw [Sem.run_bind, run_underlying hu w]
      cases d <;> simp_all
    simp [loadVar, Sem.run_bind, hagg, sizeOf, typeInfo, hq, hs, hl]
theorem wp_load_any {P : Program} {op : Oper} {a : Act} {w : World} {K : Act → World → Prop} {Q : Exit → Act → World → Prop} (ty : TypeId) (x : Operand) (ho : op.op = .load ty x)
    (p : Addr) (hx : a.eval x = .pointer (some p)) (cs : List Value) (d : TypeDesc) (hc : ∀ j v, cs[j]? = some v → w.cell? (p.add j) = some v)
    (hu : P.underlying ty = some d) (hd : d.isRow = true) (hi : (P.info? ty).map (·.size) = some cs.length)
    (h : K (a.put op.dst (.agg cs.toArray)) w) : op.wp P a w K Q := by
  unfold Oper.wp execOp
  simp only [ho, hx, Instr.loadAt, Instr.sureAddr, Sem.run_bind, Sem.run_pure, Result.andThen_ok, run_loadVar_any w p ty cs d hc hu hd hi]
  exact h
theorem wpList_load_any {P : Program} {ops : Array Oper} {rest : List Oper} {op : Oper} {a : Act} {w : World} {Q : Exit → Act → World → Prop} (hgd : op.guard = none) (ty : TypeId) (x : Operand) (ho : op.op = .load ty x)
    (p : Addr) (hx : a.eval x = .pointer (some p)) (cs : List Value) (d : TypeDesc) (hc : ∀ j v, cs[j]? = some v → w.cell? (p.add j) = some v)
    (hu : P.underlying ty = some d) (hd : d.isRow = true) (hi : (P.info? ty).map (·.size) = some cs.length)
    (h : wpList P ops Q rest (a.put op.dst (.agg cs.toArray)) w) : wpList P ops Q (op :: rest) a w :=
  wpList_plain hgd fun _ hK => wp_load_any ty x ho p hx cs d hc hu hd hi (hK _ _ h)
theorem yieldsIf_load_any {P : Program} {ops : Array Oper} {S : World → Prop} {op : Oper} {a : Act} (hw : Region.wanted op (yielded ops a.tmps) = true) (ty : TypeId) (x : Operand) (ho : op.op = .load ty x)
    (p : Addr) (hx : a.eval x = .pointer (some p)) (cs : List Value) (d : TypeDesc) (hS : ∀ w, S w → ∀ j v, cs[j]? = some v → w.cell? (p.add j) = some v)
    (hu : P.underlying ty = some d) (hd : d.isRow = true) (hi : (P.info? ty).map (·.size) = some cs.length) : YieldsIf P ops S op (.agg cs.toArray) a :=
  .inl ⟨hw, fun w hw' => by
    unfold execOp
    simp only [ho, hx, Instr.loadAt, Instr.sureAddr, Sem.run_bind, Sem.run_pure, Result.andThen_ok, run_loadVar_any w p ty cs d (hS w hw') hu hd hi]⟩
theorem row_cells {w : World} {g : Nat} {cs : List Value} {t : TypeId} (h : w.heap[g]? = some (.cells cs.toArray t (0, 0))) : ∀ j v, cs[j]? = some v → w.cell? ((⟨g, 0, none⟩ : Addr).add j) = some v := fun j v hv => by
  rw [Addr.add_mid, Nat.zero_add]
  exact (blk_cell h j).trans (by rw [List.getElem?_toArray]; exact hv)
theorem raw_get {w : World} {base : Nat} {ok : Nat → Prop} {c r : List Value} (h : (Kd.raw 12).M w base ok r c) : c = r := h.1
/-- Bytes that were just laid down. -/
theorem C_lit (W : World) (xs : List Int) (hm : xs.length ≤ 9223372036854775807) : Kd.C (Kd.int .u8) (W.alloc (.cells (nums .u8 xs).toArray 5)) (some ⟨W.heap.size, 0, none⟩) xs.length xs :=
  (Kd.R_reads' (Kd.R_of_own (ok := fun _ => True) (enc := fun x : Int => Value.int .u8 x) (xs := xs) (own_lit W 0 5 .u8 xs (Nat.zero_le _) hm) (fun _ _ => trivial))).2.2
theorem C_lit_marked (W : World) (xs : List Int) (m : Nat × Nat) (hm : xs.length ≤ 9223372036854775807) : Kd.C (Kd.int .u8) (W.alloc (.cells (nums .u8 xs).toArray 5 m)) (some ⟨W.heap.size, 0, none⟩) xs.length xs := by
  have h := C_lit W xs hm
  refine ⟨h.1, h.2.1, fun hp => ?_⟩
  obtain ⟨ad, hA, hc⟩ := h.2.2 hp
  refine ⟨ad, hA, fun j p hj => ?_⟩
  obtain ⟨c, h1, h2, h3⟩ := hc j p hj
  refine ⟨c, h1, h2, fun i u hu => ?_⟩
  rw [← h3 i u hu]
  simp only [World.cell?, World.alloc, Array.getElem?_push]
  by_cases hb : (ad.add (j * (Kd.int .u8 : Kd Int).sz + i)).block = W.heap.size
  · rw [if_pos hb, if_pos hb]
  · rw [if_neg hb, if_neg hb]
/-- PutMsg's answer in one form. -/
theorem put_msg1 {w : World} (m : S32) {A10 : Option Addr} {c10 : Nat} {A11 : Option Addr} {c11 : Nat} (hr10 : Kd.C k48 w A10 m.f10.length m.f10) (hc10 : m.f10.length ≤ c10) (hr11 : Kd.C (Kd.int .u8) w A11 m.f11.length m.f11) (hc11 : m.f11.length ≤ c11) :
    Calls Try.prog 4 #[.agg #[.int .i64 m.f0, .int .i64 m.f1, .int .i64 m.f2, .int .i64 m.f3, .int .i64 m.f4, .int .i64 m.f5, .int .i64 m.f6, .int .i64 m.f7, .int .i64 m.f8, .bool m.f9, .slice A10 m.f10.length c10, .slice A11 m.f11.length c11]] w fun r w' => ∃ (A : Option Addr) (n c : Nat) (er : Int) (xs : List Int), r = .returned (.tuple #[.slice A n c, .int .i64 er]) ∧ n = xs.length ∧ Kd.R (Kd.int .u8) 5 w' w.heap.size (fun _ => True) (.slice A n c) xs ∧ (er = 0 → wfM m ∧ xs = encM m) ∧ Below w.heap.size w w' := by
  refine (put_msg m hr10 hc10 hr11 hc11).mono ?_
  rintro r w' ⟨hb, ⟨er, he, rfl⟩ | ⟨hw, v, rfl, hR⟩⟩
  · exact ⟨none, 0, 0, er, [], rfl, rfl, Kd.R_nil _ _ _ _ _, fun h => absurd h he, hb⟩
  · obtain ⟨A, c, rfl⟩ := Kd.R_slice hR
    exact ⟨A, _, c, 0, _, rfl, rfl, hR, fun _ => ⟨hw, rfl⟩, hb⟩
def z32 : S32 := ⟨0, 0, 0, 0, 0, 0, 0, 0, 0, false, [], []⟩
def rawM (m : S32) (A10 : Option Addr) (c10 : Nat) (A11 : Option Addr) (c11 : Nat) : List Value := [.int .i64 m.f0, .int .i64 m.f1, .int .i64 m.f2, .int .i64 m.f3, .int .i64 m.f4, .int .i64 m.f5, .int .i64 m.f6, .int .i64 m.f7, .int .i64 m.f8, .bool m.f9, .slice A10 m.f10.length c10, .slice A11 m.f11.length c11]
/-- A message as it lies: its slices are not followed. -/
def RawAt (w : World) (m : S32) (cs : List Value) : Prop := ∃ A10 c10 A11 c11, cs = rawM m A10 c10 A11 c11 ∧ m.f10.length ≤ c10 ∧ Kd.C k48 w A10 m.f10.length m.f10 ∧ m.f11.length ≤ c11 ∧ Kd.C (Kd.int .u8) w A11 m.f11.length m.f11
def RawsAt (w : World) (ms : List S32) (rs : List (List Value)) : Prop := rs.length = ms.length ∧ ∀ i, i < ms.length → RawAt w (ms.getD i z32) (rs.getD i [])
theorem RawsAt.nil (w : World) : RawsAt w [] [] := ⟨rfl, fun i h => absurd h (by simp)⟩
theorem RawsAt.snoc {w : World} {ms : List S32} {rs : List (List Value)} (h : RawsAt w ms rs) {m : S32} {cs : List Value} (hm : RawAt w m cs) : RawsAt w (ms ++ [m]) (rs ++ [cs]) := by
  refine ⟨by simp [h.1], fun i hi => ?_⟩
  rw [List.length_append, List.length_singleton] at hi
  by_cases hh : i < ms.length
  · have := h.2 i hh
    simp only [List.getD_eq_getElem?_getD] at this ⊢
    rw [List.getElem?_append_left hh, List.getElem?_append_left (by rw [h.1]; exact hh)]
    exact this
  · obtain rfl : i = ms.length := by omega
    simp only [List.getD_eq_getElem?_getD]
    rw [List.getElem?_append_right (Nat.le_refl _), List.getElem?_append_right (by rw [h.1]; exact Nat.le_refl _), h.1, Nat.sub_self]
    exact hm
theorem raw_row {w : World} {base : Nat} {ok : Nat → Prop} (m : S32) (A10 : Option Addr) (c10 : Nat) (A11 : Option Addr) (c11 : Nat) : (Kd.raw 12).M w base ok (rawM m A10 c10 A11 c11) (rawM m A10 c10 A11 c11) :=
  ⟨rfl, rfl, fun u hu => by simp only [rawM, List.mem_cons, List.not_mem_nil, or_false] at hu; rcases hu with rfl | rfl | rfl | rfl | rfl | rfl | rfl | rfl | rfl | rfl | rfl | rfl <;> rfl⟩
/-- What is taken: their bytes framed one behind the other, where each ends, the messages as they came. -/
def okMs (ms : List S32) : Prop := ∀ m ∈ ms, wfM m ∧ FP.okM m ∧ (encM m).length ≤ 5000
theorem okMs.snoc {ms : List S32} (h : okMs ms) {m : S32} (hm : wfM m ∧ FP.okM m ∧ (encM m).length ≤ 5000) : okMs (ms ++ [m]) := by
  intro x hx
  rcases List.mem_append.1 hx with hx | hx
  · exact h x hx
  · rw [List.mem_singleton] at hx; subst hx; exact hm
def bys (ms : List S32) : List Int := FP.cat (ms.map encM)
def ens (ms : List S32) : List Int := FP.ends (ms.map encM)
theorem bys_snoc (ms : List S32) (m : S32) : bys (ms ++ [m]) = bys ms ++ frameBytes (encM m) := by unfold bys; rw [List.map_append, FP.cat_append, List.map_singleton, FP.cat_one]
theorem ens_snoc (ms : List S32) (m : S32) : ens (ms ++ [m]) = ens ms ++ [((bys (ms ++ [m])).length : Int)] := by unfold ens bys; rw [List.map_append, List.map_singleton, FP.ends_append]
theorem ens_length (ms : List S32) : (ens ms).length = ms.length := by unfold ens; rw [FP.ends_length, List.length_map]
theorem bys_length {ms : List S32} (h : okMs ms) : (bys ms).length ≤ 5008 * ms.length := by
  induction ms with
  | nil => simp [bys, FP.cat]
  | cons m ms ih =>
    have h1 := ih (fun x hx => h x (by simp [hx]))
    have h2 := (h m (by simp)).2.2
    unfold bys at h1 ⊢
    simp only [List.map_cons, FP.cat, List.length_append, FP.frameBytes_length, List.length_cons]
    omega
theorem bys_B8 {ms : List S32} (h : okMs ms) : B8 (bys ms) := FP.cat_B8 (fun x hx => by obtain ⟨m, hm, rfl⟩ := List.mem_map.1 hx; exact FP.encM_B8 (h m hm).1 (h m hm).2.1)
theorem frame_is {m : S32} (h : wfM m ∧ FP.okM m ∧ (encM m).length ≤ 5000) : frame_Frame.f (encM m) = some (frameBytes (encM m), 0) := by
  rw [FP.Frame_f (FP.encM_B8 h.1 h.2.1), if_neg (by have := h.2.2; omega)]
end Go.Proofs.Ytaacjoeldgganaa.S
