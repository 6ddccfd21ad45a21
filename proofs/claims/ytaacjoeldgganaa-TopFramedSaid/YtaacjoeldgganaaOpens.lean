/- What an argument that reads as data is, by the kinds of its type: the values' own lists and structs; and that they are no longer than the reading's bulk. -/
import Derived.Test.YtaacjoeldgganaaBulk
import Derived.Deep.Slices
import Derived.ChangeSame
import Derived.DataReads
import Derived.OpenShut
import Derived.Laws.Cover2
import Derived.Test.YtaacjoeldgganaaWWords
namespace Go.Proofs.Ytaacjoeldgganaa.opens
open Go.ChangeShapes Go.WideShapes Go.Deep Go.Proofs.YtaacjoeldgganaaW.PrintWords
/-- What reads as a datum of type t is a value y of the kind d; of y 'ok' holds, and its measure is no greater than the datum's bulk. -/
structure Rd (P : Program) (t : TypeId) {α : Type} (d : Kd α) (ok : α → Prop) (mu : α → Nat) : Prop where
  out : ∀ {H : Type} {enc : TypeId × Value → H} {w : World} {base : Nat} {spare : Nat → Bool} {held : Bool} {fuel : Nat} {cs : List Value} {x : DataW H × List MemPlace}, DataW.trod enc P w base spare held fuel t cs = some x → ∃ y, d.K w y cs ∧ ok y ∧ mu y ≤ Rows.uptoBulk x.1
variable {P : Program} {t : TypeId}
theorem Rd.int {k : IntKind} (ht : P.underlying t = some (.int k)) : Rd P t (Kd.int k) (fun n => (Lit.int k n).wf = true) (fun _ => 1) := ⟨fun h => by
  obtain ⟨n, rfl, rfl, hw⟩ := DataW.trod_int ht h
  exact ⟨n, rfl, hw, bulks.one_le _⟩⟩
theorem Rd.bool (ht : P.underlying t = some .bool) : Rd P t Kd.bool (fun _ => True) (fun _ => 1) := ⟨fun h => by
  obtain ⟨n, rfl, rfl⟩ := DataW.trod_bool ht h
  exact ⟨n, rfl, trivial, bulks.one_le _⟩⟩
theorem Rd.string (ht : P.underlying t = some .string) : Rd P t Kd.string (fun s => s.size ≤ 9223372036854775807) (fun s => s.size + 1) := ⟨fun h => by
  obtain ⟨s, rfl, rfl, hs⟩ := DataW.trod_string ht h
  refine ⟨s, rfl, hs, ?_⟩
  simp only [Rows.uptoBulk, Array.length_toList]
  exact Nat.le_refl _⟩
def Kdf : Kd Nat := Kd.scalar (Value.float .f64) (fun _ => rfl)
theorem Rd.float (ht : P.underlying t = some (.float .f64)) : Rd P t Kdf (fun b => (Lit.float .f64 b).wf = true) (fun _ => 1) := ⟨fun {H enc w base spare held fuel cs x} h => by
  cases fuel with
  | zero => simp [DataW.trod] at h
  | succ n =>
    unfold DataW.trod at h
    rw [ht] at h
    split at h
    all_goals first
      | (simp at h; done)
      | (rename_i heq; cases heq; done)
      | (rename_i heq; cases heq
         split at h
         · rename_i hh
           obtain ⟨rfl, hw⟩ := hh
           injection h with h
           subst h
           exact ⟨_, rfl, hw, bulks.one_le _⟩
         · cases h)⟩
theorem Rd.iso {α β : Type} {d : Kd α} {ok : α → Prop} {mu : α → Nat} (f : β → α) (g : α → β) (hfg : ∀ x, f (g x) = x) (h : Rd P t d ok mu) : Rd P t (Kd.iso d f) (fun y => ok (f y)) (fun y => mu (f y)) := ⟨fun hx => by
  obtain ⟨y, hK, ho, hm⟩ := h.out hx
  refine ⟨g y, ?_, ?_, ?_⟩
  · show d.K _ (f (g y)) _
    rw [hfg]
    exact hK
  · rw [hfg]; exact ho
  · rw [hfg]; exact hm⟩
theorem sum_le_bulk {H : Type} {α : Type} (mu : α → Nat) : ∀ (l : List α) (D : List (DataW H)), l.length ≤ D.length → (∀ (i : Nat) (y : α) (z : DataW H), l[i]? = some y → D[i]? = some z → mu y ≤ Rows.uptoBulk z) → (l.map mu).sum ≤ Rows.uptoBulkAll D
  | [], _, _, _ => by simp
  | _ :: _, [], h, _ => by simp at h
  | y :: l, z :: D, h, hi => by
    have h0 := hi 0 y z rfl rfl
    have h1 := sum_le_bulk mu l D (by simpa using h) (fun i y z hy hz => hi (i + 1) y z (by simpa using hy) (by simpa using hz))
    simp only [List.map_cons, List.sum_cons, Rows.uptoBulkAll]
    omega
theorem Rd.slice {e : TypeId} {α : Type} {d : Kd α} {ok : α → Prop} {mu : α → Nat} (ht : P.underlying t = some (.slice e)) (hc : P.cellsOf e = d.sz) (h : Rd P e d ok mu) :
    Rd P t (Kd.slice e d) (fun l => ∀ y ∈ l, ok y) (fun l => (l.map mu).sum + 1) := ⟨fun {H enc w base spare held fuel cs x} hx => by
  rcases open_slice ht hx with ⟨rfl, rfl⟩ | ⟨a, len, cap, m, n, D, Pl, rfl, hb, hl, hm, hmm, rfl, hel⟩
  · exact ⟨[], ⟨none, 0, rfl, Nat.le_refl _, Kd.C_nil _ _⟩, by simp, by simp [Rows.uptoBulk]⟩
  · have hlm : len ≤ m := by rw [hmm]; split <;> omega
    have hy : ∀ i : Fin len, ∃ (y : α), ∃ cs', w.cells? base (a.add (i.1 * P.cellsOf e)) (P.cellsOf e) = some cs' ∧ d.K w y cs' ∧ ok y ∧ mu y ≤ Rows.uptoBulk (D i.1) := by
      intro i
      obtain ⟨cs', hcs, htr⟩ := hel i.1 (by have := i.2; omega)
      obtain ⟨y, hK, ho, hmu⟩ := h.out htr
      exact ⟨y, cs', hcs, hK, ho, hmu⟩
    obtain ⟨f, hf⟩ : ∃ f : Fin len → α, ∀ i, ∃ cs', w.cells? base (a.add (i.1 * P.cellsOf e)) (P.cellsOf e) = some cs' ∧ d.K w (f i) cs' ∧ ok (f i) ∧ mu (f i) ≤ Rows.uptoBulk (D i.1) := ⟨fun i => Classical.choose (hy i), fun i => Classical.choose_spec (hy i)⟩
    have hlen : (List.ofFn f).length = len := List.length_ofFn
    refine ⟨List.ofFn f, ⟨some a, cap, by rw [hlen], by rw [hlen]; exact hl, ⟨rfl, by rw [hlen]; unfold maxLen at hm; omega, fun _ => ⟨a, rfl, fun j p hj => ?_⟩⟩⟩, ?_, ?_⟩
    · obtain ⟨hj2, hp⟩ := List.getElem?_eq_some_iff.1 hj
      rw [List.getElem_ofFn] at hp
      obtain ⟨cs', hcs, hK, _, _⟩ := hf ⟨j, by simpa using hj2⟩
      rw [hp] at hK
      obtain ⟨_, hl2, hcell⟩ := World.cells?_some hcs
      refine ⟨cs', d.K_len hK, hK, fun i u hu => ?_⟩
      have hi : i < cs'.length := (List.getElem?_eq_some_iff.1 hu).1
      have := hcell i (by omega)
      rw [Go.Deep.add_add, hc] at this
      rw [this, hu]
    · intro y hy
      obtain ⟨i, rfl⟩ := List.mem_ofFn.1 hy
      obtain ⟨_, _, _, ho, _⟩ := hf i
      exact ho
    · simp only [Rows.uptoBulk]
      have := sum_le_bulk mu (List.ofFn f) ((List.range len).map D) (by simp) (fun i y z hy hz => by
        obtain ⟨hj2, hp⟩ := List.getElem?_eq_some_iff.1 hy
        rw [List.getElem_ofFn] at hp
        have hi : i < len := by simpa using hj2
        obtain ⟨_, _, _, _, hmu⟩ := hf ⟨i, hi⟩
        rw [hp] at hmu
        rw [List.getElem?_map, List.getElem?_range hi] at hz
        injection hz with hz
        rw [← hz]
        exact hmu)
      omega⟩
/-- The fields of a struct, from the offset on. -/
structure RdF (P : Program) (fs : List Field) (off : Nat) {α : Type} (d : Kd α) (ok : α → Prop) (mu : α → Nat) : Prop where
  out : ∀ {H : Type} {enc : TypeId × Value → H} {w : World} {base : Nat} {spare : Nat → Bool} {held : Bool} {fuel : Nat} {cs : List Value} {xs : List (DataW H × List MemPlace)}, cs.length = d.sz → xs.length = fs.length →
    (∀ (i : Nat) (f : Field), fs[i]? = some f → DataW.trod enc P w base spare held fuel f.type ((cs.drop (f.offset - off)).take (P.cellsOf f.type)) = xs[i]?) → (∀ f ∈ fs, off ≤ f.offset) → ∃ y, d.K w y cs ∧ ok y ∧ mu y ≤ Rows.uptoBulkAll (xs.map (·.1))
theorem RdF.one {f : Field} {off : Nat} {α : Type} {d : Kd α} {ok : α → Prop} {mu : α → Nat} (ho : f.offset = off) (hc : P.cellsOf f.type = d.sz) (h : Rd P f.type d ok mu) : RdF P [f] off d ok mu := ⟨fun {H enc w base spare held fuel cs xs} hl hx hf _ => by
  match xs, hx with
  | [x], _ =>
    have h0 := hf 0 f rfl
    rw [ho, Nat.sub_self, List.drop_zero, List.take_of_length_le (by omega)] at h0
    obtain ⟨y, hK, hok, hmu⟩ := h.out h0
    exact ⟨y, hK, hok, by simp only [List.map_cons, List.map_nil, Rows.uptoBulkAll]; omega⟩⟩
theorem RdF.cons {f : Field} {fs : List Field} {off : Nat} {α β : Type} {d : Kd α} {ok : α → Prop} {mu : α → Nat} {d' : Kd β} {ok' : β → Prop} {mu' : β → Nat} (ho : f.offset = off) (hc : P.cellsOf f.type = d.sz) (h : Rd P f.type d ok mu) (hle : ∀ g ∈ fs, off + d.sz ≤ g.offset)
    (h' : RdF P fs (off + d.sz) d' ok' mu') : RdF P (f :: fs) off (Kd.pair d d') (fun y => ok y.1 ∧ ok' y.2) (fun y => mu y.1 + mu' y.2) := ⟨fun {H enc w base spare held fuel cs xs} hl hx hf _ => by
  match xs, hx with
  | x :: xs, hx =>
    have hsz : cs.length = d.sz + d'.sz := hl
    have h0 := hf 0 f rfl
    rw [ho, Nat.sub_self, List.drop_zero, hc] at h0
    obtain ⟨y, hK, hok, hmu⟩ := h.out h0
    obtain ⟨y', hK', hok', hmu'⟩ := h'.out (cs := cs.drop d.sz) (xs := xs) (by rw [List.length_drop]; omega) (by simpa using hx) (fun i g hg => by
      have h1 := hf (i + 1) g (by simpa using hg)
      have := hle g (List.mem_of_getElem? hg)
      rw [List.drop_drop, show d.sz + (g.offset - (off + d.sz)) = g.offset - off by omega]
      simpa using h1) hle
    refine ⟨(y, y'), ⟨cs.take d.sz, cs.drop d.sz, (List.take_append_drop _ _).symm, hK, hK'⟩, ⟨hok, hok'⟩, ?_⟩
    simp only [List.map_cons, Rows.uptoBulkAll]
    omega⟩
theorem Rd.structS {fs : Array Field} {α : Type} {d : Kd α} {ok : α → Prop} {mu : α → Nat} (ht : P.underlying t = some (.struct fs)) (hc : P.cellsOf t = d.sz) (h : RdF P fs.toList 0 d ok mu) : Rd P t d ok (fun y => mu y + 1) := ⟨fun hx => by
  obtain ⟨xs, n, _, rfl, hl, hlen, hf⟩ := DataW.trod_struct ht hx
  obtain ⟨y, hK, hok, hmu⟩ := h.out (hl.trans hc) (by simpa using hlen) (fun i f hi => by rw [Nat.sub_zero]; exact hf i f (by simpa using hi)) (fun f _ => Nat.zero_le _)
  exact ⟨y, hK, hok, by simp only [Rows.uptoBulk]; omega⟩⟩
/-- The elements of an array. -/
structure RdA (P : Program) (e : TypeId) (n : Nat) {α : Type} (d : Kd α) (ok : α → Prop) (mu : α → Nat) : Prop where
  out : ∀ {H : Type} {enc : TypeId × Value → H} {w : World} {base : Nat} {spare : Nat → Bool} {held : Bool} {fuel : Nat} {cs : List Value} {xs : List (DataW H × List MemPlace)}, cs.length = d.sz → xs.length = n →
    (∀ (i : Nat), i < n → DataW.trod enc P w base spare held fuel e ((cs.drop (i * P.cellsOf e)).take (P.cellsOf e)) = xs[i]?) → ∃ y, d.K w y cs ∧ ok y ∧ mu y ≤ Rows.uptoBulkAll (xs.map (·.1))
theorem RdA.one {e : TypeId} {α : Type} {d : Kd α} {ok : α → Prop} {mu : α → Nat} (hc : P.cellsOf e = d.sz) (h : Rd P e d ok mu) : RdA P e 1 d ok mu := ⟨fun {H enc w base spare held fuel cs xs} hl hx hf => by
  match xs, hx with
  | [x], _ =>
    have h0 := hf 0 (by omega)
    rw [Nat.zero_mul, List.drop_zero, List.take_of_length_le (by omega)] at h0
    obtain ⟨y, hK, hok, hmu⟩ := h.out h0
    exact ⟨y, hK, hok, by simp only [List.map_cons, List.map_nil, Rows.uptoBulkAll]; omega⟩⟩
theorem RdA.cons {e : TypeId} {n : Nat} {α β : Type} {d : Kd α} {ok : α → Prop} {mu : α → Nat} {d' : Kd β} {ok' : β → Prop} {mu' : β → Nat} (hc : P.cellsOf e = d.sz) (h : Rd P e d ok mu)
    (h' : RdA P e n d' ok' mu') : RdA P e (n + 1) (Kd.pair d d') (fun y => ok y.1 ∧ ok' y.2) (fun y => mu y.1 + mu' y.2) := ⟨fun {H enc w base spare held fuel cs xs} hl hx hf => by
  match xs, hx with
  | x :: xs, hx =>
    have hsz : cs.length = d.sz + d'.sz := hl
    have h0 := hf 0 (by omega)
    rw [Nat.zero_mul, List.drop_zero, hc] at h0
    obtain ⟨y, hK, hok, hmu⟩ := h.out h0
    obtain ⟨y', hK', hok', hmu'⟩ := h'.out (cs := cs.drop d.sz) (xs := xs) (by rw [List.length_drop]; omega) (by simpa using hx) (fun i hi => by
      have h1 := hf (i + 1) (by omega)
      rw [List.drop_drop, ← hc, show P.cellsOf e + i * P.cellsOf e = (i + 1) * P.cellsOf e by rw [Nat.add_mul]; omega]
      simpa using h1)
    refine ⟨(y, y'), ⟨cs.take d.sz, cs.drop d.sz, (List.take_append_drop _ _).symm, hK, hK'⟩, ⟨hok, hok'⟩, ?_⟩
    simp only [List.map_cons, Rows.uptoBulkAll]
    omega⟩
theorem Rd.arrayS {n : Nat} {e : TypeId} {α : Type} {d : Kd α} {ok : α → Prop} {mu : α → Nat} (ht : P.underlying t = some (.array n e)) (hc : P.cellsOf t = d.sz) (h : RdA P e n d ok mu) : Rd P t d ok (fun y => mu y + 1) := ⟨fun hx => by
  obtain ⟨xs, m, _, rfl, hl, hlen, hf⟩ := DataW.trod_array ht hx
  obtain ⟨y, hK, hok, hmu⟩ := h.out (hl.trans hc) hlen hf
  exact ⟨y, hK, hok, by simp only [Rows.uptoBulk]; omega⟩⟩
theorem okWide_array {n : Nat} {e : TypeId} {w : World} {r : Reach} {base : Nat} {v : Value} (ht : P.underlying t = some (.array n e)) (h : Value.okWide P w r base t v) : ∃ cs, v = .agg cs ∧ cs.size = P.cellsOf t := by
  simp only [Value.okWide, ht] at h
  obtain ⟨cs, h1, h2, _⟩ := h
  exact ⟨cs, h1, h2⟩
end Go.Proofs.Ytaacjoeldgganaa.opens
