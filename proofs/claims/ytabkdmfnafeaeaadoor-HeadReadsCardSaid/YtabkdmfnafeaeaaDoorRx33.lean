-- Laid by lay.py, a program of this session's, out of the translation (the kit's printer with additions of ours). Lean checks it.
import Derived.Test.YtabkdmfnafeaeaaDoorRx0
import Derived.Test.YtabkdmfnafeaeaaDoorRm1
namespace Go.Proofs.YtabkdmfnafeaeaaDoor.R
open Go.RowKit Go.Proofs.YtabkdmfnafeaeaaDoorW.PrintWords Go.Proofs.YtabkdmfnafeaeaaDoorW.PrintLast Go.Proofs.YtabkdmfnafeaeaaDoorW.PrintMore
attribute [local go_sem] max2_int min2_int max_two min_two max_three min_three max_four min_four   -- for this text's walks alone
attribute [local go_sem] fbin_eql fbin_neq fbin_lss fbin_leq fbin_gtr fbin_geq frun_add frun_sub frun_mul frun_quo frun_store fun_neg fcv_int fcv_same fb92 fb116
set_option linter.unusedVariables false
set_option linter.unusedSimpArgs false

/-- A state of type 25 at block g of W; what its slices lead to came in by w0. -/
def IsS25 (w0 W : World) (g : Nat) (f0 : ByteArray) (f1 : ByteArray) (f2 : ByteArray) (f3 : ByteArray) (f4 : List (S38)) : Prop := ∃ A4 c4, W.heap[g]? = some (.cells #[.string f0, .string f1, .string f2, .string f3, .slice A4 f4.length c4] 25 (0, 0)) ∧ w0.heap.size ≤ g ∧ Kd.C k38 w0 A4 f4.length f4 ∧ (f4 = [] → A4 = none ∧ c4 = 0)
theorem IsS25.grown {w0 W : World} {g : Nat} {f0 : ByteArray} {f1 : ByteArray} {f2 : ByteArray} {f3 : ByteArray} {f4 : List (S38)} {W1 : World} {row : Option Nat} (h : IsS25 w0 W g f0 f1 f2 f3 f4) (hw : W.grownBy W1 row) (hne : some g ≠ row) : IsS25 w0 W1 g f0 f1 f2 f3 f4 := by
 obtain ⟨A4, c4, hb, hg, hr4⟩ := h
 exact ⟨A4, c4, blk_grown hb hw hne, hg, hr4⟩
theorem IsS25.own_neN {w0 W : World} {g : Nat} {f0 : ByteArray} {f1 : ByteArray} {f2 : ByteArray} {f3 : ByteArray} {f4 : List (S38)} {α : Type} {d : Kd α} {e : Nat} {base : Nat} {ok : Nat → Prop} {v : Value} {xs : List α} (h : IsS25 w0 W g f0 f1 f2 f3 f4) (ho : Kd.N d e W base ok v xs) (ht : e ≠ 25) : some g ≠ v.ownBlock := by
 obtain ⟨A4, c4, hb, hg, hr4⟩ := h
 exact Kd.N_ne ho hb ht
theorem IsS25.fresh {w0 W : World} {g : Nat} {f0 : ByteArray} {f1 : ByteArray} {f2 : ByteArray} {f3 : ByteArray} {f4 : List (S38)} (h : IsS25 w0 W g f0 f1 f2 f3 f4) : ∀ k, W.heap.size ≤ k → k ≠ g := by
 obtain ⟨A4, c4, hb, hg, hr4⟩ := h
 exact Kd.freshB hb
theorem IsS25.kept {w0 W : World} {g : Nat} {f0 : ByteArray} {f1 : ByteArray} {f2 : ByteArray} {f3 : ByteArray} {f4 : List (S38)} {W1 : World} {S : Nat → Prop} (h : IsS25 w0 W g f0 f1 f2 f3 f4) (hk : Kept W W1 S) (hne : ¬ S g) : IsS25 w0 W1 g f0 f1 f2 f3 f4 := by
 obtain ⟨A4, c4, hb, hg, hr4⟩ := h
 exact ⟨A4, c4, blk_kept hb hk hne, hg, hr4⟩
theorem IsS25.below {w0 W : World} {g : Nat} {f0 : ByteArray} {f1 : ByteArray} {f2 : ByteArray} {f3 : ByteArray} {f4 : List (S38)} {W1 : World} (h : IsS25 w0 W g f0 f1 f2 f3 f4) (hw : Below W.heap.size W W1) : IsS25 w0 W1 g f0 f1 f2 f3 f4 := h.grown (grown_of_below hw none) (by simp)
theorem IsS25.alloc {w0 W : World} {g : Nat} {f0 : ByteArray} {f1 : ByteArray} {f2 : ByteArray} {f3 : ByteArray} {f4 : List (S38)} (h : IsS25 w0 W g f0 f1 f2 f3 f4) (o : Obj) : IsS25 w0 (W.alloc o) g f0 f1 f2 f3 f4 := h.below (below_alloc (Below.refl _ _) o)
theorem IsS25.drewN {w0 W : World} {g : Nat} {f0 : ByteArray} {f1 : ByteArray} {f2 : ByteArray} {f3 : ByteArray} {f4 : List (S38)} (h : IsS25 w0 W g f0 f1 f2 f3 f4) (m : Nat) : IsS25 w0 (W.drewN m) g f0 f1 f2 f3 f4 := h
theorem IsS25.drew {w0 W : World} {g : Nat} {f0 : ByteArray} {f1 : ByteArray} {f2 : ByteArray} {f3 : ByteArray} {f4 : List (S38)} (h : IsS25 w0 W g f0 f1 f2 f3 f4) : IsS25 w0 W.drew g f0 f1 f2 f3 f4 := h
theorem IsS25.at_ {w0 W : World} {g : Nat} {f0 : ByteArray} {f1 : ByteArray} {f2 : ByteArray} {f3 : ByteArray} {f4 : List (S38)} {w' : World} {m : Nat} (hq : W.drewN m = w') (h : IsS25 w0 W g f0 f1 f2 f3 f4) : IsS25 w0 w' g f0 f1 f2 f3 f4 := by subst hq; exact IsS25.drewN h m
theorem IsS25.apart {w0 W : World} {g : Nat} {f0 : ByteArray} {f1 : ByteArray} {f2 : ByteArray} {f3 : ByteArray} {f4 : List (S38)} {α : Type} {d : Kd α} {e : Nat} {base : Nat} {ok : Nat → Prop} {v : Value} {xs : List α} (h : IsS25 w0 W g f0 f1 f2 f3 f4) (ho : d.R e W base ok v xs) (ht : ∀ q, q ∈ e :: d.E → q ≠ 25) : d.R e W base (fun k => ok k ∧ k ≠ g) v xs := by
 obtain ⟨A4, c4, hb, hg, hr4⟩ := h
 exact Kd.R_types ho hb ht
theorem IsS25.own_ne {w0 W : World} {g : Nat} {f0 : ByteArray} {f1 : ByteArray} {f2 : ByteArray} {f3 : ByteArray} {f4 : List (S38)} {α : Type} {d : Kd α} {e : Nat} {base : Nat} {ok : Nat → Prop} {v : Value} {xs : List α} (h : IsS25 w0 W g f0 f1 f2 f3 f4) (ho : d.R e W base ok v xs) (ht : e ≠ 25) : some g ≠ v.ownBlock := by
 obtain ⟨A4, c4, hb, hg, hr4⟩ := h
 exact Kd.R_ne ho hb ht
theorem IsS25.apartQ {w0 W : World} {g : Nat} {f0 : ByteArray} {f1 : ByteArray} {f2 : ByteArray} {f3 : ByteArray} {f4 : List (S38)} {α : Type} {d : Kd α} {e : Nat} {base : Nat} {ok : Nat → Prop} {v : Value} {xs : List α} (h : IsS25 w0 W g f0 f1 f2 f3 f4) (ho : d.Q e W base ok v xs) (ht : ∀ q, q ∈ e :: d.E → q ≠ 25) : d.Q e W base (fun k => ok k ∧ k ≠ g) v xs := by
 obtain ⟨A4, c4, hb, hg, hr4⟩ := h
 exact Kd.Q_types ho hb ht
theorem IsS25.own_neQ {w0 W : World} {g : Nat} {f0 : ByteArray} {f1 : ByteArray} {f2 : ByteArray} {f3 : ByteArray} {f4 : List (S38)} {α : Type} {d : Kd α} {e : Nat} {base : Nat} {ok : Nat → Prop} {v : Value} {xs : List α} (h : IsS25 w0 W g f0 f1 f2 f3 f4) (ho : d.Q e W base ok v xs) (ht : e ≠ 25) : some g ≠ v.ownBlock := by
 obtain ⟨A4, c4, hb, hg, hr4⟩ := h
 exact Kd.Q_ne ho hb ht
theorem IsS25.apartS {w0 W : World} {g : Nat} {f0 : ByteArray} {f1 : ByteArray} {f2 : ByteArray} {f3 : ByteArray} {f4 : List (S38)} {α : Type} {d : Kd α} {e : Nat} {base : Nat} {ok : Nat → Prop} {v : Value} {xs : List α} (h : IsS25 w0 W g f0 f1 f2 f3 f4) (ho : d.S e W base ok v xs) (ht : ∀ q, q ∈ e :: d.E → q ≠ 25) : d.S e W base (fun k => ok k ∧ k ≠ g) v xs := by
 obtain ⟨A4, c4, hb, hg, hr4⟩ := h
 exact Kd.S_types ho hb ht
theorem IsS25.own_neS {w0 W : World} {g : Nat} {f0 : ByteArray} {f1 : ByteArray} {f2 : ByteArray} {f3 : ByteArray} {f4 : List (S38)} {α : Type} {d : Kd α} {e : Nat} {base : Nat} {ok : Nat → Prop} {v : Value} {xs : List α} (h : IsS25 w0 W g f0 f1 f2 f3 f4) (ho : d.S e W base ok v xs) (ht : e ≠ 25) : some g ≠ v.ownBlock := by
 obtain ⟨A4, c4, hb, hg, hr4⟩ := h
 exact Kd.S_ne ho hb ht
theorem IsS25.lt {w0 W : World} {g : Nat} {f0 : ByteArray} {f1 : ByteArray} {f2 : ByteArray} {f3 : ByteArray} {f4 : List (S38)} (h : IsS25 w0 W g f0 f1 f2 f3 f4) : g < W.heap.size := by
 obtain ⟨A4, c4, hb, hg, hr4⟩ := h
 exact blk_lt hb
theorem IsS25.ge {w0 W : World} {g : Nat} {f0 : ByteArray} {f1 : ByteArray} {f2 : ByteArray} {f3 : ByteArray} {f4 : List (S38)} (h : IsS25 w0 W g f0 f1 f2 f3 f4) : w0.heap.size ≤ g := by
 obtain ⟨A4, c4, hb, hg, hr4⟩ := h
 exact hg
theorem IsS25.ne_blk {w0 W : World} {g : Nat} {f0 : ByteArray} {f1 : ByteArray} {f2 : ByteArray} {f3 : ByteArray} {f4 : List (S38)} {a : Nat} {cs : Array Value} {t : TypeId} {fr : Nat × Nat} (h : IsS25 w0 W g f0 f1 f2 f3 f4) (hb2 : W.heap[a]? = some (.cells cs t fr)) (ht : t ≠ 25) : g ≠ a := by
 obtain ⟨A4, c4, hb, hg, hr4⟩ := h
 rintro rfl
 rw [hb] at hb2
 injection hb2 with hb2
 injection hb2 with _ ht2
 exact ht ht2.symm
theorem IsS25.far {w0 W : World} {g : Nat} {f0 : ByteArray} {f1 : ByteArray} {f2 : ByteArray} {f3 : ByteArray} {f4 : List (S38)} {p : Addr} (h : IsS25 w0 W g f0 f1 f2 f3 f4) (hne : g ≠ p.block) (u : Value) : IsS25 w0 (W.setCell p u) g f0 f1 f2 f3 f4 := by
 obtain ⟨A4, c4, hb, hg, hr4⟩ := h
 exact ⟨A4, c4, blk_far hb hne u, hg, hr4⟩
theorem cellS25_0 {W : World} {g : Nat} {A4 : Option Addr} {c4 : Nat} {f0 : ByteArray} {f1 : ByteArray} {f2 : ByteArray} {f3 : ByteArray} {f4 : List (S38)} (h : W.heap[g]? = some (.cells #[.string f0, .string f1, .string f2, .string f3, .slice A4 f4.length c4] 25 (0, 0))) : W.cell? ⟨g, 0, none⟩ = some (.string f0) := (blk_cell h 0).trans rfl
theorem IsS25.set_0 {w0 W : World} {g : Nat} {f0 : ByteArray} {f1 : ByteArray} {f2 : ByteArray} {f3 : ByteArray} {f4 : List (S38)} (h : IsS25 w0 W g f0 f1 f2 f3 f4) (x : ByteArray) : IsS25 w0 (W.setCell ⟨g, 0, none⟩ (.string x)) g x f1 f2 f3 f4 := by
 obtain ⟨A4, c4, hb, hg, hr4⟩ := h
 exact ⟨A4, c4, by simpa using blk_set hb 0 (.string x), hg, hr4⟩
theorem cellS25_1 {W : World} {g : Nat} {A4 : Option Addr} {c4 : Nat} {f0 : ByteArray} {f1 : ByteArray} {f2 : ByteArray} {f3 : ByteArray} {f4 : List (S38)} (h : W.heap[g]? = some (.cells #[.string f0, .string f1, .string f2, .string f3, .slice A4 f4.length c4] 25 (0, 0))) : W.cell? ⟨g, 1, none⟩ = some (.string f1) := (blk_cell h 1).trans rfl
theorem IsS25.set_1 {w0 W : World} {g : Nat} {f0 : ByteArray} {f1 : ByteArray} {f2 : ByteArray} {f3 : ByteArray} {f4 : List (S38)} (h : IsS25 w0 W g f0 f1 f2 f3 f4) (x : ByteArray) : IsS25 w0 (W.setCell ⟨g, 1, none⟩ (.string x)) g f0 x f2 f3 f4 := by
 obtain ⟨A4, c4, hb, hg, hr4⟩ := h
 exact ⟨A4, c4, by simpa using blk_set hb 1 (.string x), hg, hr4⟩
theorem cellS25_2 {W : World} {g : Nat} {A4 : Option Addr} {c4 : Nat} {f0 : ByteArray} {f1 : ByteArray} {f2 : ByteArray} {f3 : ByteArray} {f4 : List (S38)} (h : W.heap[g]? = some (.cells #[.string f0, .string f1, .string f2, .string f3, .slice A4 f4.length c4] 25 (0, 0))) : W.cell? ⟨g, 2, none⟩ = some (.string f2) := (blk_cell h 2).trans rfl
theorem IsS25.set_2 {w0 W : World} {g : Nat} {f0 : ByteArray} {f1 : ByteArray} {f2 : ByteArray} {f3 : ByteArray} {f4 : List (S38)} (h : IsS25 w0 W g f0 f1 f2 f3 f4) (x : ByteArray) : IsS25 w0 (W.setCell ⟨g, 2, none⟩ (.string x)) g f0 f1 x f3 f4 := by
 obtain ⟨A4, c4, hb, hg, hr4⟩ := h
 exact ⟨A4, c4, by simpa using blk_set hb 2 (.string x), hg, hr4⟩
theorem cellS25_3 {W : World} {g : Nat} {A4 : Option Addr} {c4 : Nat} {f0 : ByteArray} {f1 : ByteArray} {f2 : ByteArray} {f3 : ByteArray} {f4 : List (S38)} (h : W.heap[g]? = some (.cells #[.string f0, .string f1, .string f2, .string f3, .slice A4 f4.length c4] 25 (0, 0))) : W.cell? ⟨g, 3, none⟩ = some (.string f3) := (blk_cell h 3).trans rfl
theorem IsS25.set_3 {w0 W : World} {g : Nat} {f0 : ByteArray} {f1 : ByteArray} {f2 : ByteArray} {f3 : ByteArray} {f4 : List (S38)} (h : IsS25 w0 W g f0 f1 f2 f3 f4) (x : ByteArray) : IsS25 w0 (W.setCell ⟨g, 3, none⟩ (.string x)) g f0 f1 f2 x f4 := by
 obtain ⟨A4, c4, hb, hg, hr4⟩ := h
 exact ⟨A4, c4, by simpa using blk_set hb 3 (.string x), hg, hr4⟩
theorem cellS25_4 {W : World} {g : Nat} {A4 : Option Addr} {c4 : Nat} {f0 : ByteArray} {f1 : ByteArray} {f2 : ByteArray} {f3 : ByteArray} {f4 : List (S38)} (h : W.heap[g]? = some (.cells #[.string f0, .string f1, .string f2, .string f3, .slice A4 f4.length c4] 25 (0, 0))) : W.cell? ⟨g, 4, none⟩ = some (.slice A4 f4.length c4) := (blk_cell h 4).trans rfl
/-! ### tollgateref09_first: function 43 -/
mutual
def tollgateref09_first.j0 : Nat → ByteArray → ByteArray → Bool → ByteArray → ByteArray → ByteArray → ByteArray → List (S38) → Option (Bool × ByteArray × ByteArray × ByteArray × ByteArray)
 | 0, _, _, _, _, _, _, _, _ => none
 | k + 1, x5, x8, x43, x2000, x2001, x2002, x2003, x2004 => if x43 = true then (some (false, x2000, x2001, x2002, x2003)) else ((tollgateref09_cut.f k x8 63).bind fun bt223 => ((tollgateref09_begins.f bt223.1 (⟨#[104, 116, 116, 112, 58, 47, 47]⟩ : ByteArray)).bind fun t226 => (if t226 = true then (if 7 ≤ (bt223.1.size : Int) then (tollgateref09_first.l0 k (bt223.1.extract 7 bt223.1.size) bt223.2.1 0 x5 x2001 x2002 x2003 x2004) else (none)) else ((tollgateref09_Path.f k bt223.1).bind fun t233 => (if t233 = true then ((tollgateref09_Query.f k bt223.2.1).bind fun t234 => (some (t234, x5, bt223.1, bt223.2.1, x2003))) else (some (false, x5, bt223.1, bt223.2.1, x2003)))))))
def tollgateref09_first.j2 : Nat → ByteArray → ByteArray → Int → ByteArray → ByteArray → ByteArray → ByteArray → List (S38) → Option (Bool × ByteArray × ByteArray × ByteArray × ByteArray)
 | 0, _, _, _, _, _, _, _, _ => none
 | k + 1, x11, x12, x14, x2000, x2001, x2002, x2003, x2004 => if 0 ≤ x14 then (if x14 ≤ (x11.size : Int) then ((tollgateref09_Host.f k (x11.extract 0 (x14 : Int).toNat)).bind fun bt227 => (if bt227.2 = true then (if (x11.extract (x14 : Int).toNat x11.size).toList = ([] : List UInt8) then ((tollgateref09_Path.f k (⟨#[47]⟩ : ByteArray)).bind fun t229 => (if t229 = true then ((tollgateref09_Query.f k x12).bind fun t230 => (some (t230, x2000, (⟨#[47]⟩ : ByteArray), x12, bt227.1))) else (some (false, x2000, (⟨#[47]⟩ : ByteArray), x12, bt227.1)))) else ((tollgateref09_Path.f k (x11.extract (x14 : Int).toNat x11.size)).bind fun t231 => (if t231 = true then ((tollgateref09_Query.f k x12).bind fun t232 => (some (t232, x2000, x11.extract (x14 : Int).toNat x11.size, x12, bt227.1))) else (some (false, x2000, x11.extract (x14 : Int).toNat x11.size, x12, bt227.1))))) else (some (false, x2000, x2001, x2002, x2003)))) else (none)) else (none)
def tollgateref09_first.l0 : Nat → ByteArray → ByteArray → Int → ByteArray → ByteArray → ByteArray → ByteArray → List (S38) → Option (Bool × ByteArray × ByteArray × ByteArray × ByteArray)
 | 0, _, _, _, _, _, _, _, _ => none
 | k + 1, x11, x12, x14, x2000, x2001, x2002, x2003, x2004 => if x14 < (x11.size : Int) then (if 0 ≤ x14 then (if (bt x11 x14) = 47 then (tollgateref09_first.j2 k x11 x12 x14 x2000 x2001 x2002 x2003 x2004) else (tollgateref09_first.l0 k x11 x12 (wrap64 (x14 + 1)) x2000 x2001 x2002 x2003 x2004)) else (none)) else (tollgateref09_first.j2 k x11 x12 x14 x2000 x2001 x2002 x2003 x2004)
end
def tollgateref09_first.f (k : Nat) (a0 : ByteArray) (s1_0 : ByteArray) (s1_1 : ByteArray) (s1_2 : ByteArray) (s1_3 : ByteArray) (s1_4 : List (S38)) : Option (Bool × ByteArray × ByteArray × ByteArray × ByteArray) := (tollgateref09_cut.f k a0 32).bind fun bt216 => ((tollgateref09_cut.f k bt216.2.1 32).bind fun bt219 => (if bt216.2.2 = true then (if bt219.2.2 = true then ((tollgateref09_Token.f k bt216.1).bind fun t222 => (if t222 = true then (tollgateref09_first.j0 k bt216.1 bt219.1 (bt219.2.1.toList != ([72, 84, 84, 80, 47, 49, 46, 49] : List UInt8)) s1_0 s1_1 s1_2 s1_3 s1_4) else (tollgateref09_first.j0 k bt216.1 bt219.1 true s1_0 s1_1 s1_2 s1_3 s1_4))) else (tollgateref09_first.j0 k bt216.1 bt219.1 true s1_0 s1_1 s1_2 s1_3 s1_4)) else (tollgateref09_first.j0 k bt216.1 bt219.1 true s1_0 s1_1 s1_2 s1_3 s1_4)))
theorem tollgateref09_first.mono_l : ∀ k, (∀ y0 y1 y2 y3 y4 y5 y6 y7, LeO (tollgateref09_first.j0 k y0 y1 y2 y3 y4 y5 y6 y7) (tollgateref09_first.j0 (k + 1) y0 y1 y2 y3 y4 y5 y6 y7)) ∧ (∀ y0 y1 y2 y3 y4 y5 y6 y7, LeO (tollgateref09_first.j2 k y0 y1 y2 y3 y4 y5 y6 y7) (tollgateref09_first.j2 (k + 1) y0 y1 y2 y3 y4 y5 y6 y7)) ∧ (∀ y0 y1 y2 y3 y4 y5 y6 y7, LeO (tollgateref09_first.l0 k y0 y1 y2 y3 y4 y5 y6 y7) (tollgateref09_first.l0 (k + 1) y0 y1 y2 y3 y4 y5 y6 y7))
 | 0 => ⟨fun _ _ _ _ _ _ _ _ r h => by simp [tollgateref09_first.j0] at h, fun _ _ _ _ _ _ _ _ r h => by simp [tollgateref09_first.j2] at h, fun _ _ _ _ _ _ _ _ r h => by simp [tollgateref09_first.l0] at h⟩
 | k + 1 => by
  obtain ⟨ih0, ih1, ih2⟩ := tollgateref09_first.mono_l k
  refine ⟨?_, ?_, ?_⟩
  ·intro y0 y1 y2 y3 y4 y5 y6 y7
   unfold tollgateref09_first.j0
   repeat' first
   | (with_reducible exact ih0 _ _ _ _ _ _ _ _)
   | (with_reducible exact ih1 _ _ _ _ _ _ _ _)
   | (with_reducible exact ih2 _ _ _ _ _ _ _ _)
   | (with_reducible exact tollgateref09_Host.mono _ _)
   | (with_reducible exact tollgateref09_Path.mono _ _)
   | (with_reducible exact tollgateref09_Query.mono _ _)
   | (with_reducible exact tollgateref09_Token.mono _ _)
   | (with_reducible exact tollgateref09_cut.mono _ _ _)
   | (with_reducible exact LeO.refl _)
   | (with_reducible exact LeO.none _)
   | (with_reducible refine LeO.ite ?_ ?_)
   | (with_reducible refine LeO.bind ?_ (fun _ => ?_))
   | exact ih0 _ _ _ _ _ _ _ _
   | exact ih1 _ _ _ _ _ _ _ _
   | exact ih2 _ _ _ _ _ _ _ _
   | exact tollgateref09_Host.mono _ _
   | exact tollgateref09_Path.mono _ _
   | exact tollgateref09_Query.mono _ _
   | exact tollgateref09_Token.mono _ _
   | exact tollgateref09_cut.mono _ _ _
   | exact LeO.none _
   | refine LeO.ite ?_ ?_
   | refine LeO.bind ?_ (fun _ => ?_)
  ·intro y0 y1 y2 y3 y4 y5 y6 y7
   unfold tollgateref09_first.j2
   repeat' first
   | (with_reducible exact ih0 _ _ _ _ _ _ _ _)
   | (with_reducible exact ih1 _ _ _ _ _ _ _ _)
   | (with_reducible exact ih2 _ _ _ _ _ _ _ _)
   | (with_reducible exact tollgateref09_Host.mono _ _)
   | (with_reducible exact tollgateref09_Path.mono _ _)
   | (with_reducible exact tollgateref09_Query.mono _ _)
   | (with_reducible exact tollgateref09_Token.mono _ _)
   | (with_reducible exact tollgateref09_cut.mono _ _ _)
   | (with_reducible exact LeO.refl _)
   | (with_reducible exact LeO.none _)
   | (with_reducible refine LeO.ite ?_ ?_)
   | (with_reducible refine LeO.bind ?_ (fun _ => ?_))
   | exact ih0 _ _ _ _ _ _ _ _
   | exact ih1 _ _ _ _ _ _ _ _
   | exact ih2 _ _ _ _ _ _ _ _
   | exact tollgateref09_Host.mono _ _
   | exact tollgateref09_Path.mono _ _
   | exact tollgateref09_Query.mono _ _
   | exact tollgateref09_Token.mono _ _
   | exact tollgateref09_cut.mono _ _ _
   | exact LeO.none _
   | refine LeO.ite ?_ ?_
   | refine LeO.bind ?_ (fun _ => ?_)
  ·intro y0 y1 y2 y3 y4 y5 y6 y7
   unfold tollgateref09_first.l0
   repeat' first
   | (with_reducible exact ih0 _ _ _ _ _ _ _ _)
   | (with_reducible exact ih1 _ _ _ _ _ _ _ _)
   | (with_reducible exact ih2 _ _ _ _ _ _ _ _)
   | (with_reducible exact tollgateref09_Host.mono _ _)
   | (with_reducible exact tollgateref09_Path.mono _ _)
   | (with_reducible exact tollgateref09_Query.mono _ _)
   | (with_reducible exact tollgateref09_Token.mono _ _)
   | (with_reducible exact tollgateref09_cut.mono _ _ _)
   | (with_reducible exact LeO.refl _)
   | (with_reducible exact LeO.none _)
   | (with_reducible refine LeO.ite ?_ ?_)
   | (with_reducible refine LeO.bind ?_ (fun _ => ?_))
   | exact ih0 _ _ _ _ _ _ _ _
   | exact ih1 _ _ _ _ _ _ _ _
   | exact ih2 _ _ _ _ _ _ _ _
   | exact tollgateref09_Host.mono _ _
   | exact tollgateref09_Path.mono _ _
   | exact tollgateref09_Query.mono _ _
   | exact tollgateref09_Token.mono _ _
   | exact tollgateref09_cut.mono _ _ _
   | exact LeO.none _
   | refine LeO.ite ?_ ?_
   | refine LeO.bind ?_ (fun _ => ?_)
theorem tollgateref09_first.mono : ∀ a0 a1 a2 a3 a4 a5 k, LeO (tollgateref09_first.f k a0 a1 a2 a3 a4 a5) (tollgateref09_first.f (k + 1) a0 a1 a2 a3 a4 a5) := by
 intro a0 a1 a2 a3 a4 a5 k
 obtain ⟨ih0, ih1, ih2⟩ := tollgateref09_first.mono_l k
 unfold tollgateref09_first.f
 repeat' first
   | (with_reducible exact ih0 _ _ _ _ _ _ _ _)
   | (with_reducible exact ih1 _ _ _ _ _ _ _ _)
   | (with_reducible exact ih2 _ _ _ _ _ _ _ _)
   | (with_reducible exact tollgateref09_Host.mono _ _)
   | (with_reducible exact tollgateref09_Path.mono _ _)
   | (with_reducible exact tollgateref09_Query.mono _ _)
   | (with_reducible exact tollgateref09_Token.mono _ _)
   | (with_reducible exact tollgateref09_cut.mono _ _ _)
   | (with_reducible exact LeO.refl _)
   | (with_reducible exact LeO.none _)
   | (with_reducible refine LeO.ite ?_ ?_)
   | (with_reducible refine LeO.bind ?_ (fun _ => ?_))
   | exact ih0 _ _ _ _ _ _ _ _
   | exact ih1 _ _ _ _ _ _ _ _
   | exact ih2 _ _ _ _ _ _ _ _
   | exact tollgateref09_Host.mono _ _
   | exact tollgateref09_Path.mono _ _
   | exact tollgateref09_Query.mono _ _
   | exact tollgateref09_Token.mono _ _
   | exact tollgateref09_cut.mono _ _ _
   | exact LeO.none _
   | refine LeO.ite ?_ ?_
   | refine LeO.bind ?_ (fun _ => ?_)
set_option maxHeartbeats 8000000 in
set_option maxRecDepth 100000 in
theorem tollgateref09_first.calls (k : Nat) (a0 : ByteArray) (g : Nat) (s1_0 : ByteArray) (s1_1 : ByteArray) (s1_2 : ByteArray) (s1_3 : ByteArray) (s1_4 : List (S38)) (r1 : Bool) (r2 : ByteArray) (r3 : ByteArray) (r4 : ByteArray) (r5 : ByteArray) (w0 w : World) (hI : IsS25 w0 w g s1_0 s1_1 s1_2 s1_3 s1_4) (hB : Below w0.heap.size w0 w) (h : tollgateref09_first.f k a0 s1_0 s1_1 s1_2 s1_3 s1_4 = some (r1, r2, r3, r4, r5)) :
  Calls Tryd.prog 43 #[.string a0, .pointer (some ⟨g, 0, none⟩)] w fun e w' => e = .returned (.bool r1) ∧ IsS25 w0 w' g r2 r3 r4 r5 s1_4 ∧ Below w0.heap.size w0 w' ∧ KeepBut w w' g none := by
 have HI1 := Aside0.mk hI
 have HK := Aside0.mk (KeepBut.refl w g none)
 have HL := Aside0.mk hB.size
 clear hI
 have HW0 := Aside0.mk hB.size
 have HB := Aside0.mk hB
 clear hB
 have H : ((tollgateref09_cut.f k a0 32).bind fun bt216 => ((tollgateref09_cut.f k bt216.2.1 32).bind fun bt219 => (if bt216.2.2 = true then (if bt219.2.2 = true then ((tollgateref09_Token.f k bt216.1).bind fun t222 => (if t222 = true then (tollgateref09_first.j0 k bt216.1 bt219.1 (bt219.2.1.toList != ([72, 84, 84, 80, 47, 49, 46, 49] : List UInt8)) s1_0 s1_1 s1_2 s1_3 s1_4) else (tollgateref09_first.j0 k bt216.1 bt219.1 true s1_0 s1_1 s1_2 s1_3 s1_4))) else (tollgateref09_first.j0 k bt216.1 bt219.1 true s1_0 s1_1 s1_2 s1_3 s1_4)) else (tollgateref09_first.j0 k bt216.1 bt219.1 true s1_0 s1_1 s1_2 s1_3 s1_4)))) = some (r1, r2, r3, r4, r5) := h
 clear h
 replace H := Option.bind_eq_some_iff.mp H
 obtain ⟨⟨t216, t217, t218⟩, A30, H⟩ := H
 replace H : ((tollgateref09_cut.f k t217 32).bind fun bt219 => (if t218 = true then (if bt219.2.2 = true then ((tollgateref09_Token.f k t216).bind fun t222 => (if t222 = true then (tollgateref09_first.j0 k t216 bt219.1 (bt219.2.1.toList != ([72, 84, 84, 80, 47, 49, 46, 49] : List UInt8)) s1_0 s1_1 s1_2 s1_3 s1_4) else (tollgateref09_first.j0 k t216 bt219.1 true s1_0 s1_1 s1_2 s1_3 s1_4))) else (tollgateref09_first.j0 k t216 bt219.1 true s1_0 s1_1 s1_2 s1_3 s1_4)) else (tollgateref09_first.j0 k t216 bt219.1 true s1_0 s1_1 s1_2 s1_3 s1_4))) = some (r1, r2, r3, r4, r5) := H
 have A3 := Aside0.mk A30
 clear A30
 replace H := Option.bind_eq_some_iff.mp H
 obtain ⟨⟨t219, t220, t221⟩, A40, H⟩ := H
 replace H : (if t218 = true then (if t221 = true then ((tollgateref09_Token.f k t216).bind fun t222 => (if t222 = true then (tollgateref09_first.j0 k t216 t219 (t220.toList != ([72, 84, 84, 80, 47, 49, 46, 49] : List UInt8)) s1_0 s1_1 s1_2 s1_3 s1_4) else (tollgateref09_first.j0 k t216 t219 true s1_0 s1_1 s1_2 s1_3 s1_4))) else (tollgateref09_first.j0 k t216 t219 true s1_0 s1_1 s1_2 s1_3 s1_4)) else (tollgateref09_first.j0 k t216 t219 true s1_0 s1_1 s1_2 s1_3 s1_4)) = some (r1, r2, r3, r4, r5) := H
 have A4 := Aside0.mk A40
 clear A40
 have HC5 := Aside0.mk H
 clear H
 go_enter Tryd.func43, Tryd.ntmps43
 go_upto_region 3 with (first | ((with_reducible refine gate_callee (f := 44) rfl ?_); refine goesL_ (some 19) rfl rfl Tryd.func44 (by kernel_rfl) rfl #[.string a0, .int .u8 32] rfl (by (try simp only [List.map_toArray, List.map_cons, List.map_nil]); first | done | rfl | (simp only [List.length_drop, List.length_take]; rfl)) ?_; (with_reducible refine (tollgateref09_cut.calls k a0 32 t216 t217 t218 _ A3.out).mono ?_); rintro e w' ⟨rfl, ⟨nd, rfl⟩⟩; refine ⟨_, rfl, ?_⟩) | ((with_reducible refine gate_callee (f := 44) rfl ?_); refine goesL_ (some 25) rfl rfl Tryd.func44 (by kernel_rfl) rfl #[.string t217, .int .u8 32] rfl (by (try simp only [List.map_toArray, List.map_cons, List.map_nil]); first | done | rfl | (simp only [List.length_drop, List.length_take]; rfl)) ?_; (with_reducible refine (tollgateref09_cut.calls k t217 32 t219 t220 t221 _ A4.out).mono ?_); rintro e w' ⟨rfl, ⟨nd, rfl⟩⟩; refine ⟨_, rfl, ?_⟩))
 (try simp only [Act.put, List.setIfInBounds_toArray, List.set_cons_zero, List.set_cons_succ])
 go_cut [43] (fun v43 wc => ∃ (kq : Nat) (x43_4 : Bool), v43 = .bool x43_4 ∧ Aside0 (tollgateref09_first.j0 kq t216 t219 x43_4 s1_0 s1_1 s1_2 s1_3 s1_4 = some (r1, r2, r3, r4, r5)) ∧ Aside0 (kq ≤ k) ∧ Aside0 (IsS25 w0 wc g s1_0 s1_1 s1_2 s1_3 s1_4) ∧ Aside0 (KeepBut w wc g none) ∧ Aside0 (Below w0.heap.size w0 wc))
 case first =>
  have H := HC5.out
  clear HC5
  by_cases c6 : t218 = true
  ·subst c6
   have H1 : (if t221 = true then ((tollgateref09_Token.f k t216).bind fun t222 => (if t222 = true then (tollgateref09_first.j0 k t216 t219 (t220.toList != ([72, 84, 84, 80, 47, 49, 46, 49] : List UInt8)) s1_0 s1_1 s1_2 s1_3 s1_4) else (tollgateref09_first.j0 k t216 t219 true s1_0 s1_1 s1_2 s1_3 s1_4))) else (tollgateref09_first.j0 k t216 t219 true s1_0 s1_1 s1_2 s1_3 s1_4)) = some (r1, r2, r3, r4, r5) := by rw [if_pos rfl] at H; exact H
   clear H
   have H := H1
   clear H1
   by_cases c7 : t221 = true
   ·subst c7
    have H1 : ((tollgateref09_Token.f k t216).bind fun t222 => (if t222 = true then (tollgateref09_first.j0 k t216 t219 (t220.toList != ([72, 84, 84, 80, 47, 49, 46, 49] : List UInt8)) s1_0 s1_1 s1_2 s1_3 s1_4) else (tollgateref09_first.j0 k t216 t219 true s1_0 s1_1 s1_2 s1_3 s1_4))) = some (r1, r2, r3, r4, r5) := by rw [if_pos rfl] at H; exact H
    clear H
    have H := H1
    clear H1
    replace H := Option.bind_eq_some_iff.mp H
    obtain ⟨t222, A80, H⟩ := H
    replace H : (if t222 = true then (tollgateref09_first.j0 k t216 t219 (t220.toList != ([72, 84, 84, 80, 47, 49, 46, 49] : List UInt8)) s1_0 s1_1 s1_2 s1_3 s1_4) else (tollgateref09_first.j0 k t216 t219 true s1_0 s1_1 s1_2 s1_3 s1_4)) = some (r1, r2, r3, r4, r5) := H
    have A8 := Aside0.mk A80
    clear A80
    by_cases c9 : t222 = true
    ·subst c9
     have H1 : (tollgateref09_first.j0 k t216 t219 (t220.toList != ([72, 84, 84, 80, 47, 49, 46, 49] : List UInt8)) s1_0 s1_1 s1_2 s1_3 s1_4) = some (r1, r2, r3, r4, r5) := by rw [if_pos rfl] at H; exact H
     clear H
     have H := H1
     clear H1
     have H' := Aside0.mk H
     clear H
     go_wp2_with (first | (go_at_call 46; (with_reducible refine (tollgateref09_Token.calls k t216 true _ A8.out).mono ?_); rintro e w' ⟨rfl, ⟨nd, rfl⟩⟩))
     go_meet
     case rel => exact ⟨_, ((t220.toList != ([72, 84, 84, 80, 47, 49, 46, 49] : List UInt8))), (by first | rfl | (simp; done) | (simp [*]; done)), H', ⟨by first | omega | exact Nat.le_refl _⟩, ⟨by repeat (first | (with_reducible first | exact HI1.out | apply IsS25.alloc | apply IsS25.drewN | apply IsS25.drew | apply IsS25.set_0 | apply IsS25.set_1 | apply IsS25.set_2 | apply IsS25.set_3) | exact HI1.out)⟩, ⟨by repeat (first | (with_reducible first | exact HK.out | apply KeepBut.set_ | apply keep_drewN | apply keep_drew | apply keep_alloc) | exact HK.out)⟩, ⟨by repeat (first | (with_reducible first | exact HB.out | apply below_alloc | apply pw_below_drewN | apply below_drew1 | refine below_set ?_ (IsS25.ge HI1.out)) | exact HB.out)⟩⟩
    ·replace c9 := Bool.eq_false_iff.mpr c9
     subst c9
     have H1 : (tollgateref09_first.j0 k t216 t219 true s1_0 s1_1 s1_2 s1_3 s1_4) = some (r1, r2, r3, r4, r5) := by rw [if_neg (show ¬ (false = true) by decide)] at H; exact H
     clear H
     have H := H1
     clear H1
     have H' := Aside0.mk H
     clear H
     go_wp2_with (first | (go_at_call 46; (with_reducible refine (tollgateref09_Token.calls k t216 false _ A8.out).mono ?_); rintro e w' ⟨rfl, ⟨nd, rfl⟩⟩))
     go_meet
     case rel => exact ⟨_, (true), (by first | rfl | (simp; done) | (simp [*]; done)), H', ⟨by first | omega | exact Nat.le_refl _⟩, ⟨by repeat (first | (with_reducible first | exact HI1.out | apply IsS25.alloc | apply IsS25.drewN | apply IsS25.drew | apply IsS25.set_0 | apply IsS25.set_1 | apply IsS25.set_2 | apply IsS25.set_3) | exact HI1.out)⟩, ⟨by repeat (first | (with_reducible first | exact HK.out | apply KeepBut.set_ | apply keep_drewN | apply keep_drew | apply keep_alloc) | exact HK.out)⟩, ⟨by repeat (first | (with_reducible first | exact HB.out | apply below_alloc | apply pw_below_drewN | apply below_drew1 | refine below_set ?_ (IsS25.ge HI1.out)) | exact HB.out)⟩⟩
   ·replace c7 := Bool.eq_false_iff.mpr c7
    subst c7
    have H1 : (tollgateref09_first.j0 k t216 t219 true s1_0 s1_1 s1_2 s1_3 s1_4) = some (r1, r2, r3, r4, r5) := by rw [if_neg (show ¬ (false = true) by decide)] at H; exact H
    clear H
    have H := H1
    clear H1
    have H' := Aside0.mk H
    clear H
    go_wp2
    go_meet
    case rel => exact ⟨_, (true), (by first | rfl | (simp; done) | (simp [*]; done)), H', ⟨by first | omega | exact Nat.le_refl _⟩, ⟨by repeat (first | (with_reducible first | exact HI1.out | apply IsS25.alloc | apply IsS25.drewN | apply IsS25.drew | apply IsS25.set_0 | apply IsS25.set_1 | apply IsS25.set_2 | apply IsS25.set_3) | exact HI1.out)⟩, ⟨by repeat (first | (with_reducible first | exact HK.out | apply KeepBut.set_ | apply keep_drewN | apply keep_drew | apply keep_alloc) | exact HK.out)⟩, ⟨by repeat (first | (with_reducible first | exact HB.out | apply below_alloc | apply pw_below_drewN | apply below_drew1 | refine below_set ?_ (IsS25.ge HI1.out)) | exact HB.out)⟩⟩
  ·replace c6 := Bool.eq_false_iff.mpr c6
   subst c6
   have H1 : (tollgateref09_first.j0 k t216 t219 true s1_0 s1_1 s1_2 s1_3 s1_4) = some (r1, r2, r3, r4, r5) := by rw [if_neg (show ¬ (false = true) by decide)] at H; exact H
   clear H
   have H := H1
   clear H1
   have H' := Aside0.mk H
   clear H
   go_wp2
   go_meet
   case rel => exact ⟨_, (true), (by first | rfl | (simp; done) | (simp [*]; done)), H', ⟨by first | omega | exact Nat.le_refl _⟩, ⟨by repeat (first | (with_reducible first | exact HI1.out | apply IsS25.alloc | apply IsS25.drewN | apply IsS25.drew | apply IsS25.set_0 | apply IsS25.set_1 | apply IsS25.set_2 | apply IsS25.set_3) | exact HI1.out)⟩, ⟨by repeat (first | (with_reducible first | exact HK.out | apply KeepBut.set_ | apply keep_drewN | apply keep_drew | apply keep_alloc) | exact HK.out)⟩, ⟨by repeat (first | (with_reducible first | exact HB.out | apply below_alloc | apply pw_below_drewN | apply below_drew1 | refine below_set ?_ (IsS25.ge HI1.out)) | exact HB.out)⟩⟩
 case rest =>
  clear HC5
  try clear c4
  obtain ⟨kq, x43_4, rfl, HA, HJ4, HI1, HK, HB⟩ := hcut
  cases kq with
  | zero => exact absurd HA.out (by simp [tollgateref09_first.j0])
  | succ kj4 =>
   have H := HA.out
   clear HA
   simp only [tollgateref09_first.j0] at H
   by_cases c10 : x43_4 = true
   ·subst c10
    have H1 : (some (false, s1_0, s1_1, s1_2, s1_3)) = some (r1, r2, r3, r4, r5) := by rw [if_pos rfl] at H; exact H
    clear H
    have H := H1
    clear H1
    simp only [Option.some.injEq, Prod.mk.injEq] at H
    obtain ⟨rfl, rfl, rfl, rfl, rfl⟩ := H
    go_wp2
    go_ret
    exact ⟨by first | rfl | (simp [errW_none, errW_some] <;> rfl) | (simp [*, errW_none, errW_some] <;> rfl), by repeat (first | (with_reducible first | exact HI1.out | apply IsS25.alloc | apply IsS25.drewN | apply IsS25.drew | apply IsS25.set_0 | apply IsS25.set_1 | apply IsS25.set_2 | apply IsS25.set_3) | exact HI1.out), by repeat (first | (with_reducible first | exact HB.out | apply below_alloc | apply pw_below_drewN | apply below_drew1 | refine below_set ?_ (IsS25.ge HI1.out)) | exact HB.out), by repeat (first | (with_reducible first | exact HK.out | apply KeepBut.set_ | apply keep_drewN | apply keep_drew | apply keep_alloc) | exact HK.out)⟩
   ·replace c10 := Bool.eq_false_iff.mpr c10
    subst c10
    have H1 : ((tollgateref09_cut.f kj4 t219 63).bind fun bt223 => ((tollgateref09_begins.f bt223.1 (⟨#[104, 116, 116, 112, 58, 47, 47]⟩ : ByteArray)).bind fun t226 => (if t226 = true then (if 7 ≤ (bt223.1.size : Int) then (tollgateref09_first.l0 kj4 (bt223.1.extract 7 bt223.1.size) bt223.2.1 0 t216 s1_1 s1_2 s1_3 s1_4) else (none)) else ((tollgateref09_Path.f kj4 bt223.1).bind fun t233 => (if t233 = true then ((tollgateref09_Query.f kj4 bt223.2.1).bind fun t234 => (some (t234, t216, bt223.1, bt223.2.1, s1_3))) else (some (false, t216, bt223.1, bt223.2.1, s1_3))))))) = some (r1, r2, r3, r4, r5) := by rw [if_neg (show ¬ (false = true) by decide)] at H; exact H
    clear H
    have H := H1
    clear H1
    replace H := Option.bind_eq_some_iff.mp H
    obtain ⟨⟨t223, t224, t225⟩, A110, H⟩ := H
    replace H : ((tollgateref09_begins.f t223 (⟨#[104, 116, 116, 112, 58, 47, 47]⟩ : ByteArray)).bind fun t226 => (if t226 = true then (if 7 ≤ (t223.size : Int) then (tollgateref09_first.l0 kj4 (t223.extract 7 t223.size) t224 0 t216 s1_1 s1_2 s1_3 s1_4) else (none)) else ((tollgateref09_Path.f kj4 t223).bind fun t233 => (if t233 = true then ((tollgateref09_Query.f kj4 t224).bind fun t234 => (some (t234, t216, t223, t224, s1_3))) else (some (false, t216, t223, t224, s1_3)))))) = some (r1, r2, r3, r4, r5) := H
    have A11 := Aside0.mk A110
    clear A110
    replace H := Option.bind_eq_some_iff.mp H
    obtain ⟨t226, A120, H⟩ := H
    replace H : (if t226 = true then (if 7 ≤ (t223.size : Int) then (tollgateref09_first.l0 kj4 (t223.extract 7 t223.size) t224 0 t216 s1_1 s1_2 s1_3 s1_4) else (none)) else ((tollgateref09_Path.f kj4 t223).bind fun t233 => (if t233 = true then ((tollgateref09_Query.f kj4 t224).bind fun t234 => (some (t234, t216, t223, t224, s1_3))) else (some (false, t216, t223, t224, s1_3))))) = some (r1, r2, r3, r4, r5) := H
    have A12 := Aside0.mk A120
    clear A120
    by_cases c13 : t226 = true
    ·subst c13
     have H1 : (if 7 ≤ (t223.size : Int) then (tollgateref09_first.l0 kj4 (t223.extract 7 t223.size) t224 0 t216 s1_1 s1_2 s1_3 s1_4) else (none)) = some (r1, r2, r3, r4, r5) := by rw [if_pos rfl] at H; exact H
     clear H
     have H := H1
     clear H1
     by_cases c14 : 7 ≤ (t223.size : Int)
     ·rw [if_pos c14] at H
      have c14b0 := eq_true c14
      have c14b1 : decide (7 ≤ (t223.size : Int)) = true := decide_eq_true c14
      clear c14
      have HC15 := Aside0.mk H
      clear H
      obtain ⟨ASz16_4, cSz16_4, HGz16, hgz16, HSz16_4⟩ := HI1.out
      have hcz16_0 := cellS25_0 HGz16
      have hcz16_1 := cellS25_1 HGz16
      have hcz16_2 := cellS25_2 HGz16
      have hcz16_3 := cellS25_3 HGz16
      have hcz16_4 := cellS25_4 HGz16
      have hfz16_0 := blk_frozen HGz16 0
      have hfz16_1 := blk_frozen HGz16 1
      have hfz16_2 := blk_frozen HGz16 2
      have hfz16_3 := blk_frozen HGz16 3
      clear HGz16 hgz16
      go_upto_block 0 with (first | ((with_reducible refine gate_callee (f := 44) rfl ?_); refine goesL_ (some 50) rfl rfl Tryd.func44 (by kernel_rfl) rfl #[.string t219, .int .u8 63] rfl (by (try simp only [List.map_toArray, List.map_cons, List.map_nil]); first | done | rfl | (simp only [List.length_drop, List.length_take]; rfl)) ?_; (with_reducible refine (tollgateref09_cut.calls kj4 t219 63 t223 t224 t225 _ A11.out).mono ?_); rintro e w' ⟨rfl, ⟨nd, rfl⟩⟩; refine ⟨_, rfl, ?_⟩) | ((with_reducible refine gate_callee (f := 79) rfl ?_); refine goesL_ (some 55) rfl rfl Tryd.func79 (by kernel_rfl) rfl #[.string t223, .string (⟨#[104, 116, 116, 112, 58, 47, 47]⟩ : ByteArray)] rfl (by (try simp only [List.map_toArray, List.map_cons, List.map_nil]); first | done | rfl | (simp only [List.length_drop, List.length_take]; rfl)) ?_; (with_reducible refine (tollgateref09_begins.calls t223 (⟨#[104, 116, 116, 112, 58, 47, 47]⟩ : ByteArray) true _ A12.out).mono ?_); rintro e w' ⟨rfl, ⟨nd, rfl⟩⟩; refine ⟨_, rfl, ?_⟩))
      (try simp only [Act.put, List.setIfInBounds_toArray, List.set_cons_zero, List.set_cons_succ])
      obtain ⟨z7, hz7⟩ : ∃ z : ByteArray, z = t223.extract 7 t223.size := ⟨_, rfl⟩
      rw [← hz7] at HC15 ⊢
      clear hz7
      go_cut [14] (fun v14 wc => ∃ (kq : Nat) (x14_14 : Int), v14 = .int .i64 x14_14 ∧ Aside0 (tollgateref09_first.j2 kq z7 t224 x14_14 t216 s1_1 s1_2 s1_3 s1_4 = some (r1, r2, r3, r4, r5)) ∧ Aside0 (kq ≤ kj4) ∧ Aside0 (IsS25 w0 wc g t216 s1_1 s1_2 s1_3 s1_4) ∧ Aside0 (KeepBut w wc g none) ∧ Aside0 (Below w0.heap.size w0 wc))
      case first =>
       have H := HC15.out
       clear HC15
       have H' := Aside0.mk H
       clear H
       go_wp2
       go_loopg [14] kj4 (fun kq v14 w' => ∃ (x14_2 : Int), v14 = .int .i64 x14_2 ∧ Aside0 (tollgateref09_first.l0 kq z7 t224 x14_2 t216 s1_1 s1_2 s1_3 s1_4 = some (r1, r2, r3, r4, r5)) ∧ Aside0 (kq ≤ kj4) ∧ Aside0 (IsS25 w0 w' g t216 s1_1 s1_2 s1_3 s1_4) ∧ Aside0 (KeepBut w w' g none) ∧ Aside0 (Below w0.heap.size w0 w'))
       case atStart => exact ⟨(0), (by first | rfl | (simp; done) | (simp [*]; done)), H', ⟨Nat.le_refl _⟩, ⟨by repeat (first | (with_reducible first | exact HI1.out | apply IsS25.alloc | apply IsS25.drewN | apply IsS25.drew | apply IsS25.set_0 | apply IsS25.set_1 | apply IsS25.set_2 | apply IsS25.set_3) | exact HI1.out)⟩, ⟨by repeat (first | (with_reducible first | exact HK.out | apply KeepBut.set_ | apply keep_drewN | apply keep_drew | apply keep_alloc) | exact HK.out)⟩, ⟨by repeat (first | (with_reducible first | exact HB.out | apply below_alloc | apply pw_below_drewN | apply below_drew1 | refine below_set ?_ (IsS25.ge HI1.out)) | exact HB.out)⟩⟩
       case round =>
        clear H'
        try clear c4
        try clear c10
        try clear c13
        try clear c14
        try clear c14b0
        try clear c14b1
        try clear hcz16_0
        try clear hcz16_1
        try clear hcz16_2
        try clear hcz16_3
        try clear hcz16_4
        try clear hfz16_0
        try clear hfz16_1
        try clear hfz16_2
        try clear hfz16_3
        obtain ⟨x14_2, rfl, HA, HK2, HI1, HK, HB⟩ := hrel
        cases gk with
        | zero => exact absurd HA.out (by simp [tollgateref09_first.l0])
        | succ k2 =>
         have H := HA.out
         clear HA
         simp only [tollgateref09_first.l0] at H
         by_cases c17 : x14_2 < (z7.size : Int)
         ·rw [if_pos c17] at H
          have c17b0 : decide (x14_2 < (z7.size : Int)) = true := decide_eq_true c17
          clear c17
          (first | rw [c17b0] | (simp only [i64_w, i32_w]; rw [c17b0]) | skip)
          by_cases c18 : 0 ≤ x14_2
          ·rw [if_pos c18] at H
           have c18b0 : decide (0 ≤ x14_2) = true := decide_eq_true c18
           clear c18
           by_cases c20 : (bt z7 x14_2) = 47
           ·rw [if_pos c20] at H
            have c20b0 : ((bt z7 x14_2) == 47) = true := beq_iff_eq.mpr c20
            have c20b1 : ((bt z7 x14_2) != 47) = false := bne_eq_false_iff_eq.mpr c20
            clear c20
            have H' := Aside0.mk H
            clear H
            have p19 : 0 ≤ (x14_2 : Int) := of_decide_eq_true (by first | (with_reducible assumption) | assumption)
            have q19 : x14_2 < (z7.size : Int) := of_decide_eq_true (by first | (with_reducible assumption) | assumption)
            have hx19 := bt_at z7 x14_2
            replace p19 := eq_true p19
            replace q19 := eq_true q19
            go_wp2
            go_meet
            case rel => exact ⟨_, (x14_2), (by first | rfl | (simp; done) | (simp [*]; done)), H', ⟨by have := HJ4.out; have := HK2.out; first | omega | exact Nat.le_refl _⟩, ⟨by repeat (first | (with_reducible first | exact HI1.out | apply IsS25.alloc | apply IsS25.drewN | apply IsS25.drew | apply IsS25.set_0 | apply IsS25.set_1 | apply IsS25.set_2 | apply IsS25.set_3) | exact HI1.out)⟩, ⟨by repeat (first | (with_reducible first | exact HK.out | apply KeepBut.set_ | apply keep_drewN | apply keep_drew | apply keep_alloc) | exact HK.out)⟩, ⟨by repeat (first | (with_reducible first | exact HB.out | apply below_alloc | apply pw_below_drewN | apply below_drew1 | refine below_set ?_ (IsS25.ge HI1.out)) | exact HB.out)⟩⟩
           ·rw [if_neg c20] at H
            have c20b0 : ((bt z7 x14_2) == 47) = false := beq_eq_false_iff_ne.mpr c20
            have c20b1 : ((bt z7 x14_2) != 47) = true := bne_iff_ne.mpr c20
            have H' := Aside0.mk H
            clear H
            have p19 : 0 ≤ (x14_2 : Int) := of_decide_eq_true (by first | (with_reducible assumption) | assumption)
            have q19 : x14_2 < (z7.size : Int) := of_decide_eq_true (by first | (with_reducible assumption) | assumption)
            have hx19 := bt_at z7 x14_2
            replace p19 := eq_true p19
            replace q19 := eq_true q19
            go_wp2
            go_roundg k2
            case measure => have := HJ4.out; have := HK2.out; omega
            case rel => exact ⟨(wrap64 (x14_2 + 1)), (by first | rfl | (simp; done) | (simp [*]; done)), H', ⟨by have := HJ4.out; have := HK2.out; omega⟩, ⟨by repeat (first | (with_reducible first | exact HI1.out | apply IsS25.alloc | apply IsS25.drewN | apply IsS25.drew | apply IsS25.set_0 | apply IsS25.set_1 | apply IsS25.set_2 | apply IsS25.set_3) | exact HI1.out)⟩, ⟨by repeat (first | (with_reducible first | exact HK.out | apply KeepBut.set_ | apply keep_drewN | apply keep_drew | apply keep_alloc) | exact HK.out)⟩, ⟨by repeat (first | (with_reducible first | exact HB.out | apply below_alloc | apply pw_below_drewN | apply below_drew1 | refine below_set ?_ (IsS25.ge HI1.out)) | exact HB.out)⟩⟩
          ·rw [if_neg c18] at H
           exact absurd H (by simp)
         ·rw [if_neg c17] at H
          have c17b0 : decide (x14_2 < (z7.size : Int)) = false := decide_eq_false c17
          clear c17
          (first | rw [c17b0] | (simp only [i64_w, i32_w]; rw [c17b0]) | skip)
          have H' := Aside0.mk H
          clear H
          go_wp2
          go_meet
          case rel => exact ⟨_, (x14_2), (by first | rfl | (simp; done) | (simp [*]; done)), H', ⟨by have := HJ4.out; have := HK2.out; first | omega | exact Nat.le_refl _⟩, ⟨by repeat (first | (with_reducible first | exact HI1.out | apply IsS25.alloc | apply IsS25.drewN | apply IsS25.drew | apply IsS25.set_0 | apply IsS25.set_1 | apply IsS25.set_2 | apply IsS25.set_3) | exact HI1.out)⟩, ⟨by repeat (first | (with_reducible first | exact HK.out | apply KeepBut.set_ | apply keep_drewN | apply keep_drew | apply keep_alloc) | exact HK.out)⟩, ⟨by repeat (first | (with_reducible first | exact HB.out | apply below_alloc | apply pw_below_drewN | apply below_drew1 | refine below_set ?_ (IsS25.ge HI1.out)) | exact HB.out)⟩⟩
      case rest =>
       clear HC15
       try clear c4
       try clear c10
       try clear c13
       try clear c14
       try clear c14b0
       try clear c14b1
       try clear hcz16_0
       try clear hcz16_1
       try clear hcz16_2
       try clear hcz16_3
       try clear hcz16_4
       try clear hfz16_0
       try clear hfz16_1
       try clear hfz16_2
       try clear hfz16_3
       obtain ⟨kq, x14_14, rfl, HA, HJ14, HI1, HK, HB⟩ := hcut
       cases kq with
       | zero => exact absurd HA.out (by simp [tollgateref09_first.j2])
       | succ kj14 =>
        have H := HA.out
        clear HA
        simp only [tollgateref09_first.j2] at H
        by_cases c21 : 0 ≤ x14_14
        ·rw [if_pos c21] at H
         have c21b0 := eq_true c21
         have c21b1 : decide (0 ≤ x14_14) = true := decide_eq_true c21
         clear c21
         by_cases c22 : x14_14 ≤ (z7.size : Int)
         ·rw [if_pos c22] at H
          have c22b0 := eq_true c22
          have c22b1 : decide (x14_14 ≤ (z7.size : Int)) = true := decide_eq_true c22
          clear c22
          replace H := Option.bind_eq_some_iff.mp H
          obtain ⟨⟨t227, t228⟩, A230, H⟩ := H
          replace H : (if t228 = true then (if (z7.extract (x14_14 : Int).toNat z7.size).toList = ([] : List UInt8) then ((tollgateref09_Path.f kj14 (⟨#[47]⟩ : ByteArray)).bind fun t229 => (if t229 = true then ((tollgateref09_Query.f kj14 t224).bind fun t230 => (some (t230, t216, (⟨#[47]⟩ : ByteArray), t224, t227))) else (some (false, t216, (⟨#[47]⟩ : ByteArray), t224, t227)))) else ((tollgateref09_Path.f kj14 (z7.extract (x14_14 : Int).toNat z7.size)).bind fun t231 => (if t231 = true then ((tollgateref09_Query.f kj14 t224).bind fun t232 => (some (t232, t216, z7.extract (x14_14 : Int).toNat z7.size, t224, t227))) else (some (false, t216, z7.extract (x14_14 : Int).toNat z7.size, t224, t227))))) else (some (false, t216, s1_1, s1_2, s1_3))) = some (r1, r2, r3, r4, r5) := H
          have A23 := Aside0.mk A230
          clear A230
          by_cases c24 : t228 = true
          ·subst c24
           have H1 : (if (z7.extract (x14_14 : Int).toNat z7.size).toList = ([] : List UInt8) then ((tollgateref09_Path.f kj14 (⟨#[47]⟩ : ByteArray)).bind fun t229 => (if t229 = true then ((tollgateref09_Query.f kj14 t224).bind fun t230 => (some (t230, t216, (⟨#[47]⟩ : ByteArray), t224, t227))) else (some (false, t216, (⟨#[47]⟩ : ByteArray), t224, t227)))) else ((tollgateref09_Path.f kj14 (z7.extract (x14_14 : Int).toNat z7.size)).bind fun t231 => (if t231 = true then ((tollgateref09_Query.f kj14 t224).bind fun t232 => (some (t232, t216, z7.extract (x14_14 : Int).toNat z7.size, t224, t227))) else (some (false, t216, z7.extract (x14_14 : Int).toNat z7.size, t224, t227))))) = some (r1, r2, r3, r4, r5) := by rw [if_pos rfl] at H; exact H
           clear H
           have H := H1
           clear H1
           have c25b0 := eq_true (of_decide_eq_true (by first | (with_reducible assumption) | assumption) : 0 ≤ x14_14)
           have c26b0 := eq_true (of_decide_eq_true (by first | (with_reducible assumption) | assumption) : x14_14 ≤ (z7.size : Int))
           by_cases c27 : (z7.extract (x14_14 : Int).toNat z7.size).toList = ([] : List UInt8)
           ·rw [if_pos c27] at H
            have c27b0 : ((z7.extract (x14_14 : Int).toNat z7.size).toList == ([] : List UInt8)) = true := beq_iff_eq.mpr c27
            have c27b1 : ((z7.extract (x14_14 : Int).toNat z7.size).toList != ([] : List UInt8)) = false := bne_eq_false_iff_eq.mpr c27
            clear c27
            replace H := Option.bind_eq_some_iff.mp H
            obtain ⟨t229, A280, H⟩ := H
            replace H : (if t229 = true then ((tollgateref09_Query.f kj14 t224).bind fun t230 => (some (t230, t216, (⟨#[47]⟩ : ByteArray), t224, t227))) else (some (false, t216, (⟨#[47]⟩ : ByteArray), t224, t227))) = some (r1, r2, r3, r4, r5) := H
            have A28 := Aside0.mk A280
            clear A280
            by_cases c29 : t229 = true
            ·subst c29
             have H1 : ((tollgateref09_Query.f kj14 t224).bind fun t230 => (some (t230, t216, (⟨#[47]⟩ : ByteArray), t224, t227))) = some (r1, r2, r3, r4, r5) := by rw [if_pos rfl] at H; exact H
             clear H
             have H := H1
             clear H1
             replace H := Option.bind_eq_some_iff.mp H
             obtain ⟨t230, A300, H⟩ := H
             replace H : (some (t230, t216, (⟨#[47]⟩ : ByteArray), t224, t227)) = some (r1, r2, r3, r4, r5) := H
             have A30 := Aside0.mk A300
             clear A300
             simp only [Option.some.injEq, Prod.mk.injEq] at H
             obtain ⟨rfl, rfl, rfl, rfl, rfl⟩ := H
             go_wp2_with (first | ((with_reducible refine gate_callee (f := 23) rfl ?_); refine goesL_ (some 74) rfl rfl Tryd.func23 (by kernel_rfl) rfl #[.string (z7.extract 0 (x14_14 : Int).toNat)] rfl (by (try simp only [List.map_toArray, List.map_cons, List.map_nil]); first | done | rfl | (simp only [List.length_drop, List.length_take]; rfl)) ?_; (with_reducible refine (tollgateref09_Host.calls kj14 (z7.extract 0 (x14_14 : Int).toNat) t227 true _ A23.out).mono ?_); rintro e w31 ⟨rfl, hb⟩; refine ⟨_, rfl, ?_⟩; have n0_ := Aside0.mk (IsS25.below (by repeat (first | (with_reducible first | exact HI1.out | apply IsS25.alloc | apply IsS25.drewN | apply IsS25.drew | apply IsS25.set_0 | apply IsS25.set_1 | apply IsS25.set_2 | apply IsS25.set_3) | exact HI1.out)) hb); have n1_ := Aside0.mk (KeepBut.trans (by repeat (first | (with_reducible first | exact HK.out | apply KeepBut.set_ | apply keep_drewN | apply keep_drew | apply keep_alloc) | exact HK.out)) (KeepBut.of_below hb g none) (.inl rfl)); have n2_ := Aside0.mk (below_step (by repeat (first | (with_reducible first | exact HB.out | apply below_alloc | apply pw_below_drewN | apply below_drew1 | refine below_set ?_ (IsS25.ge HI1.out)) | exact HB.out)) hb); clear HI1; clear HK; clear HB; have HI1 := n0_; have HK := n1_; have HB := n2_; clear n0_ n1_ n2_; (try clear hb); (try clear hb2); (try clear hk); (try clear hi); obtain ⟨ASz32_4, cSz32_4, HGz32, hgz32, HSz32_4⟩ := HI1.out; have hcz32_0 := cellS25_0 HGz32; have hcz32_1 := cellS25_1 HGz32; have hcz32_2 := cellS25_2 HGz32; have hcz32_3 := cellS25_3 HGz32; have hcz32_4 := cellS25_4 HGz32; have hfz32_0 := blk_frozen HGz32 0; have hfz32_1 := blk_frozen HGz32 1; have hfz32_2 := blk_frozen HGz32 2; have hfz32_3 := blk_frozen HGz32 3; clear HGz32 hgz32) | ((with_reducible refine gate_callee (f := 19) rfl ?_); refine goesL_ (some 97) rfl rfl Tryd.func19 (by kernel_rfl) rfl #[.string (⟨#[47]⟩ : ByteArray)] rfl (by (try simp only [List.map_toArray, List.map_cons, List.map_nil]); first | done | rfl | (simp only [List.length_drop, List.length_take]; rfl)) ?_; (with_reducible refine (tollgateref09_Path.calls kj14 (⟨#[47]⟩ : ByteArray) true _ A28.out).mono ?_); rintro e w' ⟨rfl, ⟨nd, rfl⟩⟩; refine ⟨_, rfl, ?_⟩) | (go_at_call 20; (with_reducible refine (tollgateref09_Query.calls kj14 t224 t230 _ A30.out).mono ?_); rintro e w' ⟨rfl, ⟨nd, rfl⟩⟩))
             go_ret
             exact ⟨by first | rfl | (simp [errW_none, errW_some] <;> rfl) | (simp [*, errW_none, errW_some] <;> rfl), by repeat (first | (with_reducible first | exact HI1.out | apply IsS25.alloc | apply IsS25.drewN | apply IsS25.drew | apply IsS25.set_0 | apply IsS25.set_1 | apply IsS25.set_2 | apply IsS25.set_3) | exact HI1.out), by repeat (first | (with_reducible first | exact HB.out | apply below_alloc | apply pw_below_drewN | apply below_drew1 | refine below_set ?_ (IsS25.ge HI1.out)) | exact HB.out), by repeat (first | (with_reducible first | exact HK.out | apply KeepBut.set_ | apply keep_drewN | apply keep_drew | apply keep_alloc) | exact HK.out)⟩
            ·replace c29 := Bool.eq_false_iff.mpr c29
             subst c29
             have H1 : (some (false, t216, (⟨#[47]⟩ : ByteArray), t224, t227)) = some (r1, r2, r3, r4, r5) := by rw [if_neg (show ¬ (false = true) by decide)] at H; exact H
             clear H
             have H := H1
             clear H1
             simp only [Option.some.injEq, Prod.mk.injEq] at H
             obtain ⟨rfl, rfl, rfl, rfl, rfl⟩ := H
             go_wp2_with (first | ((with_reducible refine gate_callee (f := 23) rfl ?_); refine goesL_ (some 74) rfl rfl Tryd.func23 (by kernel_rfl) rfl #[.string (z7.extract 0 (x14_14 : Int).toNat)] rfl (by (try simp only [List.map_toArray, List.map_cons, List.map_nil]); first | done | rfl | (simp only [List.length_drop, List.length_take]; rfl)) ?_; (with_reducible refine (tollgateref09_Host.calls kj14 (z7.extract 0 (x14_14 : Int).toNat) t227 true _ A23.out).mono ?_); rintro e w33 ⟨rfl, hb⟩; refine ⟨_, rfl, ?_⟩; have n0_ := Aside0.mk (IsS25.below (by repeat (first | (with_reducible first | exact HI1.out | apply IsS25.alloc | apply IsS25.drewN | apply IsS25.drew | apply IsS25.set_0 | apply IsS25.set_1 | apply IsS25.set_2 | apply IsS25.set_3) | exact HI1.out)) hb); have n1_ := Aside0.mk (KeepBut.trans (by repeat (first | (with_reducible first | exact HK.out | apply KeepBut.set_ | apply keep_drewN | apply keep_drew | apply keep_alloc) | exact HK.out)) (KeepBut.of_below hb g none) (.inl rfl)); have n2_ := Aside0.mk (below_step (by repeat (first | (with_reducible first | exact HB.out | apply below_alloc | apply pw_below_drewN | apply below_drew1 | refine below_set ?_ (IsS25.ge HI1.out)) | exact HB.out)) hb); clear HI1; clear HK; clear HB; have HI1 := n0_; have HK := n1_; have HB := n2_; clear n0_ n1_ n2_; (try clear hb); (try clear hb2); (try clear hk); (try clear hi); obtain ⟨ASz34_4, cSz34_4, HGz34, hgz34, HSz34_4⟩ := HI1.out; have hcz34_0 := cellS25_0 HGz34; have hcz34_1 := cellS25_1 HGz34; have hcz34_2 := cellS25_2 HGz34; have hcz34_3 := cellS25_3 HGz34; have hcz34_4 := cellS25_4 HGz34; have hfz34_0 := blk_frozen HGz34 0; have hfz34_1 := blk_frozen HGz34 1; have hfz34_2 := blk_frozen HGz34 2; have hfz34_3 := blk_frozen HGz34 3; clear HGz34 hgz34) | ((with_reducible refine gate_callee (f := 19) rfl ?_); refine goesL_ (some 97) rfl rfl Tryd.func19 (by kernel_rfl) rfl #[.string (⟨#[47]⟩ : ByteArray)] rfl (by (try simp only [List.map_toArray, List.map_cons, List.map_nil]); first | done | rfl | (simp only [List.length_drop, List.length_take]; rfl)) ?_; (with_reducible refine (tollgateref09_Path.calls kj14 (⟨#[47]⟩ : ByteArray) false _ A28.out).mono ?_); rintro e w' ⟨rfl, ⟨nd, rfl⟩⟩; refine ⟨_, rfl, ?_⟩))
             go_ret
             exact ⟨by first | rfl | (simp [errW_none, errW_some] <;> rfl) | (simp [*, errW_none, errW_some] <;> rfl), by repeat (first | (with_reducible first | exact HI1.out | apply IsS25.alloc | apply IsS25.drewN | apply IsS25.drew | apply IsS25.set_0 | apply IsS25.set_1 | apply IsS25.set_2 | apply IsS25.set_3) | exact HI1.out), by repeat (first | (with_reducible first | exact HB.out | apply below_alloc | apply pw_below_drewN | apply below_drew1 | refine below_set ?_ (IsS25.ge HI1.out)) | exact HB.out), by repeat (first | (with_reducible first | exact HK.out | apply KeepBut.set_ | apply keep_drewN | apply keep_drew | apply keep_alloc) | exact HK.out)⟩
           ·rw [if_neg c27] at H
            have c27b0 : ((z7.extract (x14_14 : Int).toNat z7.size).toList == ([] : List UInt8)) = false := beq_eq_false_iff_ne.mpr c27
            have c27b1 : ((z7.extract (x14_14 : Int).toNat z7.size).toList != ([] : List UInt8)) = true := bne_iff_ne.mpr c27
            replace H := Option.bind_eq_some_iff.mp H
            obtain ⟨t231, A350, H⟩ := H
            replace H : (if t231 = true then ((tollgateref09_Query.f kj14 t224).bind fun t232 => (some (t232, t216, z7.extract (x14_14 : Int).toNat z7.size, t224, t227))) else (some (false, t216, z7.extract (x14_14 : Int).toNat z7.size, t224, t227))) = some (r1, r2, r3, r4, r5) := H
            have A35 := Aside0.mk A350
            clear A350
            by_cases c36 : t231 = true
            ·subst c36
             have H1 : ((tollgateref09_Query.f kj14 t224).bind fun t232 => (some (t232, t216, z7.extract (x14_14 : Int).toNat z7.size, t224, t227))) = some (r1, r2, r3, r4, r5) := by rw [if_pos rfl] at H; exact H
             clear H
             have H := H1
             clear H1
             replace H := Option.bind_eq_some_iff.mp H
             obtain ⟨t232, A370, H⟩ := H
             replace H : (some (t232, t216, z7.extract (x14_14 : Int).toNat z7.size, t224, t227)) = some (r1, r2, r3, r4, r5) := H
             have A37 := Aside0.mk A370
             clear A370
             simp only [Option.some.injEq, Prod.mk.injEq] at H
             obtain ⟨rfl, rfl, rfl, rfl, rfl⟩ := H
             go_wp2_with (first | ((with_reducible refine gate_callee (f := 23) rfl ?_); refine goesL_ (some 74) rfl rfl Tryd.func23 (by kernel_rfl) rfl #[.string (z7.extract 0 (x14_14 : Int).toNat)] rfl (by (try simp only [List.map_toArray, List.map_cons, List.map_nil]); first | done | rfl | (simp only [List.length_drop, List.length_take]; rfl)) ?_; (with_reducible refine (tollgateref09_Host.calls kj14 (z7.extract 0 (x14_14 : Int).toNat) t227 true _ A23.out).mono ?_); rintro e w38 ⟨rfl, hb⟩; refine ⟨_, rfl, ?_⟩; have n0_ := Aside0.mk (IsS25.below (by repeat (first | (with_reducible first | exact HI1.out | apply IsS25.alloc | apply IsS25.drewN | apply IsS25.drew | apply IsS25.set_0 | apply IsS25.set_1 | apply IsS25.set_2 | apply IsS25.set_3) | exact HI1.out)) hb); have n1_ := Aside0.mk (KeepBut.trans (by repeat (first | (with_reducible first | exact HK.out | apply KeepBut.set_ | apply keep_drewN | apply keep_drew | apply keep_alloc) | exact HK.out)) (KeepBut.of_below hb g none) (.inl rfl)); have n2_ := Aside0.mk (below_step (by repeat (first | (with_reducible first | exact HB.out | apply below_alloc | apply pw_below_drewN | apply below_drew1 | refine below_set ?_ (IsS25.ge HI1.out)) | exact HB.out)) hb); clear HI1; clear HK; clear HB; have HI1 := n0_; have HK := n1_; have HB := n2_; clear n0_ n1_ n2_; (try clear hb); (try clear hb2); (try clear hk); (try clear hi); obtain ⟨ASz39_4, cSz39_4, HGz39, hgz39, HSz39_4⟩ := HI1.out; have hcz39_0 := cellS25_0 HGz39; have hcz39_1 := cellS25_1 HGz39; have hcz39_2 := cellS25_2 HGz39; have hcz39_3 := cellS25_3 HGz39; have hcz39_4 := cellS25_4 HGz39; have hfz39_0 := blk_frozen HGz39 0; have hfz39_1 := blk_frozen HGz39 1; have hfz39_2 := blk_frozen HGz39 2; have hfz39_3 := blk_frozen HGz39 3; clear HGz39 hgz39) | ((with_reducible refine gate_callee (f := 19) rfl ?_); refine goesL_ (some 97) rfl rfl Tryd.func19 (by kernel_rfl) rfl #[.string (z7.extract (x14_14 : Int).toNat z7.size)] rfl (by (try simp only [List.map_toArray, List.map_cons, List.map_nil]); first | done | rfl | (simp only [List.length_drop, List.length_take]; rfl)) ?_; (with_reducible refine (tollgateref09_Path.calls kj14 (z7.extract (x14_14 : Int).toNat z7.size) true _ A35.out).mono ?_); rintro e w' ⟨rfl, ⟨nd, rfl⟩⟩; refine ⟨_, rfl, ?_⟩) | (go_at_call 20; (with_reducible refine (tollgateref09_Query.calls kj14 t224 t232 _ A37.out).mono ?_); rintro e w' ⟨rfl, ⟨nd, rfl⟩⟩))
             go_ret
             exact ⟨by first | rfl | (simp [errW_none, errW_some] <;> rfl) | (simp [*, errW_none, errW_some] <;> rfl), by repeat (first | (with_reducible first | exact HI1.out | apply IsS25.alloc | apply IsS25.drewN | apply IsS25.drew | apply IsS25.set_0 | apply IsS25.set_1 | apply IsS25.set_2 | apply IsS25.set_3) | exact HI1.out), by repeat (first | (with_reducible first | exact HB.out | apply below_alloc | apply pw_below_drewN | apply below_drew1 | refine below_set ?_ (IsS25.ge HI1.out)) | exact HB.out), by repeat (first | (with_reducible first | exact HK.out | apply KeepBut.set_ | apply keep_drewN | apply keep_drew | apply keep_alloc) | exact HK.out)⟩
            ·replace c36 := Bool.eq_false_iff.mpr c36
             subst c36
             have H1 : (some (false, t216, z7.extract (x14_14 : Int).toNat z7.size, t224, t227)) = some (r1, r2, r3, r4, r5) := by rw [if_neg (show ¬ (false = true) by decide)] at H; exact H
             clear H
             have H := H1
             clear H1
             simp only [Option.some.injEq, Prod.mk.injEq] at H
             obtain ⟨rfl, rfl, rfl, rfl, rfl⟩ := H
             go_wp2_with (first | ((with_reducible refine gate_callee (f := 23) rfl ?_); refine goesL_ (some 74) rfl rfl Tryd.func23 (by kernel_rfl) rfl #[.string (z7.extract 0 (x14_14 : Int).toNat)] rfl (by (try simp only [List.map_toArray, List.map_cons, List.map_nil]); first | done | rfl | (simp only [List.length_drop, List.length_take]; rfl)) ?_; (with_reducible refine (tollgateref09_Host.calls kj14 (z7.extract 0 (x14_14 : Int).toNat) t227 true _ A23.out).mono ?_); rintro e w40 ⟨rfl, hb⟩; refine ⟨_, rfl, ?_⟩; have n0_ := Aside0.mk (IsS25.below (by repeat (first | (with_reducible first | exact HI1.out | apply IsS25.alloc | apply IsS25.drewN | apply IsS25.drew | apply IsS25.set_0 | apply IsS25.set_1 | apply IsS25.set_2 | apply IsS25.set_3) | exact HI1.out)) hb); have n1_ := Aside0.mk (KeepBut.trans (by repeat (first | (with_reducible first | exact HK.out | apply KeepBut.set_ | apply keep_drewN | apply keep_drew | apply keep_alloc) | exact HK.out)) (KeepBut.of_below hb g none) (.inl rfl)); have n2_ := Aside0.mk (below_step (by repeat (first | (with_reducible first | exact HB.out | apply below_alloc | apply pw_below_drewN | apply below_drew1 | refine below_set ?_ (IsS25.ge HI1.out)) | exact HB.out)) hb); clear HI1; clear HK; clear HB; have HI1 := n0_; have HK := n1_; have HB := n2_; clear n0_ n1_ n2_; (try clear hb); (try clear hb2); (try clear hk); (try clear hi); obtain ⟨ASz41_4, cSz41_4, HGz41, hgz41, HSz41_4⟩ := HI1.out; have hcz41_0 := cellS25_0 HGz41; have hcz41_1 := cellS25_1 HGz41; have hcz41_2 := cellS25_2 HGz41; have hcz41_3 := cellS25_3 HGz41; have hcz41_4 := cellS25_4 HGz41; have hfz41_0 := blk_frozen HGz41 0; have hfz41_1 := blk_frozen HGz41 1; have hfz41_2 := blk_frozen HGz41 2; have hfz41_3 := blk_frozen HGz41 3; clear HGz41 hgz41) | ((with_reducible refine gate_callee (f := 19) rfl ?_); refine goesL_ (some 97) rfl rfl Tryd.func19 (by kernel_rfl) rfl #[.string (z7.extract (x14_14 : Int).toNat z7.size)] rfl (by (try simp only [List.map_toArray, List.map_cons, List.map_nil]); first | done | rfl | (simp only [List.length_drop, List.length_take]; rfl)) ?_; (with_reducible refine (tollgateref09_Path.calls kj14 (z7.extract (x14_14 : Int).toNat z7.size) false _ A35.out).mono ?_); rintro e w' ⟨rfl, ⟨nd, rfl⟩⟩; refine ⟨_, rfl, ?_⟩))
             go_ret
             exact ⟨by first | rfl | (simp [errW_none, errW_some] <;> rfl) | (simp [*, errW_none, errW_some] <;> rfl), by repeat (first | (with_reducible first | exact HI1.out | apply IsS25.alloc | apply IsS25.drewN | apply IsS25.drew | apply IsS25.set_0 | apply IsS25.set_1 | apply IsS25.set_2 | apply IsS25.set_3) | exact HI1.out), by repeat (first | (with_reducible first | exact HB.out | apply below_alloc | apply pw_below_drewN | apply below_drew1 | refine below_set ?_ (IsS25.ge HI1.out)) | exact HB.out), by repeat (first | (with_reducible first | exact HK.out | apply KeepBut.set_ | apply keep_drewN | apply keep_drew | apply keep_alloc) | exact HK.out)⟩
          ·replace c24 := Bool.eq_false_iff.mpr c24
           subst c24
           have H1 : (some (false, t216, s1_1, s1_2, s1_3)) = some (r1, r2, r3, r4, r5) := by rw [if_neg (show ¬ (false = true) by decide)] at H; exact H
           clear H
           have H := H1
           clear H1
           simp only [Option.some.injEq, Prod.mk.injEq] at H
           obtain ⟨rfl, rfl, rfl, rfl, rfl⟩ := H
           go_wp2_with (first | ((with_reducible refine gate_callee (f := 23) rfl ?_); refine goesL_ (some 74) rfl rfl Tryd.func23 (by kernel_rfl) rfl #[.string (z7.extract 0 (x14_14 : Int).toNat)] rfl (by (try simp only [List.map_toArray, List.map_cons, List.map_nil]); first | done | rfl | (simp only [List.length_drop, List.length_take]; rfl)) ?_; (with_reducible refine (tollgateref09_Host.calls kj14 (z7.extract 0 (x14_14 : Int).toNat) t227 false _ A23.out).mono ?_); rintro e w42 ⟨rfl, hb⟩; refine ⟨_, rfl, ?_⟩; have n0_ := Aside0.mk (IsS25.below (by repeat (first | (with_reducible first | exact HI1.out | apply IsS25.alloc | apply IsS25.drewN | apply IsS25.drew | apply IsS25.set_0 | apply IsS25.set_1 | apply IsS25.set_2 | apply IsS25.set_3) | exact HI1.out)) hb); have n1_ := Aside0.mk (KeepBut.trans (by repeat (first | (with_reducible first | exact HK.out | apply KeepBut.set_ | apply keep_drewN | apply keep_drew | apply keep_alloc) | exact HK.out)) (KeepBut.of_below hb g none) (.inl rfl)); have n2_ := Aside0.mk (below_step (by repeat (first | (with_reducible first | exact HB.out | apply below_alloc | apply pw_below_drewN | apply below_drew1 | refine below_set ?_ (IsS25.ge HI1.out)) | exact HB.out)) hb); clear HI1; clear HK; clear HB; have HI1 := n0_; have HK := n1_; have HB := n2_; clear n0_ n1_ n2_; (try clear hb); (try clear hb2); (try clear hk); (try clear hi)))
           go_ret
           exact ⟨by first | rfl | (simp [errW_none, errW_some] <;> rfl) | (simp [*, errW_none, errW_some] <;> rfl), by repeat (first | (with_reducible first | exact HI1.out | apply IsS25.alloc | apply IsS25.drewN | apply IsS25.drew | apply IsS25.set_0 | apply IsS25.set_1 | apply IsS25.set_2 | apply IsS25.set_3) | exact HI1.out), by repeat (first | (with_reducible first | exact HB.out | apply below_alloc | apply pw_below_drewN | apply below_drew1 | refine below_set ?_ (IsS25.ge HI1.out)) | exact HB.out), by repeat (first | (with_reducible first | exact HK.out | apply KeepBut.set_ | apply keep_drewN | apply keep_drew | apply keep_alloc) | exact HK.out)⟩
         ·rw [if_neg c22] at H
          exact absurd H (by simp)
        ·rw [if_neg c21] at H
         exact absurd H (by simp)
     ·rw [if_neg c14] at H
      exact absurd H (by simp)
    ·replace c13 := Bool.eq_false_iff.mpr c13
     subst c13
     have H1 : ((tollgateref09_Path.f kj4 t223).bind fun t233 => (if t233 = true then ((tollgateref09_Query.f kj4 t224).bind fun t234 => (some (t234, t216, t223, t224, s1_3))) else (some (false, t216, t223, t224, s1_3)))) = some (r1, r2, r3, r4, r5) := by rw [if_neg (show ¬ (false = true) by decide)] at H; exact H
     clear H
     have H := H1
     clear H1
     replace H := Option.bind_eq_some_iff.mp H
     obtain ⟨t233, A430, H⟩ := H
     replace H : (if t233 = true then ((tollgateref09_Query.f kj4 t224).bind fun t234 => (some (t234, t216, t223, t224, s1_3))) else (some (false, t216, t223, t224, s1_3))) = some (r1, r2, r3, r4, r5) := H
     have A43 := Aside0.mk A430
     clear A430
     by_cases c44 : t233 = true
     ·subst c44
      have H1 : ((tollgateref09_Query.f kj4 t224).bind fun t234 => (some (t234, t216, t223, t224, s1_3))) = some (r1, r2, r3, r4, r5) := by rw [if_pos rfl] at H; exact H
      clear H
      have H := H1
      clear H1
      replace H := Option.bind_eq_some_iff.mp H
      obtain ⟨t234, A450, H⟩ := H
      replace H : (some (t234, t216, t223, t224, s1_3)) = some (r1, r2, r3, r4, r5) := H
      have A45 := Aside0.mk A450
      clear A450
      simp only [Option.some.injEq, Prod.mk.injEq] at H
      obtain ⟨rfl, rfl, rfl, rfl, rfl⟩ := H
      obtain ⟨ASz46_4, cSz46_4, HGz46, hgz46, HSz46_4⟩ := HI1.out
      have hcz46_0 := cellS25_0 HGz46
      have hcz46_1 := cellS25_1 HGz46
      have hcz46_2 := cellS25_2 HGz46
      have hcz46_3 := cellS25_3 HGz46
      have hcz46_4 := cellS25_4 HGz46
      have hfz46_0 := blk_frozen HGz46 0
      have hfz46_1 := blk_frozen HGz46 1
      have hfz46_2 := blk_frozen HGz46 2
      have hfz46_3 := blk_frozen HGz46 3
      clear HGz46 hgz46
      go_wp2_with (first | ((with_reducible refine gate_callee (f := 44) rfl ?_); refine goesL_ (some 50) rfl rfl Tryd.func44 (by kernel_rfl) rfl #[.string t219, .int .u8 63] rfl (by (try simp only [List.map_toArray, List.map_cons, List.map_nil]); first | done | rfl | (simp only [List.length_drop, List.length_take]; rfl)) ?_; (with_reducible refine (tollgateref09_cut.calls kj4 t219 63 t223 t224 t225 _ A11.out).mono ?_); rintro e w' ⟨rfl, ⟨nd, rfl⟩⟩; refine ⟨_, rfl, ?_⟩) | ((with_reducible refine gate_callee (f := 79) rfl ?_); refine goesL_ (some 55) rfl rfl Tryd.func79 (by kernel_rfl) rfl #[.string t223, .string (⟨#[104, 116, 116, 112, 58, 47, 47]⟩ : ByteArray)] rfl (by (try simp only [List.map_toArray, List.map_cons, List.map_nil]); first | done | rfl | (simp only [List.length_drop, List.length_take]; rfl)) ?_; (with_reducible refine (tollgateref09_begins.calls t223 (⟨#[104, 116, 116, 112, 58, 47, 47]⟩ : ByteArray) false _ A12.out).mono ?_); rintro e w' ⟨rfl, ⟨nd, rfl⟩⟩; refine ⟨_, rfl, ?_⟩) | ((with_reducible refine gate_callee (f := 19) rfl ?_); refine goesL_ (some 97) rfl rfl Tryd.func19 (by kernel_rfl) rfl #[.string t223] rfl (by (try simp only [List.map_toArray, List.map_cons, List.map_nil]); first | done | rfl | (simp only [List.length_drop, List.length_take]; rfl)) ?_; (with_reducible refine (tollgateref09_Path.calls kj4 t223 true _ A43.out).mono ?_); rintro e w' ⟨rfl, ⟨nd, rfl⟩⟩; refine ⟨_, rfl, ?_⟩) | (go_at_call 20; (with_reducible refine (tollgateref09_Query.calls kj4 t224 t234 _ A45.out).mono ?_); rintro e w' ⟨rfl, ⟨nd, rfl⟩⟩))
      go_ret
      exact ⟨by first | rfl | (simp [errW_none, errW_some] <;> rfl) | (simp [*, errW_none, errW_some] <;> rfl), by repeat (first | (with_reducible first | exact HI1.out | apply IsS25.alloc | apply IsS25.drewN | apply IsS25.drew | apply IsS25.set_0 | apply IsS25.set_1 | apply IsS25.set_2 | apply IsS25.set_3) | exact HI1.out), by repeat (first | (with_reducible first | exact HB.out | apply below_alloc | apply pw_below_drewN | apply below_drew1 | refine below_set ?_ (IsS25.ge HI1.out)) | exact HB.out), by repeat (first | (with_reducible first | exact HK.out | apply KeepBut.set_ | apply keep_drewN | apply keep_drew | apply keep_alloc) | exact HK.out)⟩
     ·replace c44 := Bool.eq_false_iff.mpr c44
      subst c44
      have H1 : (some (false, t216, t223, t224, s1_3)) = some (r1, r2, r3, r4, r5) := by rw [if_neg (show ¬ (false = true) by decide)] at H; exact H
      clear H
      have H := H1
      clear H1
      simp only [Option.some.injEq, Prod.mk.injEq] at H
      obtain ⟨rfl, rfl, rfl, rfl, rfl⟩ := H
      obtain ⟨ASz47_4, cSz47_4, HGz47, hgz47, HSz47_4⟩ := HI1.out
      have hcz47_0 := cellS25_0 HGz47
      have hcz47_1 := cellS25_1 HGz47
      have hcz47_2 := cellS25_2 HGz47
      have hcz47_3 := cellS25_3 HGz47
      have hcz47_4 := cellS25_4 HGz47
      have hfz47_0 := blk_frozen HGz47 0
      have hfz47_1 := blk_frozen HGz47 1
      have hfz47_2 := blk_frozen HGz47 2
      have hfz47_3 := blk_frozen HGz47 3
      clear HGz47 hgz47
      go_wp2_with (first | ((with_reducible refine gate_callee (f := 44) rfl ?_); refine goesL_ (some 50) rfl rfl Tryd.func44 (by kernel_rfl) rfl #[.string t219, .int .u8 63] rfl (by (try simp only [List.map_toArray, List.map_cons, List.map_nil]); first | done | rfl | (simp only [List.length_drop, List.length_take]; rfl)) ?_; (with_reducible refine (tollgateref09_cut.calls kj4 t219 63 t223 t224 t225 _ A11.out).mono ?_); rintro e w' ⟨rfl, ⟨nd, rfl⟩⟩; refine ⟨_, rfl, ?_⟩) | ((with_reducible refine gate_callee (f := 79) rfl ?_); refine goesL_ (some 55) rfl rfl Tryd.func79 (by kernel_rfl) rfl #[.string t223, .string (⟨#[104, 116, 116, 112, 58, 47, 47]⟩ : ByteArray)] rfl (by (try simp only [List.map_toArray, List.map_cons, List.map_nil]); first | done | rfl | (simp only [List.length_drop, List.length_take]; rfl)) ?_; (with_reducible refine (tollgateref09_begins.calls t223 (⟨#[104, 116, 116, 112, 58, 47, 47]⟩ : ByteArray) false _ A12.out).mono ?_); rintro e w' ⟨rfl, ⟨nd, rfl⟩⟩; refine ⟨_, rfl, ?_⟩) | ((with_reducible refine gate_callee (f := 19) rfl ?_); refine goesL_ (some 97) rfl rfl Tryd.func19 (by kernel_rfl) rfl #[.string t223] rfl (by (try simp only [List.map_toArray, List.map_cons, List.map_nil]); first | done | rfl | (simp only [List.length_drop, List.length_take]; rfl)) ?_; (with_reducible refine (tollgateref09_Path.calls kj4 t223 false _ A43.out).mono ?_); rintro e w' ⟨rfl, ⟨nd, rfl⟩⟩; refine ⟨_, rfl, ?_⟩))
      go_ret
      exact ⟨by first | rfl | (simp [errW_none, errW_some] <;> rfl) | (simp [*, errW_none, errW_some] <;> rfl), by repeat (first | (with_reducible first | exact HI1.out | apply IsS25.alloc | apply IsS25.drewN | apply IsS25.drew | apply IsS25.set_0 | apply IsS25.set_1 | apply IsS25.set_2 | apply IsS25.set_3) | exact HI1.out), by repeat (first | (with_reducible first | exact HB.out | apply below_alloc | apply pw_below_drewN | apply below_drew1 | refine below_set ?_ (IsS25.ge HI1.out)) | exact HB.out), by repeat (first | (with_reducible first | exact HK.out | apply KeepBut.set_ | apply keep_drewN | apply keep_drew | apply keep_alloc) | exact HK.out)⟩
/-! first, of a head that is empty -/
def ref_first.f (k : Nat) (a0 : ByteArray) : Option (Bool × ByteArray × ByteArray × ByteArray × ByteArray) := tollgateref09_first.f k a0 (⟨#[]⟩ : ByteArray) (⟨#[]⟩ : ByteArray) (⟨#[]⟩ : ByteArray) (⟨#[]⟩ : ByteArray) []
theorem ref_first.mono : ∀ a0 k, LeO (ref_first.f k a0) (ref_first.f (k + 1) a0) := fun a0 k => tollgateref09_first.mono a0 _ _ _ _ _ k
theorem blk_keepB {W W' : World} {g h : Nat} {o : Obj} (hw : W.heap[g]? = some o) (hk : KeepBut W W' h none) (hne : g ≠ h) : W'.heap[g]? = some o :=
 (hk.2 g (Array.getElem?_eq_some_iff.1 hw).1 hne (by simp)).trans hw
theorem ref_first.box (k : Nat) (a0 : ByteArray) (g : Nat) (r1 : Bool) (r2 r3 r4 r5 : ByteArray) (w0 w : World) (hg : w.heap[g]? = some (.cells #[.string (⟨#[]⟩ : ByteArray), .string (⟨#[]⟩ : ByteArray), .string (⟨#[]⟩ : ByteArray), .string (⟨#[]⟩ : ByteArray), .slice none 0 0] 25 (0, 0)))
  (hge : w0.heap.size ≤ g) (hB : Below w0.heap.size w0 w) (h : ref_first.f k a0 = some (r1, r2, r3, r4, r5)) :
  Calls Tryd.prog 43 #[.string a0, .pointer (some ⟨g, 0, none⟩)] w fun e w' => e = .returned (.bool r1) ∧ w'.heap[g]? = some (.cells #[.string r2, .string r3, .string r4, .string r5, .slice none 0 0] 25 (0, 0)) ∧ Below w0.heap.size w0 w' ∧ KeepBut w w' g none := by
 refine (tollgateref09_first.calls k a0 g _ _ _ _ [] r1 r2 r3 r4 r5 w0 w ⟨none, 0, hg, hge, Kd.C_nil _ _, fun _ => ⟨rfl, rfl⟩⟩ hB h).mono ?_
 rintro e w' ⟨he, ⟨A4, c4, hw', _, _, hn⟩, hb, hk⟩
 obtain ⟨rfl, rfl⟩ := hn rfl
 exact ⟨he, hw', hb, hk⟩

end Go.Proofs.YtabkdmfnafeaeaaDoor.R
