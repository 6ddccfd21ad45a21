-- Laid by lay.py, a program of this session's, out of the translation (the kit's printer with additions of ours). Lean checks it.
import Derived.Test.YtabkdmfnafeaeaaDoorRx0
import Derived.Test.YtabkdmfnafeaeaaDoorRx5
import Derived.Test.YtabkdmfnafeaeaaDoorRx6
namespace Go.Proofs.YtabkdmfnafeaeaaDoor.R
open Go.RowKit Go.Proofs.YtabkdmfnafeaeaaDoorW.PrintWords Go.Proofs.YtabkdmfnafeaeaaDoorW.PrintLast Go.Proofs.YtabkdmfnafeaeaaDoorW.PrintMore
attribute [local go_sem] max2_int min2_int max_two min_two max_three min_three max_four min_four   -- for this text's walks alone
attribute [local go_sem] fbin_eql fbin_neq fbin_lss fbin_leq fbin_gtr fbin_geq frun_add frun_sub frun_mul frun_quo frun_store fun_neg fcv_int fcv_same fb92 fb116
set_option linter.unusedVariables false
set_option linter.unusedSimpArgs false

/-! ### head_Host: function 18 -/
def digB (b : UInt8) : Bool := decide (48 ≤ b.toNat ∧ b.toNat ≤ 57)
theorem dig_at {s : ByteArray} (h : s.data.toList.all digB = true) (i : Nat) (hi : i < s.size) : 48 ≤ (s[i]'hi).toNat ∧ (s[i]'hi).toNat ≤ 57 := by
 have hm : s[i]'hi ∈ s.data.toList := by
  have : s[i]'hi = s.data[i]'hi := rfl
  rw [this, Array.mem_toList_iff]
  exact Array.getElem_mem _
 have := List.all_eq_true.1 h _ hm
 simpa [digB] using this
theorem dig_all {s : ByteArray} (h : ∀ (i : Nat) (hi : i < s.size), 48 ≤ (s[i]'hi).toNat ∧ (s[i]'hi).toNat ≤ 57) : s.data.toList.all digB = true := by
 rw [List.all_eq_true]
 intro x hx
 rw [Array.mem_toList_iff] at hx
 obtain ⟨i, hi, rfl⟩ := Array.mem_iff_getElem.1 hx
 have := h i hi
 have h2 : s[i]'hi = s.data[i]'hi := rfl
 rw [h2] at this
 simp [digB, this]
mutual
def head_HostX.j0 : Nat → ByteArray → Bool → Option (ByteArray × Bool)
 | 0, _, _ => none
 | k + 1, x4, x36 => if x36 = true then (some ((⟨#[]⟩ : ByteArray), false)) else ((strings_Split.f x4 (⟨#[46]⟩ : ByteArray)).bind fun t106 => (head_HostX.l0 k x4 t106 (t106.length : Int) 0))
def head_HostX.l0 : Nat → ByteArray → List ByteArray → Int → Int → Option (ByteArray × Bool)
 | 0, _, _, _, _ => none
 | k + 1, x4, x38, x39, x40 => if x40 < x39 then (if 0 ≤ x40 then (if x40 < (x38.length : Int) then (head_HostX.l1 k x4 (rdOf ByteArray.empty x38 x40) x38 x39 x40 ((rdOf ByteArray.empty x38 x40).size : Int) 0) else (none)) else (none)) else ((head_lower.f x4).bind fun t109 => (some (t109, true)))
def head_HostX.l1 : Nat → ByteArray → ByteArray → List ByteArray → Int → Int → Int → Int → Option (ByteArray × Bool)
 | 0, _, _, _, _, _, _, _ => none
 | k + 1, x4, x10, x38, x39, x40, x45, x46 => if x46 < x45 then (if 0 ≤ x46 then (if x46 < (x10.size : Int) then ((head_alnum.f (bt x10 x46)).bind fun t111 => (if t111 = true then (head_HostX.l1 k x4 x10 x38 x39 x40 x45 (wrap64 (x46 + 1))) else (if (bt x10 x46) = 45 then (head_HostX.l1 k x4 x10 x38 x39 x40 x45 (wrap64 (x46 + 1))) else (some ((⟨#[]⟩ : ByteArray), false))))) else (none)) else (none)) else (if x10.toList = ([] : List UInt8) then (some ((⟨#[]⟩ : ByteArray), false)) else (head_HostX.l0 k x4 x38 x39 (wrap64 (x40 + 1))))
end
def head_HostX.f (k : Nat) (a0 : ByteArray) : Option (ByteArray × Bool) := (strings_Cut.f a0 (⟨#[58]⟩ : ByteArray)).bind fun bt103 => (if (bt103.2.1.size : Int) > 5 then (head_HostX.j0 k bt103.1 true) else (head_HostX.j0 k bt103.1 (decide ((bt103.1.size : Int) > 64))))
theorem head_HostX.mono_l : ∀ k, (∀ y0 y1, LeO (head_HostX.j0 k y0 y1) (head_HostX.j0 (k + 1) y0 y1)) ∧ (∀ y0 y1 y2 y3, LeO (head_HostX.l0 k y0 y1 y2 y3) (head_HostX.l0 (k + 1) y0 y1 y2 y3)) ∧ (∀ y0 y1 y2 y3 y4 y5 y6, LeO (head_HostX.l1 k y0 y1 y2 y3 y4 y5 y6) (head_HostX.l1 (k + 1) y0 y1 y2 y3 y4 y5 y6))
 | 0 => ⟨fun _ _ r h => by simp [head_HostX.j0] at h, fun _ _ _ _ r h => by simp [head_HostX.l0] at h, fun _ _ _ _ _ _ _ r h => by simp [head_HostX.l1] at h⟩
 | k + 1 => by
  obtain ⟨ih0, ih1, ih2⟩ := head_HostX.mono_l k
  refine ⟨?_, ?_, ?_⟩
  ·intro y0 y1
   unfold head_HostX.j0
   repeat' first
   | (with_reducible exact ih0 _ _)
   | (with_reducible exact ih1 _ _ _ _)
   | (with_reducible exact ih2 _ _ _ _ _ _ _)
   | (with_reducible exact LeO.refl _)
   | (with_reducible exact LeO.none _)
   | (with_reducible refine LeO.ite ?_ ?_)
   | (with_reducible refine LeO.bind ?_ (fun _ => ?_))
   | exact ih0 _ _
   | exact ih1 _ _ _ _
   | exact ih2 _ _ _ _ _ _ _
   | exact LeO.none _
   | refine LeO.ite ?_ ?_
   | refine LeO.bind ?_ (fun _ => ?_)
  ·intro y0 y1 y2 y3
   unfold head_HostX.l0
   repeat' first
   | (with_reducible exact ih0 _ _)
   | (with_reducible exact ih1 _ _ _ _)
   | (with_reducible exact ih2 _ _ _ _ _ _ _)
   | (with_reducible exact LeO.refl _)
   | (with_reducible exact LeO.none _)
   | (with_reducible refine LeO.ite ?_ ?_)
   | (with_reducible refine LeO.bind ?_ (fun _ => ?_))
   | exact ih0 _ _
   | exact ih1 _ _ _ _
   | exact ih2 _ _ _ _ _ _ _
   | exact LeO.none _
   | refine LeO.ite ?_ ?_
   | refine LeO.bind ?_ (fun _ => ?_)
  ·intro y0 y1 y2 y3 y4 y5 y6
   unfold head_HostX.l1
   repeat' first
   | (with_reducible exact ih0 _ _)
   | (with_reducible exact ih1 _ _ _ _)
   | (with_reducible exact ih2 _ _ _ _ _ _ _)
   | (with_reducible exact LeO.refl _)
   | (with_reducible exact LeO.none _)
   | (with_reducible refine LeO.ite ?_ ?_)
   | (with_reducible refine LeO.bind ?_ (fun _ => ?_))
   | exact ih0 _ _
   | exact ih1 _ _ _ _
   | exact ih2 _ _ _ _ _ _ _
   | exact LeO.none _
   | refine LeO.ite ?_ ?_
   | refine LeO.bind ?_ (fun _ => ?_)
theorem head_HostX.mono : ∀ a0 k, LeO (head_HostX.f k a0) (head_HostX.f (k + 1) a0) := by
 intro a0 k
 obtain ⟨ih0, ih1, ih2⟩ := head_HostX.mono_l k
 unfold head_HostX.f
 repeat' first
   | (with_reducible exact ih0 _ _)
   | (with_reducible exact ih1 _ _ _ _)
   | (with_reducible exact ih2 _ _ _ _ _ _ _)
   | (with_reducible exact LeO.refl _)
   | (with_reducible exact LeO.none _)
   | (with_reducible refine LeO.ite ?_ ?_)
   | (with_reducible refine LeO.bind ?_ (fun _ => ?_))
   | exact ih0 _ _
   | exact ih1 _ _ _ _
   | exact ih2 _ _ _ _ _ _ _
   | exact LeO.none _
   | refine LeO.ite ?_ ?_
   | refine LeO.bind ?_ (fun _ => ?_)
set_option maxHeartbeats 8000000 in
set_option maxRecDepth 100000 in
theorem head_HostX.calls (k : Nat) (a0 : ByteArray) (r1 : ByteArray) (r2 : Bool) (w : World) (hml : ML w) (hD : ∀ (r1' r2' : ByteArray) (r3' : Bool), strings_Cut.f a0 (⟨#[58]⟩ : ByteArray) = some (r1', r2', r3') → r2'.data.toList.all digB = true) (h : head_HostX.f k a0 = some (r1, r2)) :
  Calls Tryd.prog 18 #[.string a0] w fun e w' => e = .returned (.tuple #[.string r1, .bool r2]) ∧ Below w.heap.size w w' := by
 have HML := Aside0.mk hml
 clear hml
 have HB := Aside0.mk (Below.refl w.heap.size w)
 have H : ((strings_Cut.f a0 (⟨#[58]⟩ : ByteArray)).bind fun bt103 => (if (bt103.2.1.size : Int) > 5 then (head_HostX.j0 k bt103.1 true) else (head_HostX.j0 k bt103.1 (decide ((bt103.1.size : Int) > 64))))) = some (r1, r2) := h
 clear h
 replace H := Option.bind_eq_some_iff.mp H
 obtain ⟨⟨t103, t104, t105⟩, A20, H⟩ := H
 replace H : (if (t104.size : Int) > 5 then (head_HostX.j0 k t103 true) else (head_HostX.j0 k t103 (decide ((t103.size : Int) > 64)))) = some (r1, r2) := H
 have A2 := Aside0.mk A20
 clear A20
 have HC3 := Aside0.mk H
 clear H
 go_enter Tryd.func18, Tryd.ntmps18
 go_wp2_with (first | ((with_reducible refine gate_callee (f := 36) rfl ?_); refine goesL_ (some 14) rfl rfl Tryd.func36 (by kernel_rfl) rfl #[.string a0, .string (⟨#[58]⟩ : ByteArray)] rfl (by (try simp only [List.map_toArray, List.map_cons, List.map_nil]); first | done | rfl | (simp only [List.length_drop, List.length_take]; rfl)) ?_; (with_reducible refine (strings_Cut.calls a0 (⟨#[58]⟩ : ByteArray) t103 t104 t105 _ ?side1 A2.out).mono ?_); (case side1 => exact ML.keep HML.out (by repeat (first | (with_reducible first | exact HB.out | apply below_alloc | apply pw_below_drewN | apply below_drew1) | exact HB.out))); rintro e w' ⟨rfl, ⟨nd, rfl⟩⟩; refine ⟨_, rfl, ?_⟩))
 have HD := Aside0.mk (hD _ _ _ A2.out)
 clear hD
 obtain ⟨wd, hwd⟩ : ∃ wd, w.drewN nd = wd := ⟨_, rfl⟩
 have hbd : Below w.heap.size w wd := hwd ▸ pw_below_drewN (Below.refl _ _) nd
 have hsz : wd.heap.size = w.heap.size := by rw [← hwd]; rfl
 rw [hwd]
 clear hwd
 have HBD := Aside0.mk hbd
 clear hbd HB
 go_loopw [8] (fun v8 wr => ∃ pos : Nat, wr = wd.iter t104 pos ∧ Aside0 (pos ≤ t104.size)) (fun _ w' => t104.size - w'.iterPos wd.heap.size)
 case atStart => exact ⟨0, rfl, ⟨Nat.zero_le _⟩⟩
 obtain ⟨pos, rfl, HP⟩ := hrel
 by_cases hp : pos < t104.size
 ·have hdig := dig_at HD.out pos hp
  have hnx : ∀ ty, (Instr.next (.pointer (some ⟨w.heap.size, 0, none⟩)) true ty).run Tryd.prog (wd.iter t104 pos) = .ok (.tuple #[.bool true, .int .i64 pos, .int .i32 (t104[pos]'hp).toNat]) (wd.iter t104 (pos + 1)) := fun ty => by rw [← hsz]; exact run_next_ascii wd t104 pos ty hp (by omega)
  generalize hx : (((t104[pos]'hp).toNat : Nat) : Int) = x at hnx
  have hx1 : 48 ≤ x := by omega
  have hx2 : x ≤ 57 := by omega
  clear hx hdig
  go_wp2
  go_roundw
  case rel => exact ⟨pos + 1, rfl, ⟨by omega⟩⟩
  case measure =>
   simp
   omega
 have hnx : ∀ ty, (Instr.next (.pointer (some ⟨w.heap.size, 0, none⟩)) true ty).run Tryd.prog (wd.iter t104 pos) = .ok (.tuple #[.bool false]) (wd.iter t104 pos) := fun ty => by rw [← hsz]; exact run_next_end wd t104 pos ty hp
 have HB := Aside0.mk (show Below w.heap.size w (wd.iter t104 pos) from below_alloc HBD.out _)
 clear HBD HD HP
 generalize wd.iter t104 pos = wi at hnx HB ⊢
 go_upto_region 7 with (first | ((with_reducible refine gate_callee (f := 36) rfl ?_); refine goesL_ (some 14) rfl rfl Tryd.func36 (by kernel_rfl) rfl #[.string a0, .string (⟨#[58]⟩ : ByteArray)] rfl (by (try simp only [List.map_toArray, List.map_cons, List.map_nil]); first | done | rfl | (simp only [List.length_drop, List.length_take]; rfl)) ?_; (with_reducible refine (strings_Cut.calls a0 (⟨#[58]⟩ : ByteArray) t103 t104 t105 _ ?side1 A2.out).mono ?_); (case side1 => exact ML.keep HML.out (by repeat (first | (with_reducible first | exact HB.out | apply below_alloc | apply pw_below_drewN | apply below_drew1) | exact HB.out))); rintro e w' ⟨rfl, ⟨nd, rfl⟩⟩; refine ⟨_, rfl, ?_⟩))
 (try simp only [Act.put, List.setIfInBounds_toArray, List.set_cons_zero, List.set_cons_succ])
 go_cut [36] (fun v36 wc => ∃ (kq : Nat) (x36_2 : Bool), v36 = .bool x36_2 ∧ Aside0 (head_HostX.j0 kq t103 x36_2 = some (r1, r2)) ∧ Aside0 (kq ≤ k) ∧ Aside0 (Below w.heap.size w wc))
 case first =>
  have H := HC3.out
  clear HC3
  by_cases c4 : (t104.size : Int) > 5
  ·rw [if_pos c4] at H
   have c4b0 : decide (5 < (t104.size : Int)) = true := decide_eq_true c4
   have c4b1 : decide (5 < t104.size) = true := decide_eq_true (by omega)
   clear c4
   (first | rw [c4b0] | (simp only [i64_w, i32_w]; rw [c4b0]) | skip)
   have H' := Aside0.mk H
   clear H
   go_wp2
   go_meet
   case rel => exact ⟨_, (true), (by first | rfl | (simp; done) | (simp [*]; done)), H', ⟨by first | omega | exact Nat.le_refl _⟩, ⟨by repeat (first | (with_reducible first | exact HB.out | apply below_alloc | apply pw_below_drewN | apply below_drew1) | exact HB.out)⟩⟩
  ·rw [if_neg c4] at H
   have c4b0 : decide (5 < (t104.size : Int)) = false := decide_eq_false c4
   have c4b1 : decide (5 < t104.size) = false := decide_eq_false (by omega)
   clear c4
   (first | rw [c4b0] | (simp only [i64_w, i32_w]; rw [c4b0]) | skip)
   have H' := Aside0.mk H
   clear H
   go_wp2
   go_meet
   case rel => exact ⟨_, (decide ((t103.size : Int) > 64)), (by first | rfl | (simp; done) | (simp [*]; done)), H', ⟨by first | omega | exact Nat.le_refl _⟩, ⟨by repeat (first | (with_reducible first | exact HB.out | apply below_alloc | apply pw_below_drewN | apply below_drew1) | exact HB.out)⟩⟩
 case rest =>
  clear HC3
  obtain ⟨kq, x36_2, rfl, HA, HJ2, HB⟩ := hcut
  cases kq with
  | zero => exact absurd HA.out (by simp [head_HostX.j0])
  | succ kj2 =>
   have H := HA.out
   clear HA
   simp only [head_HostX.j0] at H
   by_cases c5 : x36_2 = true
   ·subst c5
    have H1 : (some ((⟨#[]⟩ : ByteArray), false)) = some (r1, r2) := by rw [if_pos rfl] at H; exact H
    clear H
    have H := H1
    clear H1
    simp only [Option.some.injEq, Prod.mk.injEq] at H
    obtain ⟨rfl, rfl⟩ := H
    go_wp2
    go_ret2
    exact ⟨by first | rfl | (simp [errW_none, errW_some] <;> rfl) | (simp [*, errW_none, errW_some] <;> rfl), by repeat (first | (with_reducible first | exact HB.out | apply below_alloc | apply pw_below_drewN | apply below_drew1) | exact HB.out)⟩
   ·replace c5 := Bool.eq_false_iff.mpr c5
    subst c5
    have H1 : ((strings_Split.f t103 (⟨#[46]⟩ : ByteArray)).bind fun t106 => (head_HostX.l0 kj2 t103 t106 (t106.length : Int) 0)) = some (r1, r2) := by rw [if_neg (show ¬ (false = true) by decide)] at H; exact H
    clear H
    have H := H1
    clear H1
    replace H := Option.bind_eq_some_iff.mp H
    obtain ⟨t106, A60, H⟩ := H
    replace H : (head_HostX.l0 kj2 t103 t106 (t106.length : Int) 0) = some (r1, r2) := H
    have A6 := Aside0.mk A60
    clear A60
    have H' := Aside0.mk H
    clear H
    go_wp2_with (first | ((with_reducible refine gate_callee (f := 35) rfl ?_); refine goesL_ (some 38) rfl rfl Tryd.func35 (by kernel_rfl) rfl #[.string t103, .string (⟨#[46]⟩ : ByteArray)] rfl (by (try simp only [List.map_toArray, List.map_cons, List.map_nil]); first | done | rfl | (simp only [List.length_drop, List.length_take]; rfl)) ?_; (with_reducible refine (strings_Split.calls t103 (⟨#[46]⟩ : ByteArray) t106 _ ?side1 A6.out).mono ?_); (case side1 => exact ML.keep HML.out (by repeat (first | (with_reducible first | exact HB.out | apply below_alloc | apply pw_below_drewN | apply below_drew1) | exact HB.out))); rintro e w7 ⟨v107, rfl, ho0, hb⟩; refine ⟨_, rfl, ?_⟩; have n0_ := Aside0.mk (Kd.R_lower ho0 (below_size (by repeat (first | (with_reducible first | exact HB.out | apply below_alloc | apply pw_below_drewN | apply below_drew1) | exact HB.out)))); have n1_ := Aside0.mk (below_step (by repeat (first | (with_reducible first | exact HB.out | apply below_alloc | apply pw_below_drewN | apply below_drew1) | exact HB.out)) hb); clear HB; have HO108 := n0_; have HB := n1_; clear n0_ n1_; (try clear hb); (try clear hb2); (try clear hk); (try clear hi); (try clear ho0); obtain ⟨Ao8, co8, eo8⟩ := Kd.R_slice HO108.out; subst eo8))
    go_loopg [40] kj2 (fun kq v40 w' => ∃ (x40_2 : Int), v40 = .int .i64 x40_2 ∧ Aside0 (head_HostX.l0 kq t103 t106 (t106.length : Int) x40_2 = some (r1, r2)) ∧ Aside0 (kq ≤ kj2) ∧ Aside0 (Kd.R Kd.string 9 w' w.heap.size (fun _ => True) (.slice Ao8 t106.length co8) t106) ∧ Aside0 (Below w.heap.size w w'))
    case atStart => exact ⟨(0), (by first | rfl | (simp; done) | (simp [*]; done)), H', ⟨Nat.le_refl _⟩, ⟨by (with_reducible repeat (first | apply Kd.R_alloc | apply Kd.R_drewN | apply Kd.R_drew)); exact HO108.out⟩, ⟨by repeat (first | (with_reducible first | exact HB.out | apply below_alloc | apply pw_below_drewN | apply below_drew1) | exact HB.out)⟩⟩
    case round =>
     clear H'
     try clear c5
     obtain ⟨x40_2, rfl, HA, HK2, HO_38, HB⟩ := hrel
     cases gk with
     | zero => exact absurd HA.out (by simp [head_HostX.l0])
     | succ k2 =>
      have H := HA.out
      clear HA
      simp only [head_HostX.l0] at H
      by_cases c9 : x40_2 < (t106.length : Int)
      ·rw [if_pos c9] at H
       have c9b0 : decide (x40_2 < (t106.length : Int)) = true := decide_eq_true c9
       clear c9
       by_cases c10 : 0 ≤ x40_2
       ·rw [if_pos c10] at H
        have c10b0 : decide (0 ≤ x40_2) = true := decide_eq_true c10
        clear c10
        by_cases c11 : x40_2 < (t106.length : Int)
        ·rw [if_pos c11] at H
         have c11b0 : decide (x40_2 < (t106.length : Int)) = true := decide_eq_true c11
         clear c11
         have H' := Aside0.mk H
         clear H
         have p110 : 0 ≤ (x40_2 : Int) := of_decide_eq_true (by first | (with_reducible assumption) | assumption)
         have q110 : x40_2 < (t106.length : Int) := of_decide_eq_true (by first | (with_reducible assumption) | assumption)
         obtain ⟨ad110, e110, hx110_0⟩ := Kd.at_string (Kd.R_reads' HO_38.out).2.2 x40_2 p110 q110
         cases e110
         replace p110 := eq_true p110
         replace q110 := eq_true q110
         go_wp2
         go_loopg [46] k2 (fun kq v46 w' => ∃ (x46_3 : Int), v46 = .int .i64 x46_3 ∧ Aside0 (head_HostX.l1 kq t103 (rdOf ByteArray.empty t106 x40_2) t106 (t106.length : Int) x40_2 ((rdOf ByteArray.empty t106 x40_2).size : Int) x46_3 = some (r1, r2)) ∧ Aside0 (kq ≤ k2) ∧ Aside0 (Kd.R Kd.string 9 w' w.heap.size (fun _ => True) (.slice (some ad110) t106.length co8) t106) ∧ Aside0 (Below w.heap.size w w'))
         case atStart => exact ⟨(0), (by first | rfl | (simp; done) | (simp [*]; done)), H', ⟨Nat.le_refl _⟩, ⟨by (with_reducible repeat (first | apply Kd.R_alloc | apply Kd.R_drewN | apply Kd.R_drew)); exact HO_38.out⟩, ⟨by repeat (first | (with_reducible first | exact HB.out | apply below_alloc | apply pw_below_drewN | apply below_drew1) | exact HB.out)⟩⟩
         case round =>
          clear H'
          try clear c5
          try clear c9
          try clear c9b0
          try clear c10
          try clear c10b0
          try clear c11
          try clear c11b0
          try clear hx110_0
          try clear p110
          try clear q110
          obtain ⟨x46_3, rfl, HA, HK3, HO_38, HB⟩ := hrel
          cases gk with
          | zero => exact absurd HA.out (by simp [head_HostX.l1])
          | succ k3 =>
           have H := HA.out
           clear HA
           simp only [head_HostX.l1] at H
           by_cases c12 : x46_3 < ((rdOf ByteArray.empty t106 x40_2).size : Int)
           ·rw [if_pos c12] at H
            have c12b0 : decide (x46_3 < ((rdOf ByteArray.empty t106 x40_2).size : Int)) = true := decide_eq_true c12
            clear c12
            by_cases c13 : 0 ≤ x46_3
            ·rw [if_pos c13] at H
             have c13b0 : decide (0 ≤ x46_3) = true := decide_eq_true c13
             clear c13
             by_cases c14 : x46_3 < ((rdOf ByteArray.empty t106 x40_2).size : Int)
             ·rw [if_pos c14] at H
              have c14b0 : decide (x46_3 < ((rdOf ByteArray.empty t106 x40_2).size : Int)) = true := decide_eq_true c14
              clear c14
              replace H := Option.bind_eq_some_iff.mp H
              obtain ⟨t111, A160, H⟩ := H
              replace H : (if t111 = true then (head_HostX.l1 k3 t103 (rdOf ByteArray.empty t106 x40_2) t106 (t106.length : Int) x40_2 ((rdOf ByteArray.empty t106 x40_2).size : Int) (wrap64 (x46_3 + 1))) else (if (bt (rdOf ByteArray.empty t106 x40_2) x46_3) = 45 then (head_HostX.l1 k3 t103 (rdOf ByteArray.empty t106 x40_2) t106 (t106.length : Int) x40_2 ((rdOf ByteArray.empty t106 x40_2).size : Int) (wrap64 (x46_3 + 1))) else (some ((⟨#[]⟩ : ByteArray), false)))) = some (r1, r2) := H
              have A16 := Aside0.mk A160
              clear A160
              by_cases c17 : t111 = true
              ·subst c17
               have H1 : (head_HostX.l1 k3 t103 (rdOf ByteArray.empty t106 x40_2) t106 (t106.length : Int) x40_2 ((rdOf ByteArray.empty t106 x40_2).size : Int) (wrap64 (x46_3 + 1))) = some (r1, r2) := by rw [if_pos rfl] at H; exact H
               clear H
               have H := H1
               clear H1
               have H' := Aside0.mk H
               clear H
               have p15 : 0 ≤ (x46_3 : Int) := of_decide_eq_true (by first | (with_reducible assumption) | assumption)
               have q15 : x46_3 < ((rdOf ByteArray.empty t106 x40_2).size : Int) := of_decide_eq_true (by first | (with_reducible assumption) | assumption)
               have hx15 := bt_at (rdOf ByteArray.empty t106 x40_2) x46_3
               replace p15 := eq_true p15
               replace q15 := eq_true q15
               go_wp2_with (first | ((with_reducible refine gate_callee (f := 49) rfl ?_); refine goesL_ (some 52) rfl rfl Tryd.func49 (by kernel_rfl) rfl #[.int .u8 (bt (rdOf ByteArray.empty t106 x40_2) x46_3)] rfl (by (try simp only [List.map_toArray, List.map_cons, List.map_nil]); first | done | rfl | (simp only [List.length_drop, List.length_take]; rfl)) ?_; (with_reducible refine (head_alnum.calls (bt (rdOf ByteArray.empty t106 x40_2) x46_3) true _ A16.out).mono ?_); rintro e w' ⟨rfl, ⟨nd, rfl⟩⟩; refine ⟨_, rfl, ?_⟩))
               go_roundg k3
               case measure => have := HJ2.out; have := HK2.out; have := HK3.out; omega
               case rel => exact ⟨(wrap64 (x46_3 + 1)), (by first | rfl | (simp; done) | (simp [*]; done)), H', ⟨by have := HJ2.out; have := HK2.out; have := HK3.out; omega⟩, ⟨by (with_reducible repeat (first | apply Kd.R_alloc | apply Kd.R_drewN | apply Kd.R_drew)); exact HO_38.out⟩, ⟨by repeat (first | (with_reducible first | exact HB.out | apply below_alloc | apply pw_below_drewN | apply below_drew1) | exact HB.out)⟩⟩
              ·replace c17 := Bool.eq_false_iff.mpr c17
               subst c17
               have H1 : (if (bt (rdOf ByteArray.empty t106 x40_2) x46_3) = 45 then (head_HostX.l1 k3 t103 (rdOf ByteArray.empty t106 x40_2) t106 (t106.length : Int) x40_2 ((rdOf ByteArray.empty t106 x40_2).size : Int) (wrap64 (x46_3 + 1))) else (some ((⟨#[]⟩ : ByteArray), false))) = some (r1, r2) := by rw [if_neg (show ¬ (false = true) by decide)] at H; exact H
               clear H
               have H := H1
               clear H1
               by_cases c19 : (bt (rdOf ByteArray.empty t106 x40_2) x46_3) = 45
               ·rw [if_pos c19] at H
                have c19b0 : ((bt (rdOf ByteArray.empty t106 x40_2) x46_3) == 45) = true := beq_iff_eq.mpr c19
                have c19b1 : ((bt (rdOf ByteArray.empty t106 x40_2) x46_3) != 45) = false := bne_eq_false_iff_eq.mpr c19
                clear c19
                have H' := Aside0.mk H
                clear H
                have p15 : 0 ≤ (x46_3 : Int) := of_decide_eq_true (by first | (with_reducible assumption) | assumption)
                have q15 : x46_3 < ((rdOf ByteArray.empty t106 x40_2).size : Int) := of_decide_eq_true (by first | (with_reducible assumption) | assumption)
                have hx15 := bt_at (rdOf ByteArray.empty t106 x40_2) x46_3
                replace p15 := eq_true p15
                replace q15 := eq_true q15
                go_wp2_with (first | ((with_reducible refine gate_callee (f := 49) rfl ?_); refine goesL_ (some 52) rfl rfl Tryd.func49 (by kernel_rfl) rfl #[.int .u8 (bt (rdOf ByteArray.empty t106 x40_2) x46_3)] rfl (by (try simp only [List.map_toArray, List.map_cons, List.map_nil]); first | done | rfl | (simp only [List.length_drop, List.length_take]; rfl)) ?_; (with_reducible refine (head_alnum.calls (bt (rdOf ByteArray.empty t106 x40_2) x46_3) false _ A16.out).mono ?_); rintro e w' ⟨rfl, ⟨nd, rfl⟩⟩; refine ⟨_, rfl, ?_⟩; have p18 : 0 ≤ (x46_3 : Int) := of_decide_eq_true (by first | (with_reducible assumption) | assumption); have q18 : x46_3 < ((rdOf ByteArray.empty t106 x40_2).size : Int) := of_decide_eq_true (by first | (with_reducible assumption) | assumption); have hx18 := bt_at (rdOf ByteArray.empty t106 x40_2) x46_3; replace p18 := eq_true p18; replace q18 := eq_true q18))
                go_roundg k3
                case measure => have := HJ2.out; have := HK2.out; have := HK3.out; omega
                case rel => exact ⟨(wrap64 (x46_3 + 1)), (by first | rfl | (simp; done) | (simp [*]; done)), H', ⟨by have := HJ2.out; have := HK2.out; have := HK3.out; omega⟩, ⟨by (with_reducible repeat (first | apply Kd.R_alloc | apply Kd.R_drewN | apply Kd.R_drew)); exact HO_38.out⟩, ⟨by repeat (first | (with_reducible first | exact HB.out | apply below_alloc | apply pw_below_drewN | apply below_drew1) | exact HB.out)⟩⟩
               ·rw [if_neg c19] at H
                have c19b0 : ((bt (rdOf ByteArray.empty t106 x40_2) x46_3) == 45) = false := beq_eq_false_iff_ne.mpr c19
                have c19b1 : ((bt (rdOf ByteArray.empty t106 x40_2) x46_3) != 45) = true := bne_iff_ne.mpr c19
                simp only [Option.some.injEq, Prod.mk.injEq] at H
                obtain ⟨rfl, rfl⟩ := H
                have p15 : 0 ≤ (x46_3 : Int) := of_decide_eq_true (by first | (with_reducible assumption) | assumption)
                have q15 : x46_3 < ((rdOf ByteArray.empty t106 x40_2).size : Int) := of_decide_eq_true (by first | (with_reducible assumption) | assumption)
                have hx15 := bt_at (rdOf ByteArray.empty t106 x40_2) x46_3
                replace p15 := eq_true p15
                replace q15 := eq_true q15
                go_wp2_with (first | ((with_reducible refine gate_callee (f := 49) rfl ?_); refine goesL_ (some 52) rfl rfl Tryd.func49 (by kernel_rfl) rfl #[.int .u8 (bt (rdOf ByteArray.empty t106 x40_2) x46_3)] rfl (by (try simp only [List.map_toArray, List.map_cons, List.map_nil]); first | done | rfl | (simp only [List.length_drop, List.length_take]; rfl)) ?_; (with_reducible refine (head_alnum.calls (bt (rdOf ByteArray.empty t106 x40_2) x46_3) false _ A16.out).mono ?_); rintro e w' ⟨rfl, ⟨nd, rfl⟩⟩; refine ⟨_, rfl, ?_⟩; have p18 : 0 ≤ (x46_3 : Int) := of_decide_eq_true (by first | (with_reducible assumption) | assumption); have q18 : x46_3 < ((rdOf ByteArray.empty t106 x40_2).size : Int) := of_decide_eq_true (by first | (with_reducible assumption) | assumption); have hx18 := bt_at (rdOf ByteArray.empty t106 x40_2) x46_3; replace p18 := eq_true p18; replace q18 := eq_true q18))
                go_ret2
                exact ⟨by first | rfl | (simp [errW_none, errW_some] <;> rfl) | (simp [*, errW_none, errW_some] <;> rfl), by repeat (first | (with_reducible first | exact HB.out | apply below_alloc | apply pw_below_drewN | apply below_drew1) | exact HB.out)⟩
             ·rw [if_neg c14] at H
              exact absurd H (by simp)
            ·rw [if_neg c13] at H
             exact absurd H (by simp)
           ·rw [if_neg c12] at H
            have c12b0 : decide (x46_3 < ((rdOf ByteArray.empty t106 x40_2).size : Int)) = false := decide_eq_false c12
            clear c12
            by_cases c20 : (rdOf ByteArray.empty t106 x40_2).toList = ([] : List UInt8)
            ·rw [if_pos c20] at H
             have c20b0 : ((rdOf ByteArray.empty t106 x40_2).toList == ([] : List UInt8)) = true := beq_iff_eq.mpr c20
             have c20b1 : ((rdOf ByteArray.empty t106 x40_2).toList != ([] : List UInt8)) = false := bne_eq_false_iff_eq.mpr c20
             clear c20
             simp only [Option.some.injEq, Prod.mk.injEq] at H
             obtain ⟨rfl, rfl⟩ := H
             go_wp2
             go_ret2
             exact ⟨by first | rfl | (simp [errW_none, errW_some] <;> rfl) | (simp [*, errW_none, errW_some] <;> rfl), by repeat (first | (with_reducible first | exact HB.out | apply below_alloc | apply pw_below_drewN | apply below_drew1) | exact HB.out)⟩
            ·rw [if_neg c20] at H
             have c20b0 : ((rdOf ByteArray.empty t106 x40_2).toList == ([] : List UInt8)) = false := beq_eq_false_iff_ne.mpr c20
             have c20b1 : ((rdOf ByteArray.empty t106 x40_2).toList != ([] : List UInt8)) = true := bne_iff_ne.mpr c20
             have H' := Aside0.mk H
             clear H
             go_wp2
             go_roundg k3
             case measure => have := HJ2.out; have := HK2.out; have := HK3.out; omega
             case rel => exact ⟨(wrap64 (x40_2 + 1)), (by first | rfl | (simp; done) | (simp [*]; done)), H', ⟨by have := HJ2.out; have := HK2.out; have := HK3.out; omega⟩, ⟨by (with_reducible repeat (first | apply Kd.R_alloc | apply Kd.R_drewN | apply Kd.R_drew)); exact HO_38.out⟩, ⟨by repeat (first | (with_reducible first | exact HB.out | apply below_alloc | apply pw_below_drewN | apply below_drew1) | exact HB.out)⟩⟩
        ·rw [if_neg c11] at H
         exact absurd H (by simp)
       ·rw [if_neg c10] at H
        exact absurd H (by simp)
      ·rw [if_neg c9] at H
       have c9b0 : decide (x40_2 < (t106.length : Int)) = false := decide_eq_false c9
       clear c9
       replace H := Option.bind_eq_some_iff.mp H
       obtain ⟨t109, A210, H⟩ := H
       replace H : (some (t109, true)) = some (r1, r2) := H
       have A21 := Aside0.mk A210
       clear A210
       simp only [Option.some.injEq, Prod.mk.injEq] at H
       obtain ⟨rfl, rfl⟩ := H
       go_wp2_with (first | ((with_reducible refine gate_callee (f := 41) rfl ?_); refine goesL_ (some 65) rfl rfl Tryd.func41 (by kernel_rfl) rfl #[.string t103] rfl (by (try simp only [List.map_toArray, List.map_cons, List.map_nil]); first | done | rfl | (simp only [List.length_drop, List.length_take]; rfl)) ?_; (with_reducible refine (head_lower.calls t103 t109 _ A21.out).mono ?_); rintro e w22 ⟨rfl, hb⟩; refine ⟨_, rfl, ?_⟩; have n0_ := Aside0.mk (Kd.R_below (by (with_reducible repeat (first | apply Kd.R_alloc | apply Kd.R_drewN | apply Kd.R_drew)); exact HO_38.out) hb); have n1_ := Aside0.mk (below_step (by repeat (first | (with_reducible first | exact HB.out | apply below_alloc | apply pw_below_drewN | apply below_drew1) | exact HB.out)) hb); clear HO_38; clear HB; have HO_38 := n0_; have HB := n1_; clear n0_ n1_; (try clear hb); (try clear hb2); (try clear hk); (try clear hi)))
       go_ret2
       exact ⟨by first | rfl | (simp [errW_none, errW_some] <;> rfl) | (simp [*, errW_none, errW_some] <;> rfl), by repeat (first | (with_reducible first | exact HB.out | apply below_alloc | apply pw_below_drewN | apply below_drew1) | exact HB.out)⟩

set_option maxHeartbeats 8000000 in
set_option maxRecDepth 100000 in
theorem head_Host.no (a0 t103 t104 : ByteArray) (t105 : Bool) (hcut : strings_Cut.f a0 (⟨#[58]⟩ : ByteArray) = some (t103, t104, t105)) (hD : t104.data.toList.all digB = false) (w : World) (hml : ML w) :
  Calls Tryd.prog 18 #[.string a0] w fun e w' => e = .returned (.tuple #[.string (⟨#[]⟩ : ByteArray), .bool false]) ∧ Below w.heap.size w w' := by
 have HML := Aside0.mk hml
 clear hml
 have HB := Aside0.mk (Below.refl w.heap.size w)
 have A2 := Aside0.mk hcut
 clear hcut
 have HD := Aside0.mk hD
 clear hD
 go_enter Tryd.func18, Tryd.ntmps18
 go_wp2_with (first | ((with_reducible refine gate_callee (f := 36) rfl ?_); refine goesL_ (some 14) rfl rfl Tryd.func36 (by kernel_rfl) rfl #[.string a0, .string (⟨#[58]⟩ : ByteArray)] rfl (by (try simp only [List.map_toArray, List.map_cons, List.map_nil]); first | done | rfl | (simp only [List.length_drop, List.length_take]; rfl)) ?_; (with_reducible refine (strings_Cut.calls a0 (⟨#[58]⟩ : ByteArray) t103 t104 t105 _ ?side1 A2.out).mono ?_); (case side1 => exact ML.keep HML.out (by repeat (first | (with_reducible first | exact HB.out | apply below_alloc | apply pw_below_drewN | apply below_drew1) | exact HB.out))); rintro e w' ⟨rfl, ⟨nd, rfl⟩⟩; refine ⟨_, rfl, ?_⟩))
 obtain ⟨wd, hwd⟩ : ∃ wd, w.drewN nd = wd := ⟨_, rfl⟩
 have hbd : Below w.heap.size w wd := hwd ▸ pw_below_drewN (Below.refl _ _) nd
 have hsz : wd.heap.size = w.heap.size := by rw [← hwd]; rfl
 rw [hwd]
 clear hwd
 have HBD := Aside0.mk hbd
 clear hbd HB
 go_loopw [8] (fun v8 wr => ∃ pos : Nat, wr = wd.iter t104 pos ∧ Aside0 (∀ (i : Nat) (hi : i < t104.size), i < pos → 48 ≤ (t104[i]'hi).toNat ∧ (t104[i]'hi).toNat ≤ 57)) (fun _ w' => t104.size - w'.iterPos wd.heap.size)
 case atStart => exact ⟨0, rfl, ⟨fun i hi h => by omega⟩⟩
 case round =>
  obtain ⟨pos, rfl, HP⟩ := hrel
  by_cases hp : pos < t104.size
  ·by_cases hdig : 48 ≤ (t104[pos]'hp).toNat ∧ (t104[pos]'hp).toNat ≤ 57
   ·have hnx : ∀ ty, (Instr.next (.pointer (some ⟨w.heap.size, 0, none⟩)) true ty).run Tryd.prog (wd.iter t104 pos) = .ok (.tuple #[.bool true, .int .i64 pos, .int .i32 (t104[pos]'hp).toNat]) (wd.iter t104 (pos + 1)) := fun ty => by rw [← hsz]; exact run_next_ascii wd t104 pos ty hp (by omega)
    have HP2 : Aside0 (∀ (i : Nat) (hi : i < t104.size), i < pos + 1 → 48 ≤ (t104[i]'hi).toNat ∧ (t104[i]'hi).toNat ≤ 57) := ⟨fun i hi h => by
     rcases Nat.lt_or_ge i pos with h1 | h1
     ·exact HP.out i hi h1
     ·obtain rfl : i = pos := by omega
      exact hdig⟩
    generalize hx : (((t104[pos]'hp).toNat : Nat) : Int) = x at hnx
    have hx1 : 48 ≤ x := by omega
    have hx2 : x ≤ 57 := by omega
    clear hx hdig HP
    go_wp2
    go_roundw
    case rel => exact ⟨pos + 1, rfl, HP2⟩
    case measure =>
     simp
     omega
   ·have HBI := Aside0.mk (show Below w.heap.size w (wd.iter t104 (pos + (Utf8.decode t104 pos).2)) from below_alloc HBD.out _)
    have hnx : ∀ ty, (Instr.next (.pointer (some ⟨w.heap.size, 0, none⟩)) true ty).run Tryd.prog (wd.iter t104 pos) = .ok (.tuple #[.bool true, .int .i64 pos, .int .i32 (Utf8.decode t104 pos).1]) (wd.iter t104 (pos + (Utf8.decode t104 pos).2)) := fun ty => by rw [← hsz]; exact run_next_any wd t104 pos ty hp
    have hr : (Utf8.decode t104 pos).1 < 48 ∨ 57 < (Utf8.decode t104 pos).1 := by
     by_cases ha : (t104[pos]'hp).toNat < 128
     ·rw [decode_ascii t104 pos hp ha]
      omega
     ·have := (decode_high t104 pos hp (by omega)).1
      omega
    generalize (Utf8.decode t104 pos).2 = wid at hnx HBI
    generalize hx : ((Utf8.decode t104 pos).1 : Int) = x at hnx
    generalize wd.iter t104 (pos + wid) = wz at hnx HBI
    rcases hr with hr | hr
    ·have hx1 : x < 48 := by omega
     clear hx hdig HP hr
     go_wp2
     go_ret2
     exact ⟨rfl, HBI.out⟩
    ·have hx1 : 57 < x := by omega
     have hx2 : 48 ≤ x := by omega
     clear hx hdig HP hr
     go_wp2
     go_ret2
     exact ⟨rfl, HBI.out⟩
  ·exact absurd (dig_all fun i hi => HP.out i hi (by omega)) (by rw [HD.out]; simp)
def head_Host.f (k : Nat) (a0 : ByteArray) : Option (ByteArray × Bool) := (strings_Cut.f a0 (⟨#[58]⟩ : ByteArray)).bind fun bt => (if bt.2.1.data.toList.all digB = true then head_HostX.f k a0 else some ((⟨#[]⟩ : ByteArray), false))
theorem head_Host.mono : ∀ a0 k, LeO (head_Host.f k a0) (head_Host.f (k + 1) a0) := by
 intro a0 k
 unfold head_Host.f
 repeat' first
   | (with_reducible exact head_HostX.mono _ _)
   | (with_reducible exact LeO.refl _)
   | (with_reducible refine LeO.ite ?_ ?_)
   | (with_reducible refine LeO.bind ?_ (fun _ => ?_))
   | exact head_HostX.mono _ _
   | refine LeO.ite ?_ ?_
   | refine LeO.bind ?_ (fun _ => ?_)
theorem head_Host.calls (k : Nat) (a0 : ByteArray) (r1 : ByteArray) (r2 : Bool) (w : World) (hml : ML w) (h : head_Host.f k a0 = some (r1, r2)) :
  Calls Tryd.prog 18 #[.string a0] w fun e w' => e = .returned (.tuple #[.string r1, .bool r2]) ∧ Below w.heap.size w w' := by
 unfold head_Host.f at h
 obtain ⟨⟨t103, t104, t105⟩, hcut, h⟩ := Option.bind_eq_some_iff.mp h
 dsimp only at h
 split at h
 ·rename_i hD
  exact head_HostX.calls k a0 r1 r2 w hml (fun r1' r2' r3' hc => by
   rw [hcut] at hc
   simp only [Option.some.injEq, Prod.mk.injEq] at hc
   obtain ⟨_, rfl, _⟩ := hc
   exact hD) h
 ·rename_i hD
  simp only [Option.some.injEq, Prod.mk.injEq] at h
  obtain ⟨rfl, rfl⟩ := h
  exact head_Host.no a0 t103 t104 t105 hcut (by simpa using hD) w hml

end Go.Proofs.YtabkdmfnafeaeaaDoor.R
