-- Laid by lay.py, a program of this session's, out of the translation (the kit's printer with additions of ours). Lean checks it.
import Derived.Test.YtlknaikdlkobjaaDoorQx0
import Derived.Test.YtlknaikdlkobjaaDoorQx48
import Derived.Test.YtlknaikdlkobjaaDoorQx49
namespace Go.Proofs.YtlknaikdlkobjaaDoor.Q
open Go.RowKit Go.Proofs.YtlknaikdlkobjaaDoorW.PrintWords Go.Proofs.YtlknaikdlkobjaaDoorW.PrintLast Go.Proofs.YtlknaikdlkobjaaDoorW.PrintMore
attribute [local go_sem] max2_int min2_int max_two min_two max_three min_three max_four min_four   -- for this text's walks alone
attribute [local go_sem] fbin_eql fbin_neq fbin_lss fbin_leq fbin_gtr fbin_geq frun_add frun_sub frun_mul frun_quo frun_store fun_neg fcv_int fcv_same fb94 fb118
set_option linter.unusedVariables false
set_option linter.unusedSimpArgs false

/-! ### plane_Weigh: function 56 -/
mutual
def plane_Weigh.j0 : Nat → List (S71) → Nat → List Nat → Nat → Option (Int × Bool)
  | 0, _, _, _, _ => none
  | k + 1, x0, x1, x6, x7 => if 0 ≤ (wrap64 ((x6.length : Int) - 1)) then (if (wrap64 ((x6.length : Int) - 1)) < (x6.length : Int) then (if ((fgtr (rdOf 0 x6 (wrap64 ((x6.length : Int) - 1))) 0) = true) then (if ((fgeq x1 0) = true) then (plane_Weigh.j1 k x0 x1 x6 x7 (rdOf 0 x6 (wrap64 ((x6.length : Int) - 1)))) else (plane_Weigh.j1 k x0 0 x6 x7 (rdOf 0 x6 (wrap64 ((x6.length : Int) - 1))))) else (some (0, false))) else (none)) else (none)
def plane_Weigh.j1 : Nat → List (S71) → Nat → List Nat → Nat → Nat → Option (Int × Bool)
  | 0, _, _, _, _, _ => none
  | k + 1, x0, x1, x6, x7, x8 => if (fmulOk x1 x8) = true then (plane_Weigh.l0 k x1 x6 x7 0 (fmul x1 x8) x0 (x0.length : Int) 0) else (none)
def plane_Weigh.l0 : Nat → Nat → List Nat → Nat → Int → Nat → List (S71) → Int → Int → Option (Int × Bool)
  | 0, _, _, _, _, _, _, _, _ => none
  | k + 1, x1, x6, x7, x9, x10, x43, x44, x45 => if x45 < x44 then (if 0 ≤ x45 then (if x45 < (x43.length : Int) then ((plane_counts.f ((rd_T71 x43 x45).f1) x7).bind fun t486 => (if ((fgtr t486 0) = true) then (if (flss x1 4607182418800017408) = true then (if x45 < (x6.length : Int) then (if (flss x10 (rdOf 0 x6 x45)) = true then (some (x45, true)) else (plane_Weigh.l0 k x1 x6 x7 x45 x10 x43 x44 (wrap64 (x45 + 1)))) else (none)) else (plane_Weigh.l0 k x1 x6 x7 x45 x10 x43 x44 (wrap64 (x45 + 1)))) else (plane_Weigh.l0 k x1 x6 x7 x9 x10 x43 x44 (wrap64 (x45 + 1))))) else (none)) else (none)) else (some (x9, true))
end
def plane_Weigh.f (k : Nat) (l0 : List (S71)) (a1 : Nat) : Option (Int × Bool) := if (l0.length : Int) = 0 then (some (0, false)) else ((plane_sums.f k l0 4607182418800017408).bind fun t475 => (if 0 ≤ (wrap64 ((t475.length : Int) - 1)) then (if (wrap64 ((t475.length : Int) - 1)) < (t475.length : Int) then ((math_IsInf.f (rdOf 0 t475 (wrap64 ((t475.length : Int) - 1))) 1).bind fun t479 => (if t479 = true then ((plane_sums.f k l0 4562146422526312448).bind fun t480 => (plane_Weigh.j0 k l0 a1 t480 4562146422526312448)) else (plane_Weigh.j0 k l0 a1 t475 4607182418800017408))) else (none)) else (none)))
theorem plane_Weigh.mono_l : ∀ k, (∀ y0 y1 y2 y3, LeO (plane_Weigh.j0 k y0 y1 y2 y3) (plane_Weigh.j0 (k + 1) y0 y1 y2 y3)) ∧ (∀ y0 y1 y2 y3 y4, LeO (plane_Weigh.j1 k y0 y1 y2 y3 y4) (plane_Weigh.j1 (k + 1) y0 y1 y2 y3 y4)) ∧ (∀ y0 y1 y2 y3 y4 y5 y6 y7, LeO (plane_Weigh.l0 k y0 y1 y2 y3 y4 y5 y6 y7) (plane_Weigh.l0 (k + 1) y0 y1 y2 y3 y4 y5 y6 y7))
  | 0 => ⟨fun _ _ _ _ r h => by simp [plane_Weigh.j0] at h, fun _ _ _ _ _ r h => by simp [plane_Weigh.j1] at h, fun _ _ _ _ _ _ _ _ r h => by simp [plane_Weigh.l0] at h⟩
  | k + 1 => by
    obtain ⟨ih0, ih1, ih2⟩ := plane_Weigh.mono_l k
    refine ⟨?_, ?_, ?_⟩
    · intro y0 y1 y2 y3
      unfold plane_Weigh.j0
      repeat' first
      | (with_reducible exact ih0 _ _ _ _)
      | (with_reducible exact ih1 _ _ _ _ _)
      | (with_reducible exact ih2 _ _ _ _ _ _ _ _)
      | (with_reducible exact plane_sums.mono _ _ _)
      | (with_reducible exact LeO.refl _)
      | (with_reducible exact LeO.none _)
      | (with_reducible refine LeO.ite ?_ ?_)
      | (with_reducible refine LeO.bind ?_ (fun _ => ?_))
      | exact ih0 _ _ _ _
      | exact ih1 _ _ _ _ _
      | exact ih2 _ _ _ _ _ _ _ _
      | exact plane_sums.mono _ _ _
      | exact LeO.none _
      | refine LeO.ite ?_ ?_
      | refine LeO.bind ?_ (fun _ => ?_)
    · intro y0 y1 y2 y3 y4
      unfold plane_Weigh.j1
      repeat' first
      | (with_reducible exact ih0 _ _ _ _)
      | (with_reducible exact ih1 _ _ _ _ _)
      | (with_reducible exact ih2 _ _ _ _ _ _ _ _)
      | (with_reducible exact plane_sums.mono _ _ _)
      | (with_reducible exact LeO.refl _)
      | (with_reducible exact LeO.none _)
      | (with_reducible refine LeO.ite ?_ ?_)
      | (with_reducible refine LeO.bind ?_ (fun _ => ?_))
      | exact ih0 _ _ _ _
      | exact ih1 _ _ _ _ _
      | exact ih2 _ _ _ _ _ _ _ _
      | exact plane_sums.mono _ _ _
      | exact LeO.none _
      | refine LeO.ite ?_ ?_
      | refine LeO.bind ?_ (fun _ => ?_)
    · intro y0 y1 y2 y3 y4 y5 y6 y7
      unfold plane_Weigh.l0
      repeat' first
      | (with_reducible exact ih0 _ _ _ _)
      | (with_reducible exact ih1 _ _ _ _ _)
      | (with_reducible exact ih2 _ _ _ _ _ _ _ _)
      | (with_reducible exact plane_sums.mono _ _ _)
      | (with_reducible exact LeO.refl _)
      | (with_reducible exact LeO.none _)
      | (with_reducible refine LeO.ite ?_ ?_)
      | (with_reducible refine LeO.bind ?_ (fun _ => ?_))
      | exact ih0 _ _ _ _
      | exact ih1 _ _ _ _ _
      | exact ih2 _ _ _ _ _ _ _ _
      | exact plane_sums.mono _ _ _
      | exact LeO.none _
      | refine LeO.ite ?_ ?_
      | refine LeO.bind ?_ (fun _ => ?_)
theorem plane_Weigh.mono : ∀ a0 a1 k, LeO (plane_Weigh.f k a0 a1) (plane_Weigh.f (k + 1) a0 a1) := by
  intro a0 a1 k
  obtain ⟨ih0, ih1, ih2⟩ := plane_Weigh.mono_l k
  unfold plane_Weigh.f
  repeat' first
      | (with_reducible exact ih0 _ _ _ _)
      | (with_reducible exact ih1 _ _ _ _ _)
      | (with_reducible exact ih2 _ _ _ _ _ _ _ _)
      | (with_reducible exact plane_sums.mono _ _ _)
      | (with_reducible exact LeO.refl _)
      | (with_reducible exact LeO.none _)
      | (with_reducible refine LeO.ite ?_ ?_)
      | (with_reducible refine LeO.bind ?_ (fun _ => ?_))
      | exact ih0 _ _ _ _
      | exact ih1 _ _ _ _ _
      | exact ih2 _ _ _ _ _ _ _ _
      | exact plane_sums.mono _ _ _
      | exact LeO.none _
      | refine LeO.ite ?_ ?_
      | refine LeO.bind ?_ (fun _ => ?_)
set_option maxHeartbeats 8000000 in
set_option maxRecDepth 100000 in
theorem plane_Weigh.calls (k : Nat) (A0 : Option Addr) (c0 : Nat) (l0 : List (S71)) (a1 : Nat) (r1 : Int) (r2 : Bool) (w : World) (hr0 : Kd.C k71 w A0 l0.length l0) (hc0 : l0.length ≤ c0) (h : plane_Weigh.f k l0 a1 = some (r1, r2)) :
    Calls Tryd.prog 56 #[.slice A0 l0.length c0, .float .f64 a1] w fun e w' => e = .returned (.tuple #[.int .i64 r1, .bool r2]) ∧ Below w.heap.size w w' := by
  have hu71 := Tryd.underlying71
  have HR0 := Aside0.mk hr0
  have HC0 := Aside0.mk hc0
  clear hr0 hc0
  have HB := Aside0.mk (Below.refl w.heap.size w)
  have H : (if (l0.length : Int) = 0 then (some (0, false)) else ((plane_sums.f k l0 4607182418800017408).bind fun t475 => (if 0 ≤ (wrap64 ((t475.length : Int) - 1)) then (if (wrap64 ((t475.length : Int) - 1)) < (t475.length : Int) then ((math_IsInf.f (rdOf 0 t475 (wrap64 ((t475.length : Int) - 1))) 1).bind fun t479 => (if t479 = true then ((plane_sums.f k l0 4562146422526312448).bind fun t480 => (plane_Weigh.j0 k l0 a1 t480 4562146422526312448)) else (plane_Weigh.j0 k l0 a1 t475 4607182418800017408))) else (none)) else (none)))) = some (r1, r2) := h
  clear h
  by_cases c3 : (l0.length : Int) = 0
  · rw [if_pos c3] at H
    have c3b0 : ((l0.length : Int) == 0) = true := beq_iff_eq.mpr c3
    have c3b1 : ((l0.length : Int) != 0) = false := bne_eq_false_iff_eq.mpr c3
    clear c3
    simp only [Option.some.injEq, Prod.mk.injEq] at H
    obtain ⟨rfl, rfl⟩ := H
    go_enter Tryd.func56, Tryd.ntmps56
    go_wp2
    go_ret2
    exact ⟨by first | rfl | (simp [errW_none, errW_some] <;> rfl) | (simp [*, errW_none, errW_some] <;> rfl), by repeat (first | (with_reducible first | exact HB.out | apply below_alloc | apply pw_below_drewN | apply below_drew1) | exact HB.out)⟩
  · rw [if_neg c3] at H
    have c3b0 : ((l0.length : Int) == 0) = false := beq_eq_false_iff_ne.mpr c3
    have c3b1 : ((l0.length : Int) != 0) = true := bne_iff_ne.mpr c3
    have c3b2 : ¬ (l0 = []) := fun h_ => c3 (by rw [h_]; rfl)
    replace H := Option.bind_eq_some_iff.mp H
    obtain ⟨t475, A40, H⟩ := H
    replace H : (if 0 ≤ (wrap64 ((t475.length : Int) - 1)) then (if (wrap64 ((t475.length : Int) - 1)) < (t475.length : Int) then ((math_IsInf.f (rdOf 0 t475 (wrap64 ((t475.length : Int) - 1))) 1).bind fun t479 => (if t479 = true then ((plane_sums.f k l0 4562146422526312448).bind fun t480 => (plane_Weigh.j0 k l0 a1 t480 4562146422526312448)) else (plane_Weigh.j0 k l0 a1 t475 4607182418800017408))) else (none)) else (none)) = some (r1, r2) := H
    have A4 := Aside0.mk A40
    clear A40
    obtain ⟨ji5, hji5⟩ : ∃ j_ : Int, (wrap64 ((t475.length : Int) - 1)) = j_ := ⟨_, rfl⟩
    replace H : (if 0 ≤ (ji5) then (if (ji5) < (t475.length : Int) then ((math_IsInf.f (rdOf 0 t475 (ji5)) 1).bind fun t479 => (if t479 = true then ((plane_sums.f k l0 4562146422526312448).bind fun t480 => (plane_Weigh.j0 k l0 a1 t480 4562146422526312448)) else (plane_Weigh.j0 k l0 a1 t475 4607182418800017408))) else (none)) else (none)) = some (r1, r2) := by first | (rw [hji5] at H; exact H) | (simp only [hji5] at H ⊢; exact H)
    (try rw [hji5] at A4)
    have hji5w : (IntKind.i64.wrap ((t475.length : Int) - 1)) = ji5 := (i64_w _).trans hji5
    by_cases c6 : 0 ≤ (ji5)
    · rw [if_pos c6] at H
      have c6b0 : decide (0 ≤ (ji5)) = true := decide_eq_true c6
      clear c6
      by_cases c7 : (ji5) < (t475.length : Int)
      · rw [if_pos c7] at H
        have c7b0 : decide ((ji5) < (t475.length : Int)) = true := decide_eq_true c7
        clear c7
        replace H := Option.bind_eq_some_iff.mp H
        obtain ⟨t479, A80, H⟩ := H
        replace H : (if t479 = true then ((plane_sums.f k l0 4562146422526312448).bind fun t480 => (plane_Weigh.j0 k l0 a1 t480 4562146422526312448)) else (plane_Weigh.j0 k l0 a1 t475 4607182418800017408)) = some (r1, r2) := H
        have A8 := Aside0.mk A80
        clear A80
        have HC9 := Aside0.mk H
        clear H
        go_enter Tryd.func56, Tryd.ntmps56
        go_upto_if 24 with (first | ((with_reducible refine gate_callee (f := 85) rfl ?_); refine goesL_ (some 17) rfl rfl Tryd.func85 (by kernel_rfl) rfl #[.slice A0 l0.length c0, .float .f64 4607182418800017408] rfl (by (try simp only [List.map_toArray, List.map_cons, List.map_nil]); first | done | rfl | (simp only [List.length_drop, List.length_take]; rfl)) ?_; (with_reducible refine (plane_sums.calls k _ _ l0 4607182418800017408 t475 _ ?side1 ?side2 A4.out).mono ?_); (case side1 => repeat (first | exact HR0.out | (with_reducible refine Kd.C_alloc ?_ _) | (with_reducible refine Kd.C_drewN ?_ _) | (with_reducible refine Kd.C_drew ?_))); (case side2 => exact HC0.out); rintro e w10 ⟨v476, rfl, ho0, hb⟩; refine ⟨_, rfl, ?_⟩; have n0_ := Aside0.mk (Kd.R_lower ho0 (below_size (by repeat (first | (with_reducible first | exact HB.out | apply below_alloc | apply pw_below_drewN | apply below_drew1) | exact HB.out)))); have n1_ := Aside0.mk (below_step (by repeat (first | (with_reducible first | exact HB.out | apply below_alloc | apply pw_below_drewN | apply below_drew1) | exact HB.out)) hb); clear HB; have HO477 := n0_; have HB := n1_; clear n0_ n1_; (try clear hb); (try clear hb2); (try clear hk); (try clear hi); (try clear ho0); obtain ⟨Ao11, co11, eo11⟩ := Kd.R_slice HO477.out; subst eo11; have p478 : 0 ≤ ((ji5) : Int) := of_decide_eq_true (by first | (with_reducible assumption) | assumption); have q478 : (ji5) < (t475.length : Int) := of_decide_eq_true (by first | (with_reducible assumption) | assumption); obtain ⟨ad478, e478, hx478_0⟩ := Kd.at_float (Kd.R_reads' HO477.out).2.2 (ji5) p478 q478; cases e478; replace p478 := eq_true p478; replace q478 := eq_true q478) | ((with_reducible refine gate_callee (f := 86) rfl ?_); refine goesL_ (some 24) rfl rfl Tryd.func86 (by kernel_rfl) rfl #[.float .f64 (rdOf 0 t475 (ji5)), .int .i64 1] rfl (by (try simp only [List.map_toArray, List.map_cons, List.map_nil]); first | done | (simp only [hji5]; rfl) | rfl | (simp only [List.length_drop, List.length_take]; rfl)) ?_; (with_reducible refine (math_IsInf.calls (rdOf 0 t475 (ji5)) 1 t479 _ A8.out).mono ?_); rintro e w' ⟨rfl, ⟨nd, rfl⟩⟩; refine ⟨_, rfl, ?_⟩))
        (try simp only [Act.put, List.setIfInBounds_toArray, List.set_cons_zero, List.set_cons_succ])
        go_cut [6, 7] (fun v6 v7 wc => ∃ (kq : Nat) (x6_8 : List Nat) (x7_8 : Nat), v7 = .float .f64 x7_8 ∧ Aside0 (plane_Weigh.j0 kq l0 a1 x6_8 x7_8 = some (r1, r2)) ∧ Aside0 (kq ≤ k) ∧ Aside0 (Kd.R Kd.float 58 wc w.heap.size (fun _ => True) v6 x6_8) ∧ Aside0 (Below w.heap.size w wc))
        case first =>
          have H := HC9.out
          clear HC9
          by_cases c12 : t479 = true
          · subst c12
            have H1 : ((plane_sums.f k l0 4562146422526312448).bind fun t480 => (plane_Weigh.j0 k l0 a1 t480 4562146422526312448)) = some (r1, r2) := by rw [if_pos rfl] at H; exact H
            clear H
            have H := H1
            clear H1
            replace H := Option.bind_eq_some_iff.mp H
            obtain ⟨t480, A130, H⟩ := H
            replace H : (plane_Weigh.j0 k l0 a1 t480 4562146422526312448) = some (r1, r2) := H
            have A13 := Aside0.mk A130
            clear A130
            have H' := Aside0.mk H
            clear H
            go_wp2_with (first | ((with_reducible refine gate_callee (f := 85) rfl ?_); refine goesL_ (some 27) rfl rfl Tryd.func85 (by kernel_rfl) rfl #[.slice A0 l0.length c0, .float .f64 4562146422526312448] rfl (by (try simp only [List.map_toArray, List.map_cons, List.map_nil]); first | done | rfl | (simp only [List.length_drop, List.length_take]; rfl)) ?_; (with_reducible refine (plane_sums.calls k _ _ l0 4562146422526312448 t480 _ ?side1 ?side2 A13.out).mono ?_); (case side1 => repeat (first | exact (Kd.C_below HR0.out HB.out) | (with_reducible refine Kd.C_alloc ?_ _) | (with_reducible refine Kd.C_drewN ?_ _) | (with_reducible refine Kd.C_drew ?_))); (case side2 => exact HC0.out); rintro e w14 ⟨v481, rfl, ho0, hb⟩; refine ⟨_, rfl, ?_⟩; have n0_ := Aside0.mk (Kd.R_elder' (by (with_reducible repeat (first | apply Kd.R_alloc | apply Kd.R_drewN | apply Kd.R_drew)); exact HO477.out) (Kd.R_base ho0) hb); have n1_ := Aside0.mk (Kd.R_lower (Kd.R_new' ho0 (Kd.R_lt (by (with_reducible repeat (first | apply Kd.R_alloc | apply Kd.R_drewN | apply Kd.R_drew)); exact HO477.out))) (below_size (by repeat (first | (with_reducible first | exact HB.out | apply below_alloc | apply pw_below_drewN | apply below_drew1) | exact HB.out)))); have n2_ := Aside0.mk (below_step (by repeat (first | (with_reducible first | exact HB.out | apply below_alloc | apply pw_below_drewN | apply below_drew1) | exact HB.out)) hb); clear HO477; clear HB; have HO477 := n0_; have HO482 := n1_; have HB := n2_; clear n0_ n1_ n2_; (try clear hb); (try clear hb2); (try clear hk); (try clear hi); (try clear ho0)))
            go_meet
            case rel => exact ⟨_, (t480), (4562146422526312448), (by first | rfl | (simp; done) | (simp [*]; done)), H', ⟨by first | omega | exact Nat.le_refl _⟩, ⟨by (with_reducible repeat (first | apply Kd.R_alloc | apply Kd.R_drewN | apply Kd.R_drew)); exact Kd.R_mono HO482.out (fun _ hk => trivial)⟩, ⟨by repeat (first | (with_reducible first | exact HB.out | apply below_alloc | apply pw_below_drewN | apply below_drew1) | exact HB.out)⟩⟩
          · replace c12 := Bool.eq_false_iff.mpr c12
            subst c12
            have H1 : (plane_Weigh.j0 k l0 a1 t475 4607182418800017408) = some (r1, r2) := by rw [if_neg (show ¬ (false = true) by decide)] at H; exact H
            clear H
            have H := H1
            clear H1
            have H' := Aside0.mk H
            clear H
            go_wp2
            go_meet
            case rel => exact ⟨_, (t475), (4607182418800017408), (by first | rfl | (simp; done) | (simp [*]; done)), H', ⟨by first | omega | exact Nat.le_refl _⟩, ⟨by (with_reducible repeat (first | apply Kd.R_alloc | apply Kd.R_drewN | apply Kd.R_drew)); exact HO477.out⟩, ⟨by repeat (first | (with_reducible first | exact HB.out | apply below_alloc | apply pw_below_drewN | apply below_drew1) | exact HB.out)⟩⟩
        case rest =>
          clear HC9
          try clear c1
          try clear p2
          try clear c3
          try clear c3b0
          try clear c3b1
          try clear c3b2
          try clear p4
          try clear q4
          try clear hx4
          try clear c5
          try clear c6
          try clear c6b0
          try clear p6
          try clear c7
          try clear c7b0
          try clear c8
          try clear c12
          try clear hx478_0
          try clear p478
          try clear q478
          obtain ⟨kq, x6_8, x7_8, rfl, HA, HJ8, HO_6, HB⟩ := hcut
          cases kq with
          | zero => exact absurd HA.out (by simp [plane_Weigh.j0])
          | succ kj8 =>
            have H := HA.out
            clear HA
            simp only [plane_Weigh.j0] at H
            obtain ⟨ji15, hji15⟩ : ∃ j_ : Int, (wrap64 ((x6_8.length : Int) - 1)) = j_ := ⟨_, rfl⟩
            replace H : (if 0 ≤ (ji15) then (if (ji15) < (x6_8.length : Int) then (if ((fgtr (rdOf 0 x6_8 (ji15)) 0) = true) then (if ((fgeq a1 0) = true) then (plane_Weigh.j1 kj8 l0 a1 x6_8 x7_8 (rdOf 0 x6_8 (ji15))) else (plane_Weigh.j1 kj8 l0 0 x6_8 x7_8 (rdOf 0 x6_8 (ji15)))) else (some (0, false))) else (none)) else (none)) = some (r1, r2) := by first | (rw [hji15] at H; exact H) | (simp only [hji15] at H ⊢; exact H)
            have hji15w : (IntKind.i64.wrap ((x6_8.length : Int) - 1)) = ji15 := (i64_w _).trans hji15
            by_cases c16 : 0 ≤ (ji15)
            · rw [if_pos c16] at H
              have c16b0 : decide (0 ≤ (ji15)) = true := decide_eq_true c16
              clear c16
              by_cases c17 : (ji15) < (x6_8.length : Int)
              · rw [if_pos c17] at H
                have c17b0 : decide ((ji15) < (x6_8.length : Int)) = true := decide_eq_true c17
                clear c17
                by_cases c18 : ((fgtr (rdOf 0 x6_8 (ji15)) 0) = true)
                · rw [if_pos c18] at H
                  have c18b0 : (fgtr (rdOf 0 x6_8 (ji15)) 0) = true := c18
                  clear c18
                  have HC19 := Aside0.mk H
                  clear H
                  obtain ⟨Ao20, co20, eo20⟩ := Kd.R_slice HO_6.out
                  subst eo20
                  have p483 : 0 ≤ ((ji15) : Int) := of_decide_eq_true (by first | (with_reducible assumption) | assumption)
                  have q483 : (ji15) < (x6_8.length : Int) := of_decide_eq_true (by first | (with_reducible assumption) | assumption)
                  obtain ⟨ad483, e483, hx483_0⟩ := Kd.at_float (Kd.R_reads' HO_6.out).2.2 (ji15) p483 q483
                  cases e483
                  replace p483 := eq_true p483
                  replace q483 := eq_true q483
                  go_upto_if 39 with (fail)
                  go_cut [1] (fun v1 wc => ∃ (kq : Nat) (x1_18 : Nat), v1 = .float .f64 x1_18 ∧ Aside0 (plane_Weigh.j1 kq l0 x1_18 x6_8 x7_8 (rdOf 0 x6_8 (ji15)) = some (r1, r2)) ∧ Aside0 (kq ≤ kj8) ∧ Aside0 (Kd.R Kd.float 58 wc w.heap.size (fun _ => True) (.slice (some ad483) x6_8.length co20) x6_8) ∧ Aside0 (Below w.heap.size w wc))
                  case first =>
                    have H := HC19.out
                    clear HC19
                    by_cases c21 : ((fgeq a1 0) = true)
                    · rw [if_pos c21] at H
                      have c21b0 : (fgeq a1 0) = true := c21
                      clear c21
                      (first | rw [c21b0] | (simp only [i64_w, i32_w]; rw [c21b0]) | skip)
                      have H' := Aside0.mk H
                      clear H
                      go_wp2
                      go_meet
                      case rel => exact ⟨_, (a1), (by first | rfl | (simp; done) | (simp [*]; done)), H', ⟨by have := HJ8.out; first | omega | exact Nat.le_refl _⟩, ⟨by (with_reducible repeat (first | apply Kd.R_alloc | apply Kd.R_drewN | apply Kd.R_drew)); exact HO_6.out⟩, ⟨by repeat (first | (with_reducible first | exact HB.out | apply below_alloc | apply pw_below_drewN | apply below_drew1) | exact HB.out)⟩⟩
                    · rw [if_neg c21] at H
                      have c21b0 : (fgeq a1 0) = false := by simpa using c21
                      clear c21
                      (first | rw [c21b0] | (simp only [i64_w, i32_w]; rw [c21b0]) | skip)
                      have H' := Aside0.mk H
                      clear H
                      go_wp2
                      go_meet
                      case rel => exact ⟨_, (0), (by first | rfl | (simp; done) | (simp [*]; done)), H', ⟨by have := HJ8.out; first | omega | exact Nat.le_refl _⟩, ⟨by (with_reducible repeat (first | apply Kd.R_alloc | apply Kd.R_drewN | apply Kd.R_drew)); exact HO_6.out⟩, ⟨by repeat (first | (with_reducible first | exact HB.out | apply below_alloc | apply pw_below_drewN | apply below_drew1) | exact HB.out)⟩⟩
                  case rest =>
                    clear HC19
                    try clear c1
                    try clear c2
                    try clear p2
                    try clear c3
                    try clear c3b0
                    try clear c3b1
                    try clear c3b2
                    try clear p4
                    try clear q4
                    try clear hx4
                    try clear c5
                    try clear c6
                    try clear c6b0
                    try clear p6
                    try clear c7
                    try clear c7b0
                    try clear c8
                    try clear c12
                    try clear c16
                    try clear c16b0
                    try clear c17
                    try clear c17b0
                    try clear c18
                    try clear c18b0
                    try clear c21
                    try clear c21b0
                    try clear hx478_0
                    try clear hx483_0
                    try clear p2
                    try clear p4
                    try clear p478
                    try clear p483
                    try clear p6
                    try clear q4
                    try clear q478
                    try clear q483
                    obtain ⟨kq, x1_18, rfl, HA, HJ18, HO_6, HB⟩ := hcut
                    cases kq with
                    | zero => exact absurd HA.out (by simp [plane_Weigh.j1])
                    | succ kj18 =>
                      have H := HA.out
                      clear HA
                      simp only [plane_Weigh.j1] at H
                      by_cases c22 : (fmulOk x1_18 (rdOf 0 x6_8 (ji15))) = true
                      · rw [if_pos c22] at H
                        have c22b0 := eq_true c22
                        have c22b1 : decide ((fmulOk x1_18 (rdOf 0 x6_8 (ji15))) = true) = true := decide_eq_true c22
                        clear c22
                        have H' := Aside0.mk H
                        clear H
                        go_wp2
                        go_loopg [9, 45] kj18 (fun kq v9 v45 w' => ∃ (x9_3 : Int) (x45_3 : Int), v9 = .int .i64 x9_3 ∧ v45 = .int .i64 x45_3 ∧ Aside0 (plane_Weigh.l0 kq x1_18 x6_8 x7_8 x9_3 (fmul x1_18 (rdOf 0 x6_8 (ji15))) l0 (l0.length : Int) x45_3 = some (r1, r2)) ∧ Aside0 (kq ≤ kj18) ∧ Aside0 (Kd.R Kd.float 58 w' w.heap.size (fun _ => True) (.slice (some ad483) x6_8.length co20) x6_8) ∧ Aside0 (Below w.heap.size w w'))
                        case atStart => exact ⟨(0), (0), (by first | rfl | (simp; done) | (simp [*]; done)), (by first | rfl | (simp; done) | (simp [*]; done)), H', ⟨Nat.le_refl _⟩, ⟨by (with_reducible repeat (first | apply Kd.R_alloc | apply Kd.R_drewN | apply Kd.R_drew)); exact HO_6.out⟩, ⟨by repeat (first | (with_reducible first | exact HB.out | apply below_alloc | apply pw_below_drewN | apply below_drew1) | exact HB.out)⟩⟩
                        case round =>
                          clear H'
                          try clear c1
                          try clear c2
                          try clear p2
                          try clear c3
                          try clear c3b0
                          try clear c3b1
                          try clear c3b2
                          try clear p4
                          try clear q4
                          try clear hx4
                          try clear c5
                          try clear c6
                          try clear c6b0
                          try clear p6
                          try clear c7
                          try clear c7b0
                          try clear c8
                          try clear c12
                          try clear c16
                          try clear c16b0
                          try clear c17
                          try clear c17b0
                          try clear c18
                          try clear c18b0
                          try clear c21
                          try clear c21b0
                          try clear c22
                          try clear c22b0
                          try clear c22b1
                          try clear hx478_0
                          try clear hx483_0
                          try clear p2
                          try clear p4
                          try clear p478
                          try clear p483
                          try clear p6
                          try clear q4
                          try clear q478
                          try clear q483
                          obtain ⟨x9_3, x45_3, rfl, rfl, HA, HK3, HO_6, HB⟩ := hrel
                          cases gk with
                          | zero => exact absurd HA.out (by simp [plane_Weigh.l0])
                          | succ k3 =>
                            have H := HA.out
                            clear HA
                            simp only [plane_Weigh.l0] at H
                            by_cases c23 : x45_3 < (l0.length : Int)
                            · rw [if_pos c23] at H
                              have c23b0 : decide (x45_3 < (l0.length : Int)) = true := decide_eq_true c23
                              clear c23
                              by_cases c24 : 0 ≤ x45_3
                              · rw [if_pos c24] at H
                                have c24b0 : decide (0 ≤ x45_3) = true := decide_eq_true c24
                                clear c24
                                by_cases c25 : x45_3 < (l0.length : Int)
                                · rw [if_pos c25] at H
                                  have c25b0 : decide (x45_3 < (l0.length : Int)) = true := decide_eq_true c25
                                  clear c25
                                  replace H := Option.bind_eq_some_iff.mp H
                                  obtain ⟨t486, A260, H⟩ := H
                                  replace H : (if ((fgtr t486 0) = true) then (if (flss x1_18 4607182418800017408) = true then (if x45_3 < (x6_8.length : Int) then (if (flss (fmul x1_18 (rdOf 0 x6_8 (ji15))) (rdOf 0 x6_8 x45_3)) = true then (some (x45_3, true)) else (plane_Weigh.l0 k3 x1_18 x6_8 x7_8 x45_3 (fmul x1_18 (rdOf 0 x6_8 (ji15))) l0 (l0.length : Int) (wrap64 (x45_3 + 1)))) else (none)) else (plane_Weigh.l0 k3 x1_18 x6_8 x7_8 x45_3 (fmul x1_18 (rdOf 0 x6_8 (ji15))) l0 (l0.length : Int) (wrap64 (x45_3 + 1)))) else (plane_Weigh.l0 k3 x1_18 x6_8 x7_8 x9_3 (fmul x1_18 (rdOf 0 x6_8 (ji15))) l0 (l0.length : Int) (wrap64 (x45_3 + 1)))) = some (r1, r2) := H
                                  have A26 := Aside0.mk A260
                                  clear A260
                                  by_cases c27 : ((fgtr t486 0) = true)
                                  · rw [if_pos c27] at H
                                    have c27b0 : (fgtr t486 0) = true := c27
                                    clear c27
                                    by_cases c28 : (flss x1_18 4607182418800017408) = true
                                    · rw [if_pos c28] at H
                                      have c28b0 : (flss x1_18 4607182418800017408) = true := c28
                                      clear c28
                                      by_cases c29 : x45_3 < (x6_8.length : Int)
                                      · rw [if_pos c29] at H
                                        have c29b0 : decide (x45_3 < (x6_8.length : Int)) = true := decide_eq_true c29
                                        clear c29
                                        by_cases c30 : (flss (fmul x1_18 (rdOf 0 x6_8 (ji15))) (rdOf 0 x6_8 x45_3)) = true
                                        · rw [if_pos c30] at H
                                          have c30b0 : (flss (fmul x1_18 (rdOf 0 x6_8 (ji15))) (rdOf 0 x6_8 x45_3)) = true := c30
                                          clear c30
                                          simp only [Option.some.injEq, Prod.mk.injEq] at H
                                          obtain ⟨rfl, rfl⟩ := H
                                          have p484 : 0 ≤ (x45_3 : Int) := of_decide_eq_true (by first | (with_reducible assumption) | assumption)
                                          have q484 : x45_3 < (l0.length : Int) := of_decide_eq_true (by first | (with_reducible assumption) | assumption)
                                          obtain ⟨ad484, e484, hx484_0, hx484_1⟩ := at_T71 HR0.out x45_3 p484 q484
                                          cases e484
                                          replace hx484_0 := (HB.out.cell (World.block_lt_of_cell? w _ hx484_0)).trans hx484_0
                                          replace hx484_1 := (HB.out.cell (World.block_lt_of_cell? w _ hx484_1)).trans hx484_1
                                          replace p484 := eq_true p484
                                          replace q484 := eq_true q484
                                          go_wp2_with (first | ((with_reducible refine gate_dst (N := 12) rfl ?_); refine box_event ?hg (N := 12) ?hd (cs := #[.string (⟨#[]⟩ : ByteArray), .float .f64 0]) (t := 71) ?hr ?_; (case hd => rfl); (case hg => rfl); (case hr => first | (go_simp; done) | (go_simp; rfl)); intro gb485 hg w31 hbox hb; have n0_ := Aside0.mk (Kd.R_below (by (with_reducible repeat (first | apply Kd.R_alloc | apply Kd.R_drewN | apply Kd.R_drew)); exact HO_6.out) hb); have n1_ := Aside0.mk (below_step (by repeat (first | (with_reducible first | exact HB.out | apply below_alloc | apply pw_below_drewN | apply below_drew1) | exact HB.out)) hb); have n2_ := Aside0.mk (hbox); have n3_ := Aside0.mk ((by rw [hg]; exact (below_size (by repeat (first | (with_reducible first | exact HB.out | apply below_alloc | apply pw_below_drewN | apply below_drew1) | exact HB.out))) : w.heap.size ≤ gb485)); have n4_ := Aside0.mk ((by rw [hg]; exact (below_size (by repeat (first | (with_reducible first | exact HB.out | apply below_alloc | apply pw_below_drewN | apply below_drew1) | exact HB.out))) : w.heap.size ≤ gb485)); clear HO_6; clear HB; have HO_6 := n0_; have HB := n1_; have BK485 := n2_; have GW485 := n3_; have GE485 := n4_; clear n0_ n1_ n2_ n3_ n4_; clear hb hbox hg; have hcz32_0 : w31.cell? ⟨gb485, 0, none⟩ = some (.string (⟨#[]⟩ : ByteArray)) := (blk_cell BK485.out 0).trans rfl; have hcz32_1 : w31.cell? ⟨gb485, 1, none⟩ = some (.float .f64 0) := (blk_cell BK485.out 1).trans rfl; have hfz32_0 := blk_frozen BK485.out 0; have hfz32_1 := blk_frozen BK485.out 1) | ((with_reducible refine gate_callee (f := 87) rfl ?_); refine goesL_ (some 53) rfl rfl Tryd.func87 (by kernel_rfl) rfl #[.float .f64 ((rd_T71 l0 x45_3).f1), .float .f64 x7_8] rfl (by (try simp only [List.map_toArray, List.map_cons, List.map_nil]); first | done | rfl | (simp only [List.length_drop, List.length_take]; rfl)) ?_; (with_reducible refine (plane_counts.calls ((rd_T71 l0 x45_3).f1) x7_8 t486 _ A26.out).mono ?_); rintro e w' ⟨rfl, ⟨nd, rfl⟩⟩; refine ⟨_, rfl, ?_⟩; have p487 : 0 ≤ (x45_3 : Int) := of_decide_eq_true (by first | (with_reducible assumption) | assumption); have q487 : x45_3 < (x6_8.length : Int) := of_decide_eq_true (by first | (with_reducible assumption) | assumption); obtain ⟨ad487, e487, hx487_0⟩ := Kd.at_float (Kd.R_reads' HO_6.out).2.2 x45_3 p487 q487; obtain rfl : ad483 = ad487 := (by injection e487); have hn487_0 : ad483.block ≠ gb485 := Kd.own_blk (Kd.R_ne HO_6.out BK485.out (by decide)); have hn487_1 : ad483.block ≠ gb485 := Kd.own_blk (Kd.R_ne HO_6.out BK485.out (by decide)); replace hx487_0 := (cell_far (p := ⟨gb485, 0, none⟩) (by first | (rw [add_block]; exact hn487_0) | (show (Addr.add _ _).block ≠ _; rw [add_block]; exact hn487_0) | exact hn487_0) (.string ((rd_T71 l0 x45_3).f0))).trans hx487_0; replace hx487_0 := (cell_far (p := ⟨gb485, 1, none⟩) (by first | (rw [add_block]; exact hn487_1) | (show (Addr.add _ _).block ≠ _; rw [add_block]; exact hn487_1) | exact hn487_1) (.float .f64 ((rd_T71 l0 x45_3).f1))).trans hx487_0; clear hn487_0; clear hn487_1; replace p487 := eq_true p487; replace q487 := eq_true q487))
                                          go_ret2
                                          exact ⟨by first | rfl | (simp [errW_none, errW_some] <;> rfl) | (simp only [← hji5, ← hji15]; first | rfl | (simp [errW_none, errW_some] <;> rfl)) | (simp [*, errW_none, errW_some] <;> rfl), by repeat (first | (with_reducible first | exact HB.out | apply below_alloc | apply pw_below_drewN | apply below_drew1 | refine below_set ?_ GE485.out) | exact HB.out)⟩
                                        · rw [if_neg c30] at H
                                          have c30b0 : (flss (fmul x1_18 (rdOf 0 x6_8 (ji15))) (rdOf 0 x6_8 x45_3)) = false := by simpa using c30
                                          clear c30
                                          have H' := Aside0.mk H
                                          clear H
                                          have p484 : 0 ≤ (x45_3 : Int) := of_decide_eq_true (by first | (with_reducible assumption) | assumption)
                                          have q484 : x45_3 < (l0.length : Int) := of_decide_eq_true (by first | (with_reducible assumption) | assumption)
                                          obtain ⟨ad484, e484, hx484_0, hx484_1⟩ := at_T71 HR0.out x45_3 p484 q484
                                          cases e484
                                          replace hx484_0 := (HB.out.cell (World.block_lt_of_cell? w _ hx484_0)).trans hx484_0
                                          replace hx484_1 := (HB.out.cell (World.block_lt_of_cell? w _ hx484_1)).trans hx484_1
                                          replace p484 := eq_true p484
                                          replace q484 := eq_true q484
                                          go_wp2_with (first | ((with_reducible refine gate_dst (N := 12) rfl ?_); refine box_event ?hg (N := 12) ?hd (cs := #[.string (⟨#[]⟩ : ByteArray), .float .f64 0]) (t := 71) ?hr ?_; (case hd => rfl); (case hg => rfl); (case hr => first | (go_simp; done) | (go_simp; rfl)); intro gb485 hg w33 hbox hb; have n0_ := Aside0.mk (Kd.R_below (by (with_reducible repeat (first | apply Kd.R_alloc | apply Kd.R_drewN | apply Kd.R_drew)); exact HO_6.out) hb); have n1_ := Aside0.mk (below_step (by repeat (first | (with_reducible first | exact HB.out | apply below_alloc | apply pw_below_drewN | apply below_drew1) | exact HB.out)) hb); have n2_ := Aside0.mk (hbox); have n3_ := Aside0.mk ((by rw [hg]; exact (below_size (by repeat (first | (with_reducible first | exact HB.out | apply below_alloc | apply pw_below_drewN | apply below_drew1) | exact HB.out))) : w.heap.size ≤ gb485)); have n4_ := Aside0.mk ((by rw [hg]; exact (below_size (by repeat (first | (with_reducible first | exact HB.out | apply below_alloc | apply pw_below_drewN | apply below_drew1) | exact HB.out))) : w.heap.size ≤ gb485)); clear HO_6; clear HB; have HO_6 := n0_; have HB := n1_; have BK485 := n2_; have GW485 := n3_; have GE485 := n4_; clear n0_ n1_ n2_ n3_ n4_; clear hb hbox hg; have hcz34_0 : w33.cell? ⟨gb485, 0, none⟩ = some (.string (⟨#[]⟩ : ByteArray)) := (blk_cell BK485.out 0).trans rfl; have hcz34_1 : w33.cell? ⟨gb485, 1, none⟩ = some (.float .f64 0) := (blk_cell BK485.out 1).trans rfl; have hfz34_0 := blk_frozen BK485.out 0; have hfz34_1 := blk_frozen BK485.out 1) | ((with_reducible refine gate_callee (f := 87) rfl ?_); refine goesL_ (some 53) rfl rfl Tryd.func87 (by kernel_rfl) rfl #[.float .f64 ((rd_T71 l0 x45_3).f1), .float .f64 x7_8] rfl (by (try simp only [List.map_toArray, List.map_cons, List.map_nil]); first | done | rfl | (simp only [List.length_drop, List.length_take]; rfl)) ?_; (with_reducible refine (plane_counts.calls ((rd_T71 l0 x45_3).f1) x7_8 t486 _ A26.out).mono ?_); rintro e w' ⟨rfl, ⟨nd, rfl⟩⟩; refine ⟨_, rfl, ?_⟩; have p487 : 0 ≤ (x45_3 : Int) := of_decide_eq_true (by first | (with_reducible assumption) | assumption); have q487 : x45_3 < (x6_8.length : Int) := of_decide_eq_true (by first | (with_reducible assumption) | assumption); obtain ⟨ad487, e487, hx487_0⟩ := Kd.at_float (Kd.R_reads' HO_6.out).2.2 x45_3 p487 q487; obtain rfl : ad483 = ad487 := (by injection e487); have hn487_0 : ad483.block ≠ gb485 := Kd.own_blk (Kd.R_ne HO_6.out BK485.out (by decide)); have hn487_1 : ad483.block ≠ gb485 := Kd.own_blk (Kd.R_ne HO_6.out BK485.out (by decide)); replace hx487_0 := (cell_far (p := ⟨gb485, 0, none⟩) (by first | (rw [add_block]; exact hn487_0) | (show (Addr.add _ _).block ≠ _; rw [add_block]; exact hn487_0) | exact hn487_0) (.string ((rd_T71 l0 x45_3).f0))).trans hx487_0; replace hx487_0 := (cell_far (p := ⟨gb485, 1, none⟩) (by first | (rw [add_block]; exact hn487_1) | (show (Addr.add _ _).block ≠ _; rw [add_block]; exact hn487_1) | exact hn487_1) (.float .f64 ((rd_T71 l0 x45_3).f1))).trans hx487_0; clear hn487_0; clear hn487_1; replace p487 := eq_true p487; replace q487 := eq_true q487))
                                          go_roundg k3
                                          case measure => have := HJ8.out; have := HJ18.out; have := HK3.out; omega
                                          case rel => exact ⟨(x45_3), (wrap64 (x45_3 + 1)), (by first | rfl | (simp; done) | (simp [*]; done)), (by first | rfl | (simp; done) | (simp [*]; done)), H', ⟨by have := HJ8.out; have := HJ18.out; have := HK3.out; omega⟩, ⟨by (with_reducible repeat (first | apply Kd.R_alloc | apply Kd.R_drewN | apply Kd.R_drew)); exact Kd.R_mono (Kd.R_far (p := ⟨gb485, 1, none⟩) (Kd.R_far (p := ⟨gb485, 0, none⟩) (Kd.R_types HO_6.out BK485.out (by decide)) (fun _ hk => hk.2) (.string ((rd_T71 l0 x45_3).f0))) (fun _ hk => hk.2) (.float .f64 ((rd_T71 l0 x45_3).f1))) (fun _ hk => trivial)⟩, ⟨by repeat (first | (with_reducible first | exact HB.out | apply below_alloc | apply pw_below_drewN | apply below_drew1 | refine below_set ?_ GE485.out) | exact HB.out)⟩⟩
                                      · rw [if_neg c29] at H
                                        exact absurd H (by simp)
                                    · rw [if_neg c28] at H
                                      have c28b0 : (flss x1_18 4607182418800017408) = false := by simpa using c28
                                      clear c28
                                      have H' := Aside0.mk H
                                      clear H
                                      have p484 : 0 ≤ (x45_3 : Int) := of_decide_eq_true (by first | (with_reducible assumption) | assumption)
                                      have q484 : x45_3 < (l0.length : Int) := of_decide_eq_true (by first | (with_reducible assumption) | assumption)
                                      obtain ⟨ad484, e484, hx484_0, hx484_1⟩ := at_T71 HR0.out x45_3 p484 q484
                                      cases e484
                                      replace hx484_0 := (HB.out.cell (World.block_lt_of_cell? w _ hx484_0)).trans hx484_0
                                      replace hx484_1 := (HB.out.cell (World.block_lt_of_cell? w _ hx484_1)).trans hx484_1
                                      replace p484 := eq_true p484
                                      replace q484 := eq_true q484
                                      go_wp2_with (first | ((with_reducible refine gate_dst (N := 12) rfl ?_); refine box_event ?hg (N := 12) ?hd (cs := #[.string (⟨#[]⟩ : ByteArray), .float .f64 0]) (t := 71) ?hr ?_; (case hd => rfl); (case hg => rfl); (case hr => first | (go_simp; done) | (go_simp; rfl)); intro gb485 hg w35 hbox hb; have n0_ := Aside0.mk (Kd.R_below (by (with_reducible repeat (first | apply Kd.R_alloc | apply Kd.R_drewN | apply Kd.R_drew)); exact HO_6.out) hb); have n1_ := Aside0.mk (below_step (by repeat (first | (with_reducible first | exact HB.out | apply below_alloc | apply pw_below_drewN | apply below_drew1) | exact HB.out)) hb); have n2_ := Aside0.mk (hbox); have n3_ := Aside0.mk ((by rw [hg]; exact (below_size (by repeat (first | (with_reducible first | exact HB.out | apply below_alloc | apply pw_below_drewN | apply below_drew1) | exact HB.out))) : w.heap.size ≤ gb485)); have n4_ := Aside0.mk ((by rw [hg]; exact (below_size (by repeat (first | (with_reducible first | exact HB.out | apply below_alloc | apply pw_below_drewN | apply below_drew1) | exact HB.out))) : w.heap.size ≤ gb485)); clear HO_6; clear HB; have HO_6 := n0_; have HB := n1_; have BK485 := n2_; have GW485 := n3_; have GE485 := n4_; clear n0_ n1_ n2_ n3_ n4_; clear hb hbox hg; have hcz36_0 : w35.cell? ⟨gb485, 0, none⟩ = some (.string (⟨#[]⟩ : ByteArray)) := (blk_cell BK485.out 0).trans rfl; have hcz36_1 : w35.cell? ⟨gb485, 1, none⟩ = some (.float .f64 0) := (blk_cell BK485.out 1).trans rfl; have hfz36_0 := blk_frozen BK485.out 0; have hfz36_1 := blk_frozen BK485.out 1) | ((with_reducible refine gate_callee (f := 87) rfl ?_); refine goesL_ (some 53) rfl rfl Tryd.func87 (by kernel_rfl) rfl #[.float .f64 ((rd_T71 l0 x45_3).f1), .float .f64 x7_8] rfl (by (try simp only [List.map_toArray, List.map_cons, List.map_nil]); first | done | rfl | (simp only [List.length_drop, List.length_take]; rfl)) ?_; (with_reducible refine (plane_counts.calls ((rd_T71 l0 x45_3).f1) x7_8 t486 _ A26.out).mono ?_); rintro e w' ⟨rfl, ⟨nd, rfl⟩⟩; refine ⟨_, rfl, ?_⟩))
                                      go_roundg k3
                                      case measure => have := HJ8.out; have := HJ18.out; have := HK3.out; omega
                                      case rel => exact ⟨(x45_3), (wrap64 (x45_3 + 1)), (by first | rfl | (simp; done) | (simp [*]; done)), (by first | rfl | (simp; done) | (simp [*]; done)), H', ⟨by have := HJ8.out; have := HJ18.out; have := HK3.out; omega⟩, ⟨by (with_reducible repeat (first | apply Kd.R_alloc | apply Kd.R_drewN | apply Kd.R_drew)); exact Kd.R_mono (Kd.R_far (p := ⟨gb485, 1, none⟩) (Kd.R_far (p := ⟨gb485, 0, none⟩) (Kd.R_types HO_6.out BK485.out (by decide)) (fun _ hk => hk.2) (.string ((rd_T71 l0 x45_3).f0))) (fun _ hk => hk.2) (.float .f64 ((rd_T71 l0 x45_3).f1))) (fun _ hk => trivial)⟩, ⟨by repeat (first | (with_reducible first | exact HB.out | apply below_alloc | apply pw_below_drewN | apply below_drew1 | refine below_set ?_ GE485.out) | exact HB.out)⟩⟩
                                  · rw [if_neg c27] at H
                                    have c27b0 : (fgtr t486 0) = false := by simpa using c27
                                    clear c27
                                    have H' := Aside0.mk H
                                    clear H
                                    have p484 : 0 ≤ (x45_3 : Int) := of_decide_eq_true (by first | (with_reducible assumption) | assumption)
                                    have q484 : x45_3 < (l0.length : Int) := of_decide_eq_true (by first | (with_reducible assumption) | assumption)
                                    obtain ⟨ad484, e484, hx484_0, hx484_1⟩ := at_T71 HR0.out x45_3 p484 q484
                                    cases e484
                                    replace hx484_0 := (HB.out.cell (World.block_lt_of_cell? w _ hx484_0)).trans hx484_0
                                    replace hx484_1 := (HB.out.cell (World.block_lt_of_cell? w _ hx484_1)).trans hx484_1
                                    replace p484 := eq_true p484
                                    replace q484 := eq_true q484
                                    go_wp2_with (first | ((with_reducible refine gate_dst (N := 12) rfl ?_); refine box_event ?hg (N := 12) ?hd (cs := #[.string (⟨#[]⟩ : ByteArray), .float .f64 0]) (t := 71) ?hr ?_; (case hd => rfl); (case hg => rfl); (case hr => first | (go_simp; done) | (go_simp; rfl)); intro gb485 hg w37 hbox hb; have n0_ := Aside0.mk (Kd.R_below (by (with_reducible repeat (first | apply Kd.R_alloc | apply Kd.R_drewN | apply Kd.R_drew)); exact HO_6.out) hb); have n1_ := Aside0.mk (below_step (by repeat (first | (with_reducible first | exact HB.out | apply below_alloc | apply pw_below_drewN | apply below_drew1) | exact HB.out)) hb); have n2_ := Aside0.mk (hbox); have n3_ := Aside0.mk ((by rw [hg]; exact (below_size (by repeat (first | (with_reducible first | exact HB.out | apply below_alloc | apply pw_below_drewN | apply below_drew1) | exact HB.out))) : w.heap.size ≤ gb485)); have n4_ := Aside0.mk ((by rw [hg]; exact (below_size (by repeat (first | (with_reducible first | exact HB.out | apply below_alloc | apply pw_below_drewN | apply below_drew1) | exact HB.out))) : w.heap.size ≤ gb485)); clear HO_6; clear HB; have HO_6 := n0_; have HB := n1_; have BK485 := n2_; have GW485 := n3_; have GE485 := n4_; clear n0_ n1_ n2_ n3_ n4_; clear hb hbox hg; have hcz38_0 : w37.cell? ⟨gb485, 0, none⟩ = some (.string (⟨#[]⟩ : ByteArray)) := (blk_cell BK485.out 0).trans rfl; have hcz38_1 : w37.cell? ⟨gb485, 1, none⟩ = some (.float .f64 0) := (blk_cell BK485.out 1).trans rfl; have hfz38_0 := blk_frozen BK485.out 0; have hfz38_1 := blk_frozen BK485.out 1) | ((with_reducible refine gate_callee (f := 87) rfl ?_); refine goesL_ (some 53) rfl rfl Tryd.func87 (by kernel_rfl) rfl #[.float .f64 ((rd_T71 l0 x45_3).f1), .float .f64 x7_8] rfl (by (try simp only [List.map_toArray, List.map_cons, List.map_nil]); first | done | rfl | (simp only [List.length_drop, List.length_take]; rfl)) ?_; (with_reducible refine (plane_counts.calls ((rd_T71 l0 x45_3).f1) x7_8 t486 _ A26.out).mono ?_); rintro e w' ⟨rfl, ⟨nd, rfl⟩⟩; refine ⟨_, rfl, ?_⟩))
                                    go_roundg k3
                                    case measure => have := HJ8.out; have := HJ18.out; have := HK3.out; omega
                                    case rel => exact ⟨(x9_3), (wrap64 (x45_3 + 1)), (by first | rfl | (simp; done) | (simp [*]; done)), (by first | rfl | (simp; done) | (simp [*]; done)), H', ⟨by have := HJ8.out; have := HJ18.out; have := HK3.out; omega⟩, ⟨by (with_reducible repeat (first | apply Kd.R_alloc | apply Kd.R_drewN | apply Kd.R_drew)); exact Kd.R_mono (Kd.R_far (p := ⟨gb485, 1, none⟩) (Kd.R_far (p := ⟨gb485, 0, none⟩) (Kd.R_types HO_6.out BK485.out (by decide)) (fun _ hk => hk.2) (.string ((rd_T71 l0 x45_3).f0))) (fun _ hk => hk.2) (.float .f64 ((rd_T71 l0 x45_3).f1))) (fun _ hk => trivial)⟩, ⟨by repeat (first | (with_reducible first | exact HB.out | apply below_alloc | apply pw_below_drewN | apply below_drew1 | refine below_set ?_ GE485.out) | exact HB.out)⟩⟩
                                · rw [if_neg c25] at H
                                  exact absurd H (by simp)
                              · rw [if_neg c24] at H
                                exact absurd H (by simp)
                            · rw [if_neg c23] at H
                              have c23b0 : decide (x45_3 < (l0.length : Int)) = false := decide_eq_false c23
                              clear c23
                              simp only [Option.some.injEq, Prod.mk.injEq] at H
                              obtain ⟨rfl, rfl⟩ := H
                              go_wp2
                              go_ret2
                              exact ⟨by first | rfl | (simp [errW_none, errW_some] <;> rfl) | (simp only [← hji5, ← hji15]; first | rfl | (simp [errW_none, errW_some] <;> rfl)) | (simp [*, errW_none, errW_some] <;> rfl), by repeat (first | (with_reducible first | exact HB.out | apply below_alloc | apply pw_below_drewN | apply below_drew1) | exact HB.out)⟩
                      · rw [if_neg c22] at H
                        exact absurd H (by simp)
                · rw [if_neg c18] at H
                  have c18b0 : (fgtr (rdOf 0 x6_8 (ji15)) 0) = false := by simpa using c18
                  clear c18
                  simp only [Option.some.injEq, Prod.mk.injEq] at H
                  obtain ⟨rfl, rfl⟩ := H
                  obtain ⟨Ao39, co39, eo39⟩ := Kd.R_slice HO_6.out
                  subst eo39
                  have p483 : 0 ≤ ((ji15) : Int) := of_decide_eq_true (by first | (with_reducible assumption) | assumption)
                  have q483 : (ji15) < (x6_8.length : Int) := of_decide_eq_true (by first | (with_reducible assumption) | assumption)
                  obtain ⟨ad483, e483, hx483_0⟩ := Kd.at_float (Kd.R_reads' HO_6.out).2.2 (ji15) p483 q483
                  cases e483
                  replace p483 := eq_true p483
                  replace q483 := eq_true q483
                  go_wp2
                  go_ret2
                  exact ⟨by first | rfl | (simp [errW_none, errW_some] <;> rfl) | (simp only [← hji5, ← hji15]; first | rfl | (simp [errW_none, errW_some] <;> rfl)) | (simp [*, errW_none, errW_some] <;> rfl), by repeat (first | (with_reducible first | exact HB.out | apply below_alloc | apply pw_below_drewN | apply below_drew1) | exact HB.out)⟩
              · rw [if_neg c17] at H
                exact absurd H (by simp)
            · rw [if_neg c16] at H
              exact absurd H (by simp)
      · rw [if_neg c7] at H
        exact absurd H (by simp)
    · rw [if_neg c6] at H
      exact absurd H (by simp)

end Go.Proofs.YtlknaikdlkobjaaDoor.Q
