-- Laid by lay.py, a program of this session's, out of the translation (the kit's printer with additions of ours). Lean checks it.
import Derived.Test.YtpjcamdligelmaaQx0
import Derived.Test.YtpjcamdligelmaaQx2
import Derived.Test.YtpjcamdligelmaaQx4
import Derived.Test.YtpjcamdligelmaaQx6
namespace Go.Proofs.Ytpjcamdligelmaa.Q
open Go.RowKit Go.Proofs.YtpjcamdligelmaaW.PrintWords Go.Proofs.YtpjcamdligelmaaW.PrintLast Go.Proofs.YtpjcamdligelmaaW.PrintMore
attribute [local go_sem] max2_int min2_int max_two min_two max_three min_three max_four min_four   -- for this text's walks alone
set_option linter.unusedVariables false
set_option linter.unusedSimpArgs false

/-! ### tollgatelaw01_live: function 15 -/
theorem const_reads (w : World) (l : List Int) (e : TypeId) (fr : Nat × Nat) (hl : l.length ≤ 9223372036854775807) : Kd.C (Kd.int .u8) (w.alloc (.cells (nums .u8 l).toArray e fr)) (some ⟨w.heap.size, 0, none⟩) l.length l :=
  Kd.C_of_reads (d := (0 : Int)) (h1 := fun _ => rfl) ⟨rfl, hl, fun _ => ⟨_, rfl, fun j hj => by
    rw [add_plain, World.cell?_alloc_mark]
    simp [nums, List.getElem?_eq_getElem hj, List.getD_eq_getElem?_getD]⟩⟩
theorem live_frame : frameBytes [97, 98] = [0, 0, 0, 2, 109, 28, 47, 95, 97, 98] := by decide +kernel
theorem live_next : nextOf [0, 0, 0, 2, 109, 28, 47, 95, 97, 98] 0 = ([97, 98], 10, 0) := by decide +kernel
theorem live_sum : fextend 0 [49, 50, 51, 52, 53, 54, 55, 56, 57] = 3421780262 := by decide +kernel
set_option maxHeartbeats 2000000 in
theorem live_walk (ks : Nat) (hs : frame_Sum.f ks [49, 50, 51, 52, 53, 54, 55, 56, 57] = some 3421780262) (w : World) :
    Calls Try.prog 15 #[] w fun e w' => e = .returned (.bool true) ∧ Below w.heap.size w w' := by
  have kc := fun (w : World) (C : Array Value) (n c : Nat) => Lib.run_convert_bytes_const (P := Try.prog) w 23 5 C n c Try.underlying23 Try.underlying5
  have HS := Aside0.mk hs
  clear hs
  go_enter Try.func15, Try.ntmps15
  go_wp2_with fail
  refine (frame_Frame.calls _ 2 [97, 98] (frameBytes [97, 98]) 0 _ (const_reads w [97, 98] 5 (2, 3) (by simp)) (by simp) (by decide +kernel)).mono ?_
  rintro e w1 ⟨v1, rfl, ho1, hb1⟩
  rw [live_frame] at ho1
  have HB1 := Aside0.mk (below_step (below_alloc (Below.refl w.heap.size w) (.cells (nums .u8 [97, 98]).toArray 5 (2, 3))) hb1)
  have HO1 := Aside0.mk ho1
  clear ho1 hb1
  obtain ⟨A1, cp1, rfl⟩ := Kd.R_slice HO1.out
  go_wp2_with fail
  refine (frame_Next.calls A1 cp1 [0, 0, 0, 2, 109, 28, 47, 95, 97, 98] 0 [97, 98] 10 0 _ (Kd.R_reads' HO1.out).2.2 (Kd.R_reads' HO1.out).2.1 (by decide +kernel)).mono ?_
  rintro e w2 ⟨v2, rfl, ho2, hb2⟩
  have HB2 := Aside0.mk (below_step HB1.out hb2)
  have HO2 := Aside0.mk ho2
  clear ho2 hb2 HO1 HB1
  obtain ⟨A2, cp2, rfl⟩ := Kd.R_slice HO2.out
  go_wp2_with fail
  refine (frame_Sum.calls ks _ 9 [49, 50, 51, 52, 53, 54, 55, 56, 57] 3421780262 _ (const_reads w2 [49, 50, 51, 52, 53, 54, 55, 56, 57] 5 (9, 10) (by simp)) (by simp) HS.out).mono ?_
  rintro e w3 ⟨rfl, hd3⟩
  have HO3 := Aside0.mk (Kd.R_below (Kd.R_alloc HO2.out (.cells (nums .u8 [49, 50, 51, 52, 53, 54, 55, 56, 57]).toArray 5 (9, 10))) hd3.below)
  have HB3 := Aside0.mk (below_step (below_alloc HB2.out (.cells (nums .u8 [49, 50, 51, 52, 53, 54, 55, 56, 57]).toArray 5 (9, 10))) hd3.below)
  clear hd3 HO2 HB2
  have hcv : (convert 23 9 (.slice A2 2 cp2)).run Try.prog w3 = .ok (.string ⟨#[97, 98]⟩) w3 := own_string (P := Try.prog) Try.underlying23 Try.underlying5 Try.underlying9 (Kd.own_of_R HO3.out)
  go_wp2
  go_ret
  exact ⟨rfl, HB3.out⟩
def tollgatelaw01_live.f : Option Bool := some true
theorem tollgatelaw01_live.calls (r : Bool) (w : World) (h : tollgatelaw01_live.f = some r) :
    Calls Try.prog 15 #[] w fun e w' => e = .returned (.bool r) ∧ Below w.heap.size w w' := by
  obtain rfl : true = r := Option.some.inj h
  obtain ⟨K, hK⟩ := Sum_is [49, 50, 51, 52, 53, 54, 55, 56, 57] (by simp) (by intro x hx; simp at hx; omega)
  exact live_walk K (by rw [← live_sum]; exact hK K (Nat.le_refl _)) w


end Go.Proofs.Ytpjcamdligelmaa.Q
