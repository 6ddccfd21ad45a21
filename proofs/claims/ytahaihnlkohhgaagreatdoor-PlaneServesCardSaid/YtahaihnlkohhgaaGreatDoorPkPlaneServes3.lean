/- Walks and plain facts, joined out of several texts: what the row of PlaneServes leads to. -/
import Derived.Test.YtahaihnlkohhgaaGreatDoorPkPlaneServes2
section
namespace Go.Proofs.YtahaihnlkohhgaaGreatDoor.S
open Go.RowKit Go.Proofs.YtahaihnlkohhgaaGreatDoorW.PrintWords Go.Proofs.YtahaihnlkohhgaaGreatDoorW.PrintLast Go.Proofs.YtahaihnlkohhgaaGreatDoorW.PrintMore
attribute [local go_sem] max2_int min2_int max_two min_two max_three min_three max_four min_four
attribute [local go_sem] fbin_eql fbin_neq fbin_lss fbin_leq fbin_gtr fbin_geq frun_add frun_sub frun_mul frun_quo frun_store fun_neg fcv_int fcv_same fb41 fb85
set_option linter.unusedVariables false
set_option linter.unusedSimpArgs false
def tollgateref09_Lower.l0 : Nat → ByteArray → List Int → Int → Option (ByteArray)
 | 0, _, _, _ => none
 | k + 1, x0, x3, x4 => if x4 < (x0.size : Int) then (if 0 ≤ x4 then (if (bt x0 x4) ≥ 65 then (if (bt x0 x4) ≤ 90 then (if x3.length < 140737488355328 then (tollgateref09_Lower.l0 k x0 (x3 ++ [((bt x0 x4) + 32) % 256]) (wrap64 (x4 + 1))) else (none)) else (if x3.length < 140737488355328 then (tollgateref09_Lower.l0 k x0 (x3 ++ [bt x0 x4]) (wrap64 (x4 + 1))) else (none))) else (if x3.length < 140737488355328 then (tollgateref09_Lower.l0 k x0 (x3 ++ [bt x0 x4]) (wrap64 (x4 + 1))) else (none))) else (none)) else (some (strOfNums x3))
def tollgateref09_Lower.f (k : Nat) (a0 : ByteArray) : Option (ByteArray) := tollgateref09_Lower.l0 k a0 (([] : List Int)) 0
theorem tollgateref09_Lower.mono_l : ∀ k, (∀ y0 y1 y2, LeO (tollgateref09_Lower.l0 k y0 y1 y2) (tollgateref09_Lower.l0 (k + 1) y0 y1 y2))
 | 0 => fun _ _ _ r h => by simp [tollgateref09_Lower.l0] at h
 | k + 1 => by
  have ih0 := tollgateref09_Lower.mono_l k;intro y0 y1 y2;unfold tollgateref09_Lower.l0
  repeat' with_reducible first | exact ih0 _ _ _ | exact LeO.refl _ | exact LeO.none _ | refine LeO.ite ?_ ?_ | refine LeO.bind ?_ (fun _ => ?_)
theorem tollgateref09_Lower.mono : ∀ a0 k, LeO (tollgateref09_Lower.f k a0) (tollgateref09_Lower.f (k + 1) a0) := by
 intro a0 k;have ih0 := tollgateref09_Lower.mono_l k;unfold tollgateref09_Lower.f
 repeat' with_reducible first | exact ih0 _ _ _ | exact LeO.refl _ | exact LeO.none _ | refine LeO.ite ?_ ?_ | refine LeO.bind ?_ (fun _ => ?_)
set_option maxHeartbeats 8000000 in
set_option maxRecDepth 100000 in
theorem tollgateref09_Lower.calls (k : Nat) (a0 : ByteArray) (r : ByteArray) (w : World) (h : tollgateref09_Lower.f k a0 = some r) :
  Calls Tryz.prog 36 #[.string a0] w fun e w' => e = .returned (.string r) ∧ Below w.heap.size w w' := by
 have HB := zN (Below.refl w.heap.size w);have H : (tollgateref09_Lower.l0 k a0 (([] : List Int)) 0) = some r := h;clear h;obtain ⟨y139, hy139⟩ : ∃ y_ : List Int, y_ = (([] : List Int)) := ⟨_, rfl⟩;replace H : (tollgateref09_Lower.l0 k a0 y139 0) = some r := by first | (rw [hy139]; with_reducible exact H) | (have H2_ := (Option.bind_some _ _).symm.trans H; rw [hy139]; with_reducible exact H2_) | (have H2_ := (Option.bind_some _ _).symm.trans H; with_reducible exact H2_) | with_reducible exact H | (rw [hy139]; exact H) | exact H
 have Ny139 := zN hy139;clear hy139;have H' := zN H;clear H;go_enter Tryz.func36, Tryz.ntmps36;go_wp2_with (first | ((with_reducible refine gate_dst (N := 6) rfl ?_); refine Kd.R_lit (Kd.int .u8) _ 5 ?hg (N := 6) ?hd (xs := ([] : List Int)) (inner := []) (ok := fun _ => True) (okp := fun _ => True) ?hr ?hp (fun _ hk => hk) trivial (Below.refl _ _) (zh _) (by simp) ?_; (case hd => rfl); (case hg => rfl); (case hr => first | (go_simp; done) | (go_simp; rfl)); (case hp => exact (Reps.none _ _)); intro v140 w2 ho3 hb hg_ hnew_; clear hg_ hnew_; (first | rw [← Ny139.out] at ho3 | (simp only [Int.reduceToNat] at ho3; rw [← Ny139.out] at ho3)); have HO141 := zN (Kd.R_lower ho3 (below_size (zB HB))); replace HB := zk HB hb; clear hb ho3));go_loopg [3, 4] k (fun kq v3 v4 w' => ∃ (x3_1 : List Int) (x4_1 : Int), v4 = .int .i64 x4_1 ∧ Aside0 (tollgateref09_Lower.l0 kq a0 x3_1 x4_1 = some r) ∧ Aside0 (kq ≤ k) ∧ Aside0 (Kd.R (Kd.int .u8) 5 w' w.heap.size (fun _ => True) v3 x3_1) ∧ Aside0 (Below w.heap.size w w'))
 case atStart => exact ⟨(y139), (0), zI, H', ⟨zh _⟩, ⟨zR HO141⟩, ⟨zB HB⟩⟩
 case round =>
  clear H';obtain ⟨x3_1, x4_1, rfl, HA, HK1, HO_3, HB⟩ := hrel;cases gk with
  | zero => exact absurd HA.out (by simp [tollgateref09_Lower.l0])
  | succ k1 =>
   have H := HA.out;clear HA;simp only [tollgateref09_Lower.l0] at H;by_cases c4 : x4_1 < (a0.size : Int);rotate_left
   ·rw [zn c4] at H;have c4b0 := zf c4;clear c4;obtain rfl := zo H;have hcv15 := own_string (P := Tryz.prog) Tryz.underlying29 Tryz.underlying5 Tryz.underlying9 (Kd.own_of_R HO_3.out);go_wp2;go_ret;exact ⟨zE, zB HB⟩
   rw [zp c4] at H;have c4b0 := zt c4;clear c4;by_cases c5 : 0 ≤ x4_1;rotate_left
   ·rw [zn c5] at H;exact absurd H (by simp)
   rw [zp c5] at H;have c5b0 := zt c5;clear c5;by_cases c7 : (bt a0 x4_1) ≥ 65;rotate_left
   ·rw [zn c7] at H;have c7b0 : decide (65 ≤ (bt a0 x4_1)) = false := zf c7;clear c7;by_cases c13 : x3_1.length < 140737488355328;rotate_left
    ·rw [zn c13] at H;exact absurd H (by simp)
    rw [zp c13] at H;have LMc13 := zN c13;clear c13;obtain ⟨y148, hy148⟩ : ∃ y_ : List Int, y_ = (x3_1 ++ [bt a0 x4_1]) := ⟨_, rfl⟩;replace H : (tollgateref09_Lower.l0 k1 a0 y148 (wrap64 (x4_1 + 1))) = some r := by first | (rw [hy148]; with_reducible exact H) | (have H2_ := (Option.bind_some _ _).symm.trans H; rw [hy148]; with_reducible exact H2_) | (have H2_ := (Option.bind_some _ _).symm.trans H; with_reducible exact H2_) | with_reducible exact H | (rw [hy148]; exact H) | exact H
    have Ny148 := zN hy148;clear hy148;have H' := zN H;clear H;have p6 : 0 ≤ (x4_1 : Int) := zd zS;have q6 : x4_1 < (a0.size : Int) := zd zS;have hx6 := bt_at a0 x4_1;replace p6 := zu p6;replace q6 := zu q6;go_wp2_with (first | ((with_reducible refine gate_builtin (b := .append) (xs := #[.tmp 24, .tmp 26]) rfl ?_); at_builtin; refine Kd.R_append (Kd.int .u8) (w0 := w) w.heap.size rfl (.tmp 24) (.tmp 26) 29 5 (.int .u8 0) 1 rfl Tryz.underlying29 info5 rfl (by decide) zO u3 x3_1 (bt a0 x4_1) [.int .u8 (bt a0 x4_1)] (fun _ => True) (fun _ => False) rfl rfl ?aP (fun _ hk => hk.elim) ?aF ?aO ?aB ?aS ?aL ?_; (case aP => exact rfl); (case aB => exact (zB HB)); (case aF => exact (fun _ _ => trivial)); (case aO => exact (zR HO_3)); (case aS => exact (below_size (zB HB))); (case aL => have := LMc13.out; omega); intro v149 w14 ho hb hg hat; rw [← Ny148.out] at ho; replace HB := zN hb; have HO150 := zN ho; clear HO_3; clear ho hb hg hat));go_roundg k1
    case measure => have := HK1.out; omega
    case rel => exact ⟨(y148), (wrap64 (x4_1 + 1)), zI, H', ⟨by have := HK1.out; omega⟩, ⟨zR HO150⟩, ⟨zB HB⟩⟩
   rw [zp c7] at H;have c7b0 : decide (65 ≤ (bt a0 x4_1)) = true := zt c7;clear c7;by_cases c8 : (bt a0 x4_1) ≤ 90
   ·rw [zp c8] at H;have c8b0 := zt c8;clear c8;by_cases c9 : x3_1.length < 140737488355328;rotate_left
    ·rw [zn c9] at H;exact absurd H (by simp)
    rw [zp c9] at H;have LMc9 := zN c9;clear c9;obtain ⟨y142, hy142⟩ : ∃ y_ : List Int, y_ = (x3_1 ++ [((bt a0 x4_1) + 32) % 256]) := ⟨_, rfl⟩;replace H : (tollgateref09_Lower.l0 k1 a0 y142 (wrap64 (x4_1 + 1))) = some r := by first | (rw [hy142]; with_reducible exact H) | (have H2_ := (Option.bind_some _ _).symm.trans H; rw [hy142]; with_reducible exact H2_) | (have H2_ := (Option.bind_some _ _).symm.trans H; with_reducible exact H2_) | with_reducible exact H | (rw [hy142]; exact H) | exact H
    have Ny142 := zN hy142;clear hy142;have H' := zN H;clear H;have p6 : 0 ≤ (x4_1 : Int) := zd zS;have q6 : x4_1 < (a0.size : Int) := zd zS;have hx6 := bt_at a0 x4_1;replace p6 := zu p6;replace q6 := zu q6;go_wp2_with (first | ((with_reducible refine gate_builtin (b := .append) (xs := #[.tmp 24, .tmp 26]) rfl ?_); at_builtin; refine Kd.R_append (Kd.int .u8) (w0 := w) w.heap.size rfl (.tmp 24) (.tmp 26) 29 5 (.int .u8 0) 1 rfl Tryz.underlying29 info5 rfl (by decide) zO u3 x3_1 (((bt a0 x4_1) + 32) % 256) [.int .u8 (((bt a0 x4_1) + 32) % 256)] (fun _ => True) (fun _ => False) rfl rfl ?aP (fun _ hk => hk.elim) ?aF ?aO ?aB ?aS ?aL ?_; (case aP => exact rfl); (case aB => exact (zB HB)); (case aF => exact (fun _ _ => trivial)); (case aO => exact (zR HO_3)); (case aS => exact (below_size (zB HB))); (case aL => have := LMc9.out; omega); intro v143 w10 ho hb hg hat; rw [← Ny142.out] at ho; replace HB := zN hb; have HO144 := zN ho; clear HO_3; clear ho hb hg hat));go_roundg k1
    case measure => have := HK1.out; omega
    case rel => exact ⟨(y142), (wrap64 (x4_1 + 1)), zI, H', ⟨by have := HK1.out; omega⟩, ⟨zR HO144⟩, ⟨zB HB⟩⟩
   rw [zn c8] at H;have c8b0 := zf c8;clear c8;by_cases c11 : x3_1.length < 140737488355328;rotate_left
   ·rw [zn c11] at H;exact absurd H (by simp)
   rw [zp c11] at H;have LMc11 := zN c11;clear c11;obtain ⟨y145, hy145⟩ : ∃ y_ : List Int, y_ = (x3_1 ++ [bt a0 x4_1]) := ⟨_, rfl⟩;replace H : (tollgateref09_Lower.l0 k1 a0 y145 (wrap64 (x4_1 + 1))) = some r := by first | (rw [hy145]; with_reducible exact H) | (have H2_ := (Option.bind_some _ _).symm.trans H; rw [hy145]; with_reducible exact H2_) | (have H2_ := (Option.bind_some _ _).symm.trans H; with_reducible exact H2_) | with_reducible exact H | (rw [hy145]; exact H) | exact H
   have Ny145 := zN hy145;clear hy145;have H' := zN H;clear H;have p6 : 0 ≤ (x4_1 : Int) := zd zS;have q6 : x4_1 < (a0.size : Int) := zd zS;have hx6 := bt_at a0 x4_1;replace p6 := zu p6;replace q6 := zu q6;go_wp2_with (first | ((with_reducible refine gate_builtin (b := .append) (xs := #[.tmp 24, .tmp 26]) rfl ?_); at_builtin; refine Kd.R_append (Kd.int .u8) (w0 := w) w.heap.size rfl (.tmp 24) (.tmp 26) 29 5 (.int .u8 0) 1 rfl Tryz.underlying29 info5 rfl (by decide) zO u3 x3_1 (bt a0 x4_1) [.int .u8 (bt a0 x4_1)] (fun _ => True) (fun _ => False) rfl rfl ?aP (fun _ hk => hk.elim) ?aF ?aO ?aB ?aS ?aL ?_; (case aP => exact rfl); (case aB => exact (zB HB)); (case aF => exact (fun _ _ => trivial)); (case aO => exact (zR HO_3)); (case aS => exact (below_size (zB HB))); (case aL => have := LMc11.out; omega); intro v146 w12 ho hb hg hat; rw [← Ny145.out] at ho; replace HB := zN hb; have HO147 := zN ho; clear HO_3; clear ho hb hg hat));go_roundg k1
   case measure => have := HK1.out; omega
   case rel => exact ⟨(y145), (wrap64 (x4_1 + 1)), zI, H', ⟨by have := HK1.out; omega⟩, ⟨zR HO147⟩, ⟨zB HB⟩⟩

mutual
def tollgateref09_Host.j0 : Nat → ByteArray → Bool → Option (ByteArray × Bool)
 | 0, _, _ => none
 | k + 1, x4, x36 => if x36 = true then (some ((⟨#[]⟩ : ByteArray), false)) else (tollgateref09_Host.l0 k x4 0)
def tollgateref09_Host.l0 : Nat → ByteArray → Int → Option (ByteArray × Bool)
 | 0, _, _ => none
 | k + 1, x4, x7 => if x7 < (x4.size : Int) then (if 0 ≤ x7 then (if (bt x4 x7) = 46 then (if x7 = 0 then (some ((⟨#[]⟩ : ByteArray), false)) else (if x7 = (wrap64 ((x4.size : Int) - 1)) then (some ((⟨#[]⟩ : ByteArray), false)) else (if 0 ≤ (wrap64 (x7 - 1)) then (if (wrap64 (x7 - 1)) < (x4.size : Int) then (if (bt x4 (wrap64 (x7 - 1))) = 46 then (some ((⟨#[]⟩ : ByteArray), false)) else (tollgateref09_Host.l0 k x4 (wrap64 (x7 + 1)))) else (none)) else (none)))) else (tollgateref09_Host.l0 k x4 (wrap64 (x7 + 1)))) else (none)) else ((tollgateref09_Lower.f k x4).bind fun t156 => (some (t156, true)))
end
def tollgateref09_Host.f (k : Nat) (a0 : ByteArray) : Option (ByteArray × Bool) := (tollgateref09_cut.f k a0 58).bind fun bt151 => (if (bt151.1.size : Int) < 1 then (tollgateref09_Host.j0 k bt151.1 true) else (if (bt151.1.size : Int) > 64 then (tollgateref09_Host.j0 k bt151.1 true) else (if (bt151.2.1.size : Int) > 5 then (tollgateref09_Host.j0 k bt151.1 true) else ((tollgateref09_all.f k bt151.2.1 (⟨#[48, 49, 50, 51, 52, 53, 54, 55, 56, 57]⟩ : ByteArray)).bind fun t154 => (if t154 = true then ((tollgateref09_all.f k bt151.1 (⟨#[97, 98, 99, 100, 101, 102, 103, 104, 105, 106, 107, 108, 109, 110, 111, 112, 113, 114, 115, 116, 117, 118, 119, 120, 121, 122, 65, 66, 67, 68, 69, 70, 71, 72, 73, 74, 75, 76, 77, 78, 79, 80, 81, 82, 83, 84, 85, 86, 87, 88, 89, 90, 48, 49, 50, 51, 52, 53, 54, 55, 56, 57, 45, 46]⟩ : ByteArray)).bind fun t155 => (tollgateref09_Host.j0 k bt151.1 (!t155))) else (tollgateref09_Host.j0 k bt151.1 true))))))
theorem tollgateref09_Host.mono_l : ∀ k, (∀ y0 y1, LeO (tollgateref09_Host.j0 k y0 y1) (tollgateref09_Host.j0 (k + 1) y0 y1)) ∧ (∀ y0 y1, LeO (tollgateref09_Host.l0 k y0 y1) (tollgateref09_Host.l0 (k + 1) y0 y1))
 | 0 => ⟨fun _ _ r h => by simp [tollgateref09_Host.j0] at h, fun _ _ r h => by simp [tollgateref09_Host.l0] at h⟩
 | k + 1 => by
  obtain ⟨ih0, ih1⟩ := tollgateref09_Host.mono_l k;refine ⟨?_, ?_⟩
  ·intro y0 y1;unfold tollgateref09_Host.j0
   repeat' with_reducible first | exact ih0 _ _ | exact ih1 _ _ | exact tollgateref09_Lower.mono _ _ | exact tollgateref09_all.mono _ _ _ | exact tollgateref09_cut.mono _ _ _ | exact LeO.refl _ | exact LeO.none _ | refine LeO.ite ?_ ?_ | refine LeO.bind ?_ (fun _ => ?_)
  intro y0 y1;unfold tollgateref09_Host.l0
  repeat' with_reducible first | exact ih0 _ _ | exact ih1 _ _ | exact tollgateref09_Lower.mono _ _ | exact tollgateref09_all.mono _ _ _ | exact tollgateref09_cut.mono _ _ _ | exact LeO.refl _ | exact LeO.none _ | refine LeO.ite ?_ ?_ | refine LeO.bind ?_ (fun _ => ?_)
theorem tollgateref09_Host.mono : ∀ a0 k, LeO (tollgateref09_Host.f k a0) (tollgateref09_Host.f (k + 1) a0) := by
 intro a0 k;obtain ⟨ih0, ih1⟩ := tollgateref09_Host.mono_l k;unfold tollgateref09_Host.f
 repeat' with_reducible first | exact ih0 _ _ | exact ih1 _ _ | exact tollgateref09_Lower.mono _ _ | exact tollgateref09_all.mono _ _ _ | exact tollgateref09_cut.mono _ _ _ | exact LeO.refl _ | exact LeO.none _ | refine LeO.ite ?_ ?_ | refine LeO.bind ?_ (fun _ => ?_)
set_option maxHeartbeats 8000000 in
set_option maxRecDepth 100000 in
theorem tollgateref09_Host.calls (k : Nat) (a0 : ByteArray) (r1 : ByteArray) (r2 : Bool) (w : World) (h : tollgateref09_Host.f k a0 = some (r1, r2)) :
  Calls Tryz.prog 37 #[.string a0] w fun e w' => e = .returned (.tuple #[.string r1, .bool r2]) ∧ Below w.heap.size w w' := by
 have HB := zN (Below.refl w.heap.size w);have H : ((tollgateref09_cut.f k a0 58).bind fun bt151 => (if (bt151.1.size : Int) < 1 then (tollgateref09_Host.j0 k bt151.1 true) else (if (bt151.1.size : Int) > 64 then (tollgateref09_Host.j0 k bt151.1 true) else (if (bt151.2.1.size : Int) > 5 then (tollgateref09_Host.j0 k bt151.1 true) else ((tollgateref09_all.f k bt151.2.1 (⟨#[48, 49, 50, 51, 52, 53, 54, 55, 56, 57]⟩ : ByteArray)).bind fun t154 => (if t154 = true then ((tollgateref09_all.f k bt151.1 (⟨#[97, 98, 99, 100, 101, 102, 103, 104, 105, 106, 107, 108, 109, 110, 111, 112, 113, 114, 115, 116, 117, 118, 119, 120, 121, 122, 65, 66, 67, 68, 69, 70, 71, 72, 73, 74, 75, 76, 77, 78, 79, 80, 81, 82, 83, 84, 85, 86, 87, 88, 89, 90, 48, 49, 50, 51, 52, 53, 54, 55, 56, 57, 45, 46]⟩ : ByteArray)).bind fun t155 => (tollgateref09_Host.j0 k bt151.1 (!t155))) else (tollgateref09_Host.j0 k bt151.1 true))))))) = some (r1, r2) := h;clear h;obtain ⟨⟨t151, t152, t153⟩, A2, H⟩ := zA H;(try dsimp only at H);have HC3 := zN H;clear H;go_enter Tryz.func37, Tryz.ntmps37;go_upto_region 2 with (first | ((with_reducible refine gate_callee (f := 32) rfl ?_); refine zg (some 10) Tryz.func32 #[.string a0, .int .u8 58] ?_; (with_reducible refine (tollgateref09_cut.calls k a0 58 t151 t152 t153 _ A2.out).mono ?_); rintro e w' ⟨rfl, ⟨nd, rfl⟩⟩; refine ⟨_, rfl, ?_⟩))
 (try simp only [Act.put, List.setIfInBounds_toArray, List.set_cons_zero, List.set_cons_succ]);go_cut [36] (fun v36 wc => ∃ (kq : Nat) (x36_2 : Bool), v36 = .bool x36_2 ∧ Aside0 (tollgateref09_Host.j0 kq t151 x36_2 = some (r1, r2)) ∧ Aside0 (kq ≤ k) ∧ Aside0 (Below w.heap.size w wc))
 case first =>
  have H := HC3.out;clear HC3;by_cases c4 : (t151.size : Int) < 1
  ·rw [zp c4] at H;have c4b0 := zt c4;have c4b1 : decide (t151.size < 1) = true := zt zO;clear c4;(first | rw [c4b0] | (simp only [i64_w, i32_w]; rw [c4b0]) | skip);have H' := zN H;clear H;go_wp2;go_meet
   case rel => exact ⟨_, (true), zI, H', ⟨by first | omega | exact zh _⟩, ⟨zB HB⟩⟩
  rw [zn c4] at H;have c4b0 := zf c4;have c4b1 : decide (t151.size < 1) = false := zf zO;clear c4;(first | rw [c4b0] | (simp only [i64_w, i32_w]; rw [c4b0]) | skip);by_cases c5 : (t151.size : Int) > 64
  ·rw [zp c5] at H;have c5b0 : decide (64 < (t151.size : Int)) = true := zt c5;have c5b1 : decide (64 < t151.size) = true := zt zO;clear c5;have H' := zN H;clear H;go_wp2;go_meet
   case rel => exact ⟨_, (true), zI, H', ⟨by first | omega | exact zh _⟩, ⟨zB HB⟩⟩
  rw [zn c5] at H;have c5b0 : decide (64 < (t151.size : Int)) = false := zf c5;have c5b1 : decide (64 < t151.size) = false := zf zO;clear c5;by_cases c6 : (t152.size : Int) > 5
  ·rw [zp c6] at H;have c6b0 : decide (5 < (t152.size : Int)) = true := zt c6;have c6b1 : decide (5 < t152.size) = true := zt zO;clear c6;have H' := zN H;clear H;go_wp2;go_meet
   case rel => exact ⟨_, (true), zI, H', ⟨by first | omega | exact zh _⟩, ⟨zB HB⟩⟩
  rw [zn c6] at H;have c6b0 : decide (5 < (t152.size : Int)) = false := zf c6;have c6b1 : decide (5 < t152.size) = false := zf zO;clear c6;obtain ⟨t154, A7, H⟩ := zA H;(try dsimp only at H);by_cases c8 : t154 = true
  ·subst c8;have H1 := H; rw [zp rfl] at H1;clear H;have H := H1;clear H1;obtain ⟨t155, A9, H⟩ := zA H;(try dsimp only at H);have H' := zN H;clear H;go_wp2_with (first | (go_at_call 58; (with_reducible refine (tollgateref09_all.calls k t152 (⟨#[48, 49, 50, 51, 52, 53, 54, 55, 56, 57]⟩ : ByteArray) true _ A7.out).mono ?_); rintro e w' ⟨rfl, ⟨nd, rfl⟩⟩) | (go_at_call 58; (with_reducible refine (tollgateref09_all.calls k t151 (⟨#[97, 98, 99, 100, 101, 102, 103, 104, 105, 106, 107, 108, 109, 110, 111, 112, 113, 114, 115, 116, 117, 118, 119, 120, 121, 122, 65, 66, 67, 68, 69, 70, 71, 72, 73, 74, 75, 76, 77, 78, 79, 80, 81, 82, 83, 84, 85, 86, 87, 88, 89, 90, 48, 49, 50, 51, 52, 53, 54, 55, 56, 57, 45, 46]⟩ : ByteArray) t155 _ A9.out).mono ?_); rintro e w' ⟨rfl, ⟨nd, rfl⟩⟩));go_meet
   case rel => exact ⟨_, (!t155), zI, H', ⟨by first | omega | exact zh _⟩, ⟨zB HB⟩⟩
  replace c8 := zq.mpr c8;subst c8;have H1 := H; rw [zn (show ¬ (false = true) by decide)] at H1;clear H;have H := H1;clear H1;have H' := zN H;clear H;go_wp2_with (first | (go_at_call 58; (with_reducible refine (tollgateref09_all.calls k t152 (⟨#[48, 49, 50, 51, 52, 53, 54, 55, 56, 57]⟩ : ByteArray) false _ A7.out).mono ?_); rintro e w' ⟨rfl, ⟨nd, rfl⟩⟩));go_meet
  case rel => exact ⟨_, (true), zI, H', ⟨by first | omega | exact zh _⟩, ⟨zB HB⟩⟩
 case rest =>
  clear HC3;obtain ⟨kq, x36_2, rfl, HA, HJ2, HB⟩ := hcut;cases kq with
  | zero => exact absurd HA.out (by simp [tollgateref09_Host.j0])
  | succ kj2 =>
   have H := HA.out;clear HA;simp only [tollgateref09_Host.j0] at H;by_cases c10 : x36_2 = true
   ·subst c10;have H1 := H; rw [zp rfl] at H1;clear H;have H := H1;clear H1;simp only [Option.some.injEq, Prod.mk.injEq] at H;obtain ⟨rfl, rfl⟩ := H;go_wp2;go_ret2;exact ⟨zE, zB HB⟩
   replace c10 := zq.mpr c10;subst c10;have H1 := H; rw [zn (show ¬ (false = true) by decide)] at H1;clear H;have H := H1;clear H1;have H' := zN H;clear H;go_wp2;go_loopg [7] kj2 (fun kq v7 w' => ∃ (x7_2 : Int), v7 = .int .i64 x7_2 ∧ Aside0 (tollgateref09_Host.l0 kq t151 x7_2 = some (r1, r2)) ∧ Aside0 (kq ≤ kj2) ∧ Aside0 (Below w.heap.size w w'))
   case atStart => exact ⟨(0), zI, H', ⟨zh _⟩, ⟨zB HB⟩⟩
   case round =>
    clear H'
    try clear c10
    obtain ⟨x7_2, rfl, HA, HK2, HB⟩ := hrel;cases gk with
    | zero => exact absurd HA.out (by simp [tollgateref09_Host.l0])
    | succ k2 =>
     have H := HA.out;clear HA;simp only [tollgateref09_Host.l0] at H;by_cases c11 : x7_2 < (t151.size : Int);rotate_left
     ·rw [zn c11] at H;have c11b0 := zf c11;clear c11;obtain ⟨t156, A22, H⟩ := zA H;(try dsimp only at H);simp only [Option.some.injEq, Prod.mk.injEq] at H;obtain ⟨rfl, rfl⟩ := H;go_wp2_with (first | ((with_reducible refine gate_callee (f := 36) rfl ?_); refine zg (some 66) Tryz.func36 #[.string t151] ?_; (with_reducible refine (tollgateref09_Lower.calls k2 t151 t156 _ A22.out).mono ?_); rintro e w23 ⟨rfl, hb⟩; refine ⟨_, rfl, ?_⟩; replace HB := zk HB hb; (try clear hb); (try clear hb2); (try clear hk); (try clear hi)));go_ret2;exact ⟨zE, zB HB⟩
     rw [zp c11] at H;have c11b0 := zt c11;clear c11;by_cases c12 : 0 ≤ x7_2;rotate_left
     ·rw [zn c12] at H;exact absurd H (by simp)
     rw [zp c12] at H;have c12b0 := zt c12;clear c12;by_cases c14 : (bt t151 x7_2) = 46;rotate_left
     ·rw [zn c14] at H;have c14b0 := zb.mpr c14;have c14b1 := bne_iff_ne.mpr c14;have H' := zN H;clear H;have p13 : 0 ≤ (x7_2 : Int) := zd zS;have q13 : x7_2 < (t151.size : Int) := zd zS;have hx13 := bt_at t151 x7_2;replace p13 := zu p13;replace q13 := zu q13;go_wp2;go_roundg k2
      case measure => have := HJ2.out; have := HK2.out; omega
      case rel => exact ⟨(wrap64 (x7_2 + 1)), zI, H', ⟨by have := HJ2.out; have := HK2.out; omega⟩, ⟨zB HB⟩⟩
     rw [zp c14] at H;have c14b0 := beq_iff_eq.mpr c14;have c14b1 := zc.mpr c14;clear c14;by_cases c15 : x7_2 = 0
     ·rw [zp c15] at H;have c15b0 := beq_iff_eq.mpr c15;have c15b1 := zc.mpr c15;clear c15;simp only [Option.some.injEq, Prod.mk.injEq] at H;obtain ⟨rfl, rfl⟩ := H;have p13 : 0 ≤ (x7_2 : Int) := zd zS;have q13 : x7_2 < (t151.size : Int) := zd zS;have hx13 := bt_at t151 x7_2;replace p13 := zu p13;replace q13 := zu q13;go_wp2;go_ret2;exact ⟨zE, zB HB⟩
     rw [zn c15] at H;have c15b0 := zb.mpr c15;have c15b1 := bne_iff_ne.mpr c15;by_cases c16 : x7_2 = (wrap64 ((t151.size : Int) - 1))
     ·rw [zp c16] at H;have c16b0 := beq_iff_eq.mpr c16;have c16b1 := zc.mpr c16;clear c16;simp only [Option.some.injEq, Prod.mk.injEq] at H;obtain ⟨rfl, rfl⟩ := H;have p13 : 0 ≤ (x7_2 : Int) := zd zS;have q13 : x7_2 < (t151.size : Int) := zd zS;have hx13 := bt_at t151 x7_2;replace p13 := zu p13;replace q13 := zu q13;go_wp2;go_ret2;exact ⟨zE, zB HB⟩
     rw [zn c16] at H;have c16b0 := zb.mpr c16;have c16b1 := bne_iff_ne.mpr c16;obtain ⟨ji17, hji17⟩ : ∃ j_ : Int, (wrap64 (x7_2 - 1)) = j_ := ⟨_, rfl⟩;replace H : (if 0 ≤ (ji17) then (if (ji17) < (t151.size : Int) then (if (bt t151 (ji17)) = 46 then (some ((⟨#[]⟩ : ByteArray), false)) else (tollgateref09_Host.l0 k2 t151 (wrap64 (x7_2 + 1)))) else (none)) else (none)) = some (r1, r2) := by first | (rw [hji17] at H; exact H) | (simp only [hji17] at H ⊢; exact H)
     have hji17w : (IntKind.i64.wrap (x7_2 - 1)) = ji17 := (i64_w _).trans hji17;by_cases c18 : 0 ≤ (ji17);rotate_left
     ·rw [zn c18] at H;exact absurd H (by simp)
     rw [zp c18] at H;have c18b0 := zt c18;clear c18;by_cases c19 : (ji17) < (t151.size : Int);rotate_left
     ·rw [zn c19] at H;exact absurd H (by simp)
     rw [zp c19] at H;have c19b0 := zt c19;clear c19;by_cases c21 : (bt t151 (ji17)) = 46
     ·rw [zp c21] at H;have c21b0 := beq_iff_eq.mpr c21;have c21b1 := zc.mpr c21;clear c21;simp only [Option.some.injEq, Prod.mk.injEq] at H;obtain ⟨rfl, rfl⟩ := H;have p13 : 0 ≤ (x7_2 : Int) := zd zS;have q13 : x7_2 < (t151.size : Int) := zd zS;have hx13 := bt_at t151 x7_2;replace p13 := zu p13;replace q13 := zu q13;have p20 : 0 ≤ ((ji17) : Int) := zd zS;have q20 : (ji17) < (t151.size : Int) := zd zS;have hx20 := bt_at t151 (ji17);replace p20 := zu p20;replace q20 := zu q20;go_wp2;go_ret2;exact ⟨by first | rfl | (simp [errW_none, errW_some] <;> rfl) | (simp only [← hji17]; first | rfl | (simp [errW_none, errW_some] <;> rfl)) | (simp [*, errW_none, errW_some] <;> rfl), zB HB⟩
     rw [zn c21] at H;have c21b0 := zb.mpr c21;have c21b1 := bne_iff_ne.mpr c21;have H' := zN H;clear H;have p13 : 0 ≤ (x7_2 : Int) := zd zS;have q13 : x7_2 < (t151.size : Int) := zd zS;have hx13 := bt_at t151 x7_2;replace p13 := zu p13;replace q13 := zu q13;have p20 : 0 ≤ ((ji17) : Int) := zd zS;have q20 : (ji17) < (t151.size : Int) := zd zS;have hx20 := bt_at t151 (ji17);replace p20 := zu p20;replace q20 := zu q20;go_wp2;go_roundg k2
     case measure => have := HJ2.out; have := HK2.out; omega
     case rel => exact ⟨(wrap64 (x7_2 + 1)), zI, H', ⟨by have := HJ2.out; have := HK2.out; omega⟩, ⟨zB HB⟩⟩

def tollgateref09_begins.f (a0 : ByteArray) (a1 : ByteArray) : Option (Bool) := if (a0.size : Int) ≥ (a1.size : Int) then (if 0 ≤ (a1.size : Int) then (if (a1.size : Int) ≤ (a0.size : Int) then (some ((a0.extract 0 ((a1.size : Int) : Int).toNat).toList == a1.toList)) else (none)) else (none)) else (some false)
set_option maxHeartbeats 8000000 in
set_option maxRecDepth 100000 in
theorem tollgateref09_begins.calls (a0 : ByteArray) (a1 : ByteArray) (r : Bool) (w : World) (h : tollgateref09_begins.f a0 a1 = some r) :
    Calls Tryz.prog 55 #[.string a0, .string a1] w fun e w' => e = .returned (.bool r) ∧ Drawn0 w w' := by
  have H : (if (a0.size : Int) ≥ (a1.size : Int) then (if 0 ≤ (a1.size : Int) then (if (a1.size : Int) ≤ (a0.size : Int) then (some ((a0.extract 0 ((a1.size : Int) : Int).toNat).toList == a1.toList)) else (none)) else (none)) else (some false)) = some r := h;clear h;by_cases c3 : (a0.size : Int) ≥ (a1.size : Int);rotate_left
  · rw [zn c3] at H;have c3b0 : decide ((a1.size : Int) ≤ (a0.size : Int)) = false := zf c3;have c3b1 : decide (a1.size ≤ a0.size) = false := zf (fun h => c3 (Int.ofNat_le.mpr h));clear c3;obtain rfl := zo H;go_enter Tryz.func55, Tryz.ntmps55;go_wp2;go_ret;exact ⟨zI, zD⟩
  rw [zp c3] at H;have c3b0 : decide ((a1.size : Int) ≤ (a0.size : Int)) = true := zt c3;have c3b1 : decide (a1.size ≤ a0.size) = true := zt (Int.ofNat_le.mp c3);clear c3;by_cases c4 : 0 ≤ (a1.size : Int);rotate_left
  · rw [zn c4] at H;exact absurd H (by simp)
  rw [zp c4] at H;have c4b0 := zu c4;have c4b1 := zt c4;clear c4;by_cases c5 : (a1.size : Int) ≤ (a0.size : Int)
  · rw [zp c5] at H;have c5b0 := zu c5;have c5b1 := zt c5;clear c5;obtain rfl := zo H;go_enter Tryz.func55, Tryz.ntmps55;go_wp2;go_ret;exact ⟨zI, zD⟩
  rw [zn c5] at H;exact absurd H (by simp)

mutual
def tollgateref09_such.l0 : Nat → ByteArray → ByteArray → Int → Option (Bool)
 | 0, _, _, _ => none
 | k + 1, x0, x1, x5 => if x5 < (x0.size : Int) then (if 0 ≤ x5 then (if (bt x0 x5) = 37 then (if (wrap64 (x5 + 2)) ≥ (x0.size : Int) then (tollgateref09_such.j1 k x0 x1 x5 true) else (if 0 ≤ (wrap64 (x5 + 1)) then (if (wrap64 (x5 + 1)) < (x0.size : Int) then ((tollgateref09_in.f k (bt x0 (wrap64 (x5 + 1))) (⟨#[48, 49, 50, 51, 52, 53, 54, 55, 56, 57, 97, 98, 99, 100, 101, 102, 65, 66, 67, 68, 69, 70]⟩ : ByteArray)).bind fun t157 => (if t157 = true then (if 0 ≤ (wrap64 (x5 + 2)) then (if (wrap64 (x5 + 2)) < (x0.size : Int) then ((tollgateref09_in.f k (bt x0 (wrap64 (x5 + 2))) (⟨#[48, 49, 50, 51, 52, 53, 54, 55, 56, 57, 97, 98, 99, 100, 101, 102, 65, 66, 67, 68, 69, 70]⟩ : ByteArray)).bind fun t158 => (tollgateref09_such.j1 k x0 x1 x5 (!t158))) else (none)) else (none)) else (tollgateref09_such.j1 k x0 x1 x5 true))) else (none)) else (none))) else (if 80 + x1.size ≤ 9223372036854775807 then ((tollgateref09_in.f k (bt x0 x5) ((⟨#[97, 98, 99, 100, 101, 102, 103, 104, 105, 106, 107, 108, 109, 110, 111, 112, 113, 114, 115, 116, 117, 118, 119, 120, 121, 122, 65, 66, 67, 68, 69, 70, 71, 72, 73, 74, 75, 76, 77, 78, 79, 80, 81, 82, 83, 84, 85, 86, 87, 88, 89, 90, 48, 49, 50, 51, 52, 53, 54, 55, 56, 57, 47, 45, 46, 95, 126, 33, 36, 38, 39, 40, 41, 42, 43, 44, 59, 61, 58, 64]⟩ : ByteArray) ++ x1)).bind fun t159 => (if t159 = true then (tollgateref09_such.l0 k x0 x1 (wrap64 (x5 + 1))) else (some false))) else (none))) else (none)) else (some true)
def tollgateref09_such.j1 : Nat → ByteArray → ByteArray → Int → Bool → Option (Bool)
 | 0, _, _, _, _ => none
 | k + 1, x0, x1, x5, x36 => if x36 = true then (some false) else (tollgateref09_such.l0 k x0 x1 (wrap64 ((wrap64 (x5 + 2)) + 1)))
end
def tollgateref09_such.f (k : Nat) (a0 : ByteArray) (a1 : ByteArray) : Option (Bool) := tollgateref09_such.l0 k a0 a1 0
theorem tollgateref09_such.mono_l : ∀ k, (∀ y0 y1 y2, LeO (tollgateref09_such.l0 k y0 y1 y2) (tollgateref09_such.l0 (k + 1) y0 y1 y2)) ∧ (∀ y0 y1 y2 y3, LeO (tollgateref09_such.j1 k y0 y1 y2 y3) (tollgateref09_such.j1 (k + 1) y0 y1 y2 y3))
 | 0 => ⟨fun _ _ _ r h => by simp [tollgateref09_such.l0] at h, fun _ _ _ _ r h => by simp [tollgateref09_such.j1] at h⟩
 | k + 1 => by
  obtain ⟨ih0, ih1⟩ := tollgateref09_such.mono_l k;refine ⟨?_, ?_⟩
  ·intro y0 y1 y2;unfold tollgateref09_such.l0
   repeat' with_reducible first | exact ih0 _ _ _ | exact ih1 _ _ _ _ | exact tollgateref09_in.mono _ _ _ | exact LeO.refl _ | exact LeO.none _ | refine LeO.ite ?_ ?_ | refine LeO.bind ?_ (fun _ => ?_)
  intro y0 y1 y2 y3;unfold tollgateref09_such.j1
  repeat' with_reducible first | exact ih0 _ _ _ | exact ih1 _ _ _ _ | exact tollgateref09_in.mono _ _ _ | exact LeO.refl _ | exact LeO.none _ | refine LeO.ite ?_ ?_ | refine LeO.bind ?_ (fun _ => ?_)
theorem tollgateref09_such.mono : ∀ a0 a1 k, LeO (tollgateref09_such.f k a0 a1) (tollgateref09_such.f (k + 1) a0 a1) := by
 intro a0 a1 k;obtain ⟨ih0, ih1⟩ := tollgateref09_such.mono_l k;unfold tollgateref09_such.f
 repeat' with_reducible first | exact ih0 _ _ _ | exact ih1 _ _ _ _ | exact tollgateref09_in.mono _ _ _ | exact LeO.refl _ | exact LeO.none _ | refine LeO.ite ?_ ?_ | refine LeO.bind ?_ (fun _ => ?_)
set_option maxHeartbeats 8000000 in
set_option maxRecDepth 100000 in
theorem tollgateref09_such.calls (k : Nat) (a0 : ByteArray) (a1 : ByteArray) (r : Bool) (w : World) (h : tollgateref09_such.f k a0 a1 = some r) :
  Calls Tryz.prog 83 #[.string a0, .string a1] w fun e w' => e = .returned (.bool r) ∧ Drawn0 w w' := by
 have H : (tollgateref09_such.l0 k a0 a1 0) = some r := h;clear h;have H' := zN H;clear H;go_enter Tryz.func83, Tryz.ntmps83;go_wp2;go_loopg [5] k (fun kq v5 w' => ∃ (x5_1 : Int), v5 = .int .i64 x5_1 ∧ Aside0 (tollgateref09_such.l0 kq a0 a1 x5_1 = some r) ∧ Aside0 (kq ≤ k) ∧ Drawn0 w w')
 case atStart => exact ⟨(0), zI, H', ⟨zh _⟩, zD⟩
 case round =>
  clear H';obtain ⟨x5_1, rfl, HA, HK1, ⟨m1, rfl⟩⟩ := hrel;cases gk with
  | zero => exact absurd HA.out (by simp [tollgateref09_such.l0])
  | succ k1 =>
   have H := HA.out;clear HA;simp only [tollgateref09_such.l0] at H;by_cases c3 : x5_1 < (a0.size : Int);rotate_left
   ·rw [zn c3] at H;have c3b0 := zf c3;clear c3;obtain rfl := zo H;go_wp2;go_ret;exact ⟨zI, zD⟩
   rw [zp c3] at H;have c3b0 := zt c3;clear c3;by_cases c4 : 0 ≤ x5_1;rotate_left
   ·rw [zn c4] at H;exact absurd H (by simp)
   rw [zp c4] at H;have c4b0 := zt c4;clear c4;by_cases c6 : (bt a0 x5_1) = 37;rotate_left
   ·rw [zn c6] at H;have c6b0 := zb.mpr c6;have c6b1 := bne_iff_ne.mpr c6;by_cases c22 : 80 + a1.size ≤ 9223372036854775807;rotate_left
    ·rw [zn c22] at H;exact absurd H (by simp)
    rw [zp c22] at H;have c22b0 := zu c22;have c22b1 := zt c22
    try have c22b2 : (9223372036854775807 < 80 + a1.size) = False := eq_false (Nat.not_lt.2 c22)
    obtain ⟨t159, A23, H⟩ := zA H;(try dsimp only at H);by_cases c24 : t159 = true
    ·subst c24;have H1 := H; rw [zp rfl] at H1;clear H;have H := H1;clear H1;have H' := zN H;clear H;have p5 : 0 ≤ (x5_1 : Int) := zd zS;have q5 : x5_1 < (a0.size : Int) := zd zS;have hx5 := bt_at a0 x5_1;replace p5 := zu p5;replace q5 := zu q5;have p21 : 0 ≤ (x5_1 : Int) := zd zS;have q21 : x5_1 < (a0.size : Int) := zd zS;have hx21 := bt_at a0 x5_1;replace p21 := zu p21;replace q21 := zu q21;go_wp2_with (first | ((with_reducible refine gate_callee (f := 84) rfl ?_); refine zg (some 44) Tryz.func84 #[.int .u8 (bt a0 x5_1), .string ((⟨#[97, 98, 99, 100, 101, 102, 103, 104, 105, 106, 107, 108, 109, 110, 111, 112, 113, 114, 115, 116, 117, 118, 119, 120, 121, 122, 65, 66, 67, 68, 69, 70, 71, 72, 73, 74, 75, 76, 77, 78, 79, 80, 81, 82, 83, 84, 85, 86, 87, 88, 89, 90, 48, 49, 50, 51, 52, 53, 54, 55, 56, 57, 47, 45, 46, 95, 126, 33, 36, 38, 39, 40, 41, 42, 43, 44, 59, 61, 58, 64]⟩ : ByteArray) ++ a1)] ?_; (with_reducible refine (tollgateref09_in.calls k1 (bt a0 x5_1) ((⟨#[97, 98, 99, 100, 101, 102, 103, 104, 105, 106, 107, 108, 109, 110, 111, 112, 113, 114, 115, 116, 117, 118, 119, 120, 121, 122, 65, 66, 67, 68, 69, 70, 71, 72, 73, 74, 75, 76, 77, 78, 79, 80, 81, 82, 83, 84, 85, 86, 87, 88, 89, 90, 48, 49, 50, 51, 52, 53, 54, 55, 56, 57, 47, 45, 46, 95, 126, 33, 36, 38, 39, 40, 41, 42, 43, 44, 59, 61, 58, 64]⟩ : ByteArray) ++ a1) true _ A23.out).mono ?_); rintro e w' ⟨rfl, ⟨nd, rfl⟩⟩; refine ⟨_, rfl, ?_⟩));go_roundg k1
     case measure => have := HK1.out; omega
     case rel => exact ⟨(wrap64 (x5_1 + 1)), zI, H', ⟨by have := HK1.out; omega⟩, zD⟩
    replace c24 := zq.mpr c24;subst c24;have H1 := H; rw [zn (show ¬ (false = true) by decide)] at H1;clear H;have H := H1;clear H1;obtain rfl := zo H;have p5 : 0 ≤ (x5_1 : Int) := zd zS;have q5 : x5_1 < (a0.size : Int) := zd zS;have hx5 := bt_at a0 x5_1;replace p5 := zu p5;replace q5 := zu q5;have p21 : 0 ≤ (x5_1 : Int) := zd zS;have q21 : x5_1 < (a0.size : Int) := zd zS;have hx21 := bt_at a0 x5_1;replace p21 := zu p21;replace q21 := zu q21;go_wp2_with (first | ((with_reducible refine gate_callee (f := 84) rfl ?_); refine zg (some 44) Tryz.func84 #[.int .u8 (bt a0 x5_1), .string ((⟨#[97, 98, 99, 100, 101, 102, 103, 104, 105, 106, 107, 108, 109, 110, 111, 112, 113, 114, 115, 116, 117, 118, 119, 120, 121, 122, 65, 66, 67, 68, 69, 70, 71, 72, 73, 74, 75, 76, 77, 78, 79, 80, 81, 82, 83, 84, 85, 86, 87, 88, 89, 90, 48, 49, 50, 51, 52, 53, 54, 55, 56, 57, 47, 45, 46, 95, 126, 33, 36, 38, 39, 40, 41, 42, 43, 44, 59, 61, 58, 64]⟩ : ByteArray) ++ a1)] ?_; (with_reducible refine (tollgateref09_in.calls k1 (bt a0 x5_1) ((⟨#[97, 98, 99, 100, 101, 102, 103, 104, 105, 106, 107, 108, 109, 110, 111, 112, 113, 114, 115, 116, 117, 118, 119, 120, 121, 122, 65, 66, 67, 68, 69, 70, 71, 72, 73, 74, 75, 76, 77, 78, 79, 80, 81, 82, 83, 84, 85, 86, 87, 88, 89, 90, 48, 49, 50, 51, 52, 53, 54, 55, 56, 57, 47, 45, 46, 95, 126, 33, 36, 38, 39, 40, 41, 42, 43, 44, 59, 61, 58, 64]⟩ : ByteArray) ++ a1) false _ A23.out).mono ?_); rintro e w' ⟨rfl, ⟨nd, rfl⟩⟩; refine ⟨_, rfl, ?_⟩));go_ret;exact ⟨zI, zD⟩
   rw [zp c6] at H;have c6b0 := beq_iff_eq.mpr c6;have c6b1 := zc.mpr c6;clear c6;have HC7 := zN H;clear H;have p5 : 0 ≤ (x5_1 : Int) := zd zS;have q5 : x5_1 < (a0.size : Int) := zd zS;have hx5 := bt_at a0 x5_1;replace p5 := zu p5;replace q5 := zu q5;go_upto_region 5 with (fail)
   go_cut [36] (fun v36 wc => ∃ (kq : Nat) (x36_6 : Bool), v36 = .bool x36_6 ∧ Aside0 (tollgateref09_such.j1 kq a0 a1 x5_1 x36_6 = some r) ∧ Aside0 (kq ≤ k1) ∧ Drawn0 w wc)
   case first =>
    have H := HC7.out;clear HC7;by_cases c8 : (wrap64 (x5_1 + 2)) ≥ (a0.size : Int)
    ·rw [zp c8] at H;have c8b0 : decide ((a0.size : Int) ≤ (wrap64 (x5_1 + 2))) = true := zt c8;clear c8;(first | rw [c8b0] | (simp only [i64_w, i32_w]; rw [c8b0]) | skip);have H' := zN H;clear H;go_wp2;go_meet
     case rel => exact ⟨_, (true), zI, H', ⟨by have := HK1.out; first | omega | exact zh _⟩, zD⟩
    rw [zn c8] at H;have c8b0 : decide ((a0.size : Int) ≤ (wrap64 (x5_1 + 2))) = false := zf c8;clear c8;(first | rw [c8b0] | (simp only [i64_w, i32_w]; rw [c8b0]) | skip);obtain ⟨ji9, hji9⟩ : ∃ j_ : Int, (wrap64 (x5_1 + 1)) = j_ := ⟨_, rfl⟩;replace H : (if 0 ≤ (ji9) then (if (ji9) < (a0.size : Int) then ((tollgateref09_in.f k1 (bt a0 (ji9)) (⟨#[48, 49, 50, 51, 52, 53, 54, 55, 56, 57, 97, 98, 99, 100, 101, 102, 65, 66, 67, 68, 69, 70]⟩ : ByteArray)).bind fun t157 => (if t157 = true then (if 0 ≤ (wrap64 (x5_1 + 2)) then (if (wrap64 (x5_1 + 2)) < (a0.size : Int) then ((tollgateref09_in.f k1 (bt a0 (wrap64 (x5_1 + 2))) (⟨#[48, 49, 50, 51, 52, 53, 54, 55, 56, 57, 97, 98, 99, 100, 101, 102, 65, 66, 67, 68, 69, 70]⟩ : ByteArray)).bind fun t158 => (tollgateref09_such.j1 k1 a0 a1 x5_1 (!t158))) else (none)) else (none)) else (tollgateref09_such.j1 k1 a0 a1 x5_1 true))) else (none)) else (none)) = some r := by first | (rw [hji9] at H; exact H) | (simp only [hji9] at H ⊢; exact H)
    have hji9w : (IntKind.i64.wrap (x5_1 + 1)) = ji9 := (i64_w _).trans hji9;by_cases c10 : 0 ≤ (ji9);rotate_left
    ·rw [zn c10] at H;exact absurd H (by simp)
    rw [zp c10] at H;have c10b0 := zt c10;clear c10;by_cases c11 : (ji9) < (a0.size : Int);rotate_left
    ·rw [zn c11] at H;exact absurd H (by simp)
    rw [zp c11] at H;have c11b0 := zt c11;clear c11;obtain ⟨t157, A13, H⟩ := zA H;(try dsimp only at H);by_cases c14 : t157 = true;rotate_left
    ·replace c14 := zq.mpr c14;subst c14;have H1 := H; rw [zn (show ¬ (false = true) by decide)] at H1;clear H;have H := H1;clear H1;have H' := zN H;clear H;have p12 : 0 ≤ ((ji9) : Int) := zd zS;have q12 : (ji9) < (a0.size : Int) := zd zS;have hx12 := bt_at a0 (ji9);replace p12 := zu p12;replace q12 := zu q12;go_wp2_with (first | (go_at_call 84; (with_reducible refine (tollgateref09_in.calls k1 (bt a0 (ji9)) (⟨#[48, 49, 50, 51, 52, 53, 54, 55, 56, 57, 97, 98, 99, 100, 101, 102, 65, 66, 67, 68, 69, 70]⟩ : ByteArray) false _ A13.out).mono ?_); rintro e w' ⟨rfl, ⟨nd, rfl⟩⟩));go_meet
     case rel => exact ⟨_, (true), zI, H', ⟨by have := HK1.out; first | omega | exact zh _⟩, zD⟩
    subst c14;have H1 := H; rw [zp rfl] at H1;clear H;have H := H1;clear H1;obtain ⟨ji15, hji15⟩ : ∃ j_ : Int, (wrap64 (x5_1 + 2)) = j_ := ⟨_, rfl⟩;replace H : (if 0 ≤ (ji15) then (if (ji15) < (a0.size : Int) then ((tollgateref09_in.f k1 (bt a0 (ji15)) (⟨#[48, 49, 50, 51, 52, 53, 54, 55, 56, 57, 97, 98, 99, 100, 101, 102, 65, 66, 67, 68, 69, 70]⟩ : ByteArray)).bind fun t158 => (tollgateref09_such.j1 k1 a0 a1 x5_1 (!t158))) else (none)) else (none)) = some r := by first | (rw [hji15] at H; exact H) | (simp only [hji15] at H ⊢; exact H)
    (try rw [hji15] at c8b0);(try rw [hji15] at A13);have hji15w : (IntKind.i64.wrap (x5_1 + 2)) = ji15 := (i64_w _).trans hji15;by_cases c16 : 0 ≤ (ji15);rotate_left
    ·rw [zn c16] at H;exact absurd H (by simp)
    rw [zp c16] at H;have c16b0 := zt c16;clear c16;by_cases c17 : (ji15) < (a0.size : Int);rotate_left
    ·rw [zn c17] at H;exact absurd H (by simp)
    rw [zp c17] at H;have c17b0 := zt c17;clear c17;obtain ⟨t158, A19, H⟩ := zA H;(try dsimp only at H);have H' := zN H;clear H;have p12 : 0 ≤ ((ji9) : Int) := zd zS;have q12 : (ji9) < (a0.size : Int) := zd zS;have hx12 := bt_at a0 (ji9);replace p12 := zu p12;replace q12 := zu q12;go_wp2_with (first | (go_at_call 84; (with_reducible refine (tollgateref09_in.calls k1 (bt a0 (ji9)) (⟨#[48, 49, 50, 51, 52, 53, 54, 55, 56, 57, 97, 98, 99, 100, 101, 102, 65, 66, 67, 68, 69, 70]⟩ : ByteArray) true _ A13.out).mono ?_); rintro e w' ⟨rfl, ⟨nd, rfl⟩⟩; have p18 : 0 ≤ ((ji15) : Int) := zd zS; have q18 : (ji15) < (a0.size : Int) := zd zS; have hx18 := bt_at a0 (ji15); replace p18 := zu p18; replace q18 := zu q18) | (go_at_call 84; (with_reducible refine (tollgateref09_in.calls k1 (bt a0 (ji15)) (⟨#[48, 49, 50, 51, 52, 53, 54, 55, 56, 57, 97, 98, 99, 100, 101, 102, 65, 66, 67, 68, 69, 70]⟩ : ByteArray) t158 _ A19.out).mono ?_); rintro e w' ⟨rfl, ⟨nd, rfl⟩⟩));go_meet
    case rel => exact ⟨_, (!t158), zI, H', ⟨by have := HK1.out; first | omega | exact zh _⟩, zD⟩
   case rest =>
    clear HC7
    try clear c3
    try clear c3b0
    try clear c4
    try clear c4b0
    try clear p5
    try clear q5
    try clear hx5
    try clear c6
    try clear c6b0
    try clear c6b1
    try clear p5
    try clear q5
    obtain ⟨kq, x36_6, rfl, HA, HJ6, ⟨mc6, rfl⟩⟩ := hcut;cases kq with
    | zero => exact absurd HA.out (by simp [tollgateref09_such.j1])
    | succ kj6 =>
     have H := HA.out;clear HA;simp only [tollgateref09_such.j1] at H;by_cases c20 : x36_6 = true
     ·subst c20;have H1 := H; rw [zp rfl] at H1;clear H;have H := H1;clear H1;obtain rfl := zo H;go_wp2;go_ret;exact ⟨zI, zD⟩
     replace c20 := zq.mpr c20;subst c20;have H1 := H; rw [zn (show ¬ (false = true) by decide)] at H1;clear H;have H := H1;clear H1;have H' := zN H;clear H;go_wp2;go_roundg kj6
     case measure => have := HK1.out; have := HJ6.out; omega
     case rel => exact ⟨(wrap64 ((wrap64 (x5_1 + 2)) + 1)), zI, H', ⟨by have := HK1.out; have := HJ6.out; omega⟩, zD⟩

def tollgateref09_Path.f (k : Nat) (a0 : ByteArray) : Option (Bool) := if a0.toList = ([] : List UInt8) then (some false) else (if 0 < (a0.size : Int) then (if (bt a0 0) = 47 then ((tollgateref09_such.f k a0 (⟨#[]⟩ : ByteArray)).bind fun t160 => (some t160)) else (some false)) else (none))
theorem tollgateref09_Path.mono : ∀ a0 k, LeO (tollgateref09_Path.f k a0) (tollgateref09_Path.f (k + 1) a0) := by
  intro a0 k;unfold tollgateref09_Path.f
  repeat' with_reducible first | exact tollgateref09_such.mono _ _ _ | exact LeO.refl _ | exact LeO.none _ | refine LeO.ite ?_ ?_ | refine LeO.bind ?_ (fun _ => ?_)
set_option maxHeartbeats 8000000 in
set_option maxRecDepth 100000 in
theorem tollgateref09_Path.calls (k : Nat) (a0 : ByteArray) (r : Bool) (w : World) (h : tollgateref09_Path.f k a0 = some r) :
    Calls Tryz.prog 56 #[.string a0] w fun e w' => e = .returned (.bool r) ∧ Drawn0 w w' := by
  have H : (if a0.toList = ([] : List UInt8) then (some false) else (if 0 < (a0.size : Int) then (if (bt a0 0) = 47 then ((tollgateref09_such.f k a0 (⟨#[]⟩ : ByteArray)).bind fun t160 => (some t160)) else (some false)) else (none))) = some r := h;clear h;by_cases c2 : a0.toList = ([] : List UInt8)
  · rw [zp c2] at H;have c2b0 := beq_iff_eq.mpr c2;have c2b1 := zc.mpr c2;clear c2;obtain rfl := zo H;go_enter Tryz.func56, Tryz.ntmps56;go_wp2;go_ret;exact ⟨zI, zD⟩
  rw [zn c2] at H;have c2b0 := zb.mpr c2;have c2b1 := bne_iff_ne.mpr c2;by_cases c3 : 0 < (a0.size : Int);rotate_left
  · rw [zn c3] at H;exact absurd H (by simp)
  rw [zp c3] at H;have c3b0 := zt c3;have c3b1 : decide (0 < a0.size) = true := zt zO;clear c3;by_cases c5 : (bt a0 0) = 47
  · rw [zp c5] at H;have c5b0 := beq_iff_eq.mpr c5;have c5b1 := zc.mpr c5;clear c5;obtain ⟨t160, A6, H⟩ := zA H;(try dsimp only at H);obtain rfl := zo H;have p4 : 0 ≤ (0 : Int) := zO;have q4 : 0 < a0.size := (by have : (0 : Int) < (a0.size : Int) := zd zS; omega);have hx4 : ∀ h : 0 < a0.size, ((a0[0]'h).toNat : Int) = bt a0 0 := bt_at a0 0;clear p4;have qi4 : (0 < (a0.size : Int)) = True := zu (zd zS);replace q4 := zu q4;go_enter Tryz.func56, Tryz.ntmps56;go_wp2_with (first | (go_at_call 83; (with_reducible refine (tollgateref09_such.calls k a0 (⟨#[]⟩ : ByteArray) t160 _ A6.out).mono ?_); rintro e w' ⟨rfl, ⟨nd, rfl⟩⟩));go_ret;exact ⟨zI, zD⟩
  rw [zn c5] at H;have c5b0 := zb.mpr c5;have c5b1 := bne_iff_ne.mpr c5;obtain rfl := zo H;have p4 : 0 ≤ (0 : Int) := zO;have q4 : 0 < a0.size := (by have : (0 : Int) < (a0.size : Int) := zd zS; omega);have hx4 : ∀ h : 0 < a0.size, ((a0[0]'h).toNat : Int) = bt a0 0 := bt_at a0 0;clear p4;have qi4 : (0 < (a0.size : Int)) = True := zu (zd zS);replace q4 := zu q4;go_enter Tryz.func56, Tryz.ntmps56;go_wp2;go_ret;exact ⟨zI, zD⟩

def tollgateref09_Query.f (k : Nat) (a0 : ByteArray) : Option (Bool) := (tollgateref09_such.f k a0 (⟨#[63]⟩ : ByteArray)).bind fun t161 => (some t161)
theorem tollgateref09_Query.mono : ∀ a0 k, LeO (tollgateref09_Query.f k a0) (tollgateref09_Query.f (k + 1) a0) := by
  intro a0 k;unfold tollgateref09_Query.f
  repeat' with_reducible first | exact tollgateref09_such.mono _ _ _ | exact LeO.refl _ | exact LeO.none _ | refine LeO.ite ?_ ?_ | refine LeO.bind ?_ (fun _ => ?_)
set_option maxHeartbeats 8000000 in
set_option maxRecDepth 100000 in
theorem tollgateref09_Query.calls (k : Nat) (a0 : ByteArray) (r : Bool) (w : World) (h : tollgateref09_Query.f k a0 = some r) :
    Calls Tryz.prog 57 #[.string a0] w fun e w' => e = .returned (.bool r) ∧ Drawn0 w w' := by
  have H : ((tollgateref09_such.f k a0 (⟨#[63]⟩ : ByteArray)).bind fun t161 => (some t161)) = some r := h;clear h;obtain ⟨t161, A2, H⟩ := zA H;(try dsimp only at H);obtain rfl := zo H;go_enter Tryz.func57, Tryz.ntmps57;go_wp2_with (first | ((with_reducible refine gate_callee (f := 83) rfl ?_); refine zg (some 4) Tryz.func83 #[.string a0, .string (⟨#[63]⟩ : ByteArray)] ?_; (with_reducible refine (tollgateref09_such.calls k a0 (⟨#[63]⟩ : ByteArray) t161 _ A2.out).mono ?_); rintro e w' ⟨rfl, ⟨nd, rfl⟩⟩; refine ⟨_, rfl, ?_⟩));go_ret;exact ⟨zI, zD⟩

def IsS57 (w0 W : World) (g : Nat) (f0 : ByteArray) (f1 : ByteArray) (f2 : ByteArray) (f3 : ByteArray) (f4 : List (S84)) : Prop := ∃ A4 c4, W.heap[g]? = some (.cells #[.string f0, .string f1, .string f2, .string f3, .slice A4 f4.length c4] 57 (0, 0)) ∧ w0.heap.size ≤ g ∧ Kd.C k84 w0 A4 f4.length f4 ∧ (f4 = [] → A4 = none ∧ c4 = 0)
theorem IsS57.grown {w0 W : World} {g : Nat} {f0 : ByteArray} {f1 : ByteArray} {f2 : ByteArray} {f3 : ByteArray} {f4 : List (S84)} {W1 : World} {row : Option Nat} (h : IsS57 w0 W g f0 f1 f2 f3 f4) (hw : W.grownBy W1 row) (hne : some g ≠ row) : IsS57 w0 W1 g f0 f1 f2 f3 f4 := by
 obtain ⟨A4, c4, hb, hg, hr4⟩ := h;exact ⟨A4, c4, blk_grown hb hw hne, hg, hr4⟩
theorem IsS57.kept {w0 W : World} {g : Nat} {f0 : ByteArray} {f1 : ByteArray} {f2 : ByteArray} {f3 : ByteArray} {f4 : List (S84)} {W1 : World} {S : Nat → Prop} (h : IsS57 w0 W g f0 f1 f2 f3 f4) (hk : Kept W W1 S) (hne : ¬ S g) : IsS57 w0 W1 g f0 f1 f2 f3 f4 := by
 obtain ⟨A4, c4, hb, hg, hr4⟩ := h;exact ⟨A4, c4, blk_kept hb hk hne, hg, hr4⟩
theorem IsS57.below {w0 W : World} {g : Nat} {f0 : ByteArray} {f1 : ByteArray} {f2 : ByteArray} {f3 : ByteArray} {f4 : List (S84)} {W1 : World} (h : IsS57 w0 W g f0 f1 f2 f3 f4) (hw : Below W.heap.size W W1) : IsS57 w0 W1 g f0 f1 f2 f3 f4 := h.grown (grown_of_below hw none) (by simp)
theorem IsS57.alloc {w0 W : World} {g : Nat} {f0 : ByteArray} {f1 : ByteArray} {f2 : ByteArray} {f3 : ByteArray} {f4 : List (S84)} (h : IsS57 w0 W g f0 f1 f2 f3 f4) (o : Obj) : IsS57 w0 (W.alloc o) g f0 f1 f2 f3 f4 := h.below (below_alloc (Below.refl _ _) o)
theorem IsS57.drewN {w0 W : World} {g : Nat} {f0 : ByteArray} {f1 : ByteArray} {f2 : ByteArray} {f3 : ByteArray} {f4 : List (S84)} (h : IsS57 w0 W g f0 f1 f2 f3 f4) (m : Nat) : IsS57 w0 (W.drewN m) g f0 f1 f2 f3 f4 := h
theorem IsS57.drew {w0 W : World} {g : Nat} {f0 : ByteArray} {f1 : ByteArray} {f2 : ByteArray} {f3 : ByteArray} {f4 : List (S84)} (h : IsS57 w0 W g f0 f1 f2 f3 f4) : IsS57 w0 W.drew g f0 f1 f2 f3 f4 := h
theorem IsS57.at_ {w0 W : World} {g : Nat} {f0 : ByteArray} {f1 : ByteArray} {f2 : ByteArray} {f3 : ByteArray} {f4 : List (S84)} {w' : World} {m : Nat} (hq : W.drewN m = w') (h : IsS57 w0 W g f0 f1 f2 f3 f4) : IsS57 w0 w' g f0 f1 f2 f3 f4 := by subst hq; exact IsS57.drewN h m
theorem IsS57.apart {w0 W : World} {g : Nat} {f0 : ByteArray} {f1 : ByteArray} {f2 : ByteArray} {f3 : ByteArray} {f4 : List (S84)} {α : Type} {d : Kd α} {e : Nat} {base : Nat} {ok : Nat → Prop} {v : Value} {xs : List α} (h : IsS57 w0 W g f0 f1 f2 f3 f4) (ho : d.R e W base ok v xs) (ht : ∀ q, q ∈ e :: d.E → q ≠ 57) : d.R e W base (fun k => ok k ∧ k ≠ g) v xs := by
 obtain ⟨A4, c4, hb, hg, hr4⟩ := h;exact Kd.R_types ho hb ht
theorem IsS57.own_ne {w0 W : World} {g : Nat} {f0 : ByteArray} {f1 : ByteArray} {f2 : ByteArray} {f3 : ByteArray} {f4 : List (S84)} {α : Type} {d : Kd α} {e : Nat} {base : Nat} {ok : Nat → Prop} {v : Value} {xs : List α} (h : IsS57 w0 W g f0 f1 f2 f3 f4) (ho : d.R e W base ok v xs) (ht : e ≠ 57) : some g ≠ v.ownBlock := by
 obtain ⟨A4, c4, hb, hg, hr4⟩ := h;exact Kd.R_ne ho hb ht
theorem IsS57.lt {w0 W : World} {g : Nat} {f0 : ByteArray} {f1 : ByteArray} {f2 : ByteArray} {f3 : ByteArray} {f4 : List (S84)} (h : IsS57 w0 W g f0 f1 f2 f3 f4) : g < W.heap.size := by
 obtain ⟨A4, c4, hb, hg, hr4⟩ := h;exact blk_lt hb
theorem IsS57.ge {w0 W : World} {g : Nat} {f0 : ByteArray} {f1 : ByteArray} {f2 : ByteArray} {f3 : ByteArray} {f4 : List (S84)} (h : IsS57 w0 W g f0 f1 f2 f3 f4) : w0.heap.size ≤ g := by
 obtain ⟨A4, c4, hb, hg, hr4⟩ := h;exact hg
theorem IsS57.far {w0 W : World} {g : Nat} {f0 : ByteArray} {f1 : ByteArray} {f2 : ByteArray} {f3 : ByteArray} {f4 : List (S84)} {p : Addr} (h : IsS57 w0 W g f0 f1 f2 f3 f4) (hne : g ≠ p.block) (u : Value) : IsS57 w0 (W.setCell p u) g f0 f1 f2 f3 f4 := by
 obtain ⟨A4, c4, hb, hg, hr4⟩ := h;exact ⟨A4, c4, blk_far hb hne u, hg, hr4⟩
theorem cellS57_0 {W : World} {g : Nat} {A4 : Option Addr} {c4 : Nat} {f0 : ByteArray} {f1 : ByteArray} {f2 : ByteArray} {f3 : ByteArray} {f4 : List (S84)} (h : W.heap[g]? = some (.cells #[.string f0, .string f1, .string f2, .string f3, .slice A4 f4.length c4] 57 (0, 0))) : W.cell? ⟨g, 0, none⟩ = some (.string f0) := (blk_cell h 0).trans rfl
theorem IsS57.set_0 {w0 W : World} {g : Nat} {f0 : ByteArray} {f1 : ByteArray} {f2 : ByteArray} {f3 : ByteArray} {f4 : List (S84)} (h : IsS57 w0 W g f0 f1 f2 f3 f4) (x : ByteArray) : IsS57 w0 (W.setCell ⟨g, 0, none⟩ (.string x)) g x f1 f2 f3 f4 := by
 obtain ⟨A4, c4, hb, hg, hr4⟩ := h;exact ⟨A4, c4, by simpa using blk_set hb 0 (.string x), hg, hr4⟩
theorem cellS57_1 {W : World} {g : Nat} {A4 : Option Addr} {c4 : Nat} {f0 : ByteArray} {f1 : ByteArray} {f2 : ByteArray} {f3 : ByteArray} {f4 : List (S84)} (h : W.heap[g]? = some (.cells #[.string f0, .string f1, .string f2, .string f3, .slice A4 f4.length c4] 57 (0, 0))) : W.cell? ⟨g, 1, none⟩ = some (.string f1) := (blk_cell h 1).trans rfl
theorem IsS57.set_1 {w0 W : World} {g : Nat} {f0 : ByteArray} {f1 : ByteArray} {f2 : ByteArray} {f3 : ByteArray} {f4 : List (S84)} (h : IsS57 w0 W g f0 f1 f2 f3 f4) (x : ByteArray) : IsS57 w0 (W.setCell ⟨g, 1, none⟩ (.string x)) g f0 x f2 f3 f4 := by
 obtain ⟨A4, c4, hb, hg, hr4⟩ := h;exact ⟨A4, c4, by simpa using blk_set hb 1 (.string x), hg, hr4⟩
theorem cellS57_2 {W : World} {g : Nat} {A4 : Option Addr} {c4 : Nat} {f0 : ByteArray} {f1 : ByteArray} {f2 : ByteArray} {f3 : ByteArray} {f4 : List (S84)} (h : W.heap[g]? = some (.cells #[.string f0, .string f1, .string f2, .string f3, .slice A4 f4.length c4] 57 (0, 0))) : W.cell? ⟨g, 2, none⟩ = some (.string f2) := (blk_cell h 2).trans rfl
theorem IsS57.set_2 {w0 W : World} {g : Nat} {f0 : ByteArray} {f1 : ByteArray} {f2 : ByteArray} {f3 : ByteArray} {f4 : List (S84)} (h : IsS57 w0 W g f0 f1 f2 f3 f4) (x : ByteArray) : IsS57 w0 (W.setCell ⟨g, 2, none⟩ (.string x)) g f0 f1 x f3 f4 := by
 obtain ⟨A4, c4, hb, hg, hr4⟩ := h;exact ⟨A4, c4, by simpa using blk_set hb 2 (.string x), hg, hr4⟩
theorem cellS57_3 {W : World} {g : Nat} {A4 : Option Addr} {c4 : Nat} {f0 : ByteArray} {f1 : ByteArray} {f2 : ByteArray} {f3 : ByteArray} {f4 : List (S84)} (h : W.heap[g]? = some (.cells #[.string f0, .string f1, .string f2, .string f3, .slice A4 f4.length c4] 57 (0, 0))) : W.cell? ⟨g, 3, none⟩ = some (.string f3) := (blk_cell h 3).trans rfl
theorem IsS57.set_3 {w0 W : World} {g : Nat} {f0 : ByteArray} {f1 : ByteArray} {f2 : ByteArray} {f3 : ByteArray} {f4 : List (S84)} (h : IsS57 w0 W g f0 f1 f2 f3 f4) (x : ByteArray) : IsS57 w0 (W.setCell ⟨g, 3, none⟩ (.string x)) g f0 f1 f2 x f4 := by
 obtain ⟨A4, c4, hb, hg, hr4⟩ := h;exact ⟨A4, c4, by simpa using blk_set hb 3 (.string x), hg, hr4⟩
theorem cellS57_4 {W : World} {g : Nat} {A4 : Option Addr} {c4 : Nat} {f0 : ByteArray} {f1 : ByteArray} {f2 : ByteArray} {f3 : ByteArray} {f4 : List (S84)} (h : W.heap[g]? = some (.cells #[.string f0, .string f1, .string f2, .string f3, .slice A4 f4.length c4] 57 (0, 0))) : W.cell? ⟨g, 4, none⟩ = some (.slice A4 f4.length c4) := (blk_cell h 4).trans rfl
mutual
def tollgateref09_first.j0 : Nat → ByteArray → ByteArray → Bool → ByteArray → ByteArray → ByteArray → ByteArray → List (S84) → Option (Bool × ByteArray × ByteArray × ByteArray × ByteArray)
 | 0, _, _, _, _, _, _, _, _ => none
 | k + 1, x5, x8, x43, x2000, x2001, x2002, x2003, x2004 => if x43 = true then (some (false, x2000, x2001, x2002, x2003)) else ((tollgateref09_cut.f k x8 63).bind fun bt169 => ((tollgateref09_begins.f bt169.1 (⟨#[104, 116, 116, 112, 58, 47, 47]⟩ : ByteArray)).bind fun t172 => (if t172 = true then (if 7 ≤ (bt169.1.size : Int) then (tollgateref09_first.l0 k (bt169.1.extract 7 bt169.1.size) bt169.2.1 0 x5 x2001 x2002 x2003 x2004) else (none)) else ((tollgateref09_Path.f k bt169.1).bind fun t179 => (if t179 = true then ((tollgateref09_Query.f k bt169.2.1).bind fun t180 => (some (t180, x5, bt169.1, bt169.2.1, x2003))) else (some (false, x5, bt169.1, bt169.2.1, x2003)))))))
def tollgateref09_first.j2 : Nat → ByteArray → ByteArray → Int → ByteArray → ByteArray → ByteArray → ByteArray → List (S84) → Option (Bool × ByteArray × ByteArray × ByteArray × ByteArray)
 | 0, _, _, _, _, _, _, _, _ => none
 | k + 1, x11, x12, x14, x2000, x2001, x2002, x2003, x2004 => if 0 ≤ x14 then (if x14 ≤ (x11.size : Int) then ((tollgateref09_Host.f k (x11.extract 0 (x14 : Int).toNat)).bind fun bt173 => (if bt173.2 = true then (if (x11.extract (x14 : Int).toNat x11.size).toList = ([] : List UInt8) then ((tollgateref09_Path.f k (⟨#[47]⟩ : ByteArray)).bind fun t175 => (if t175 = true then ((tollgateref09_Query.f k x12).bind fun t176 => (some (t176, x2000, (⟨#[47]⟩ : ByteArray), x12, bt173.1))) else (some (false, x2000, (⟨#[47]⟩ : ByteArray), x12, bt173.1)))) else ((tollgateref09_Path.f k (x11.extract (x14 : Int).toNat x11.size)).bind fun t177 => (if t177 = true then ((tollgateref09_Query.f k x12).bind fun t178 => (some (t178, x2000, x11.extract (x14 : Int).toNat x11.size, x12, bt173.1))) else (some (false, x2000, x11.extract (x14 : Int).toNat x11.size, x12, bt173.1))))) else (some (false, x2000, x2001, x2002, x2003)))) else (none)) else (none)
def tollgateref09_first.l0 : Nat → ByteArray → ByteArray → Int → ByteArray → ByteArray → ByteArray → ByteArray → List (S84) → Option (Bool × ByteArray × ByteArray × ByteArray × ByteArray)
 | 0, _, _, _, _, _, _, _, _ => none
 | k + 1, x11, x12, x14, x2000, x2001, x2002, x2003, x2004 => if x14 < (x11.size : Int) then (if 0 ≤ x14 then (if (bt x11 x14) = 47 then (tollgateref09_first.j2 k x11 x12 x14 x2000 x2001 x2002 x2003 x2004) else (tollgateref09_first.l0 k x11 x12 (wrap64 (x14 + 1)) x2000 x2001 x2002 x2003 x2004)) else (none)) else (tollgateref09_first.j2 k x11 x12 x14 x2000 x2001 x2002 x2003 x2004)
end
def tollgateref09_first.f (k : Nat) (a0 : ByteArray) (s1_0 : ByteArray) (s1_1 : ByteArray) (s1_2 : ByteArray) (s1_3 : ByteArray) (s1_4 : List (S84)) : Option (Bool × ByteArray × ByteArray × ByteArray × ByteArray) := (tollgateref09_cut.f k a0 32).bind fun bt162 => ((tollgateref09_cut.f k bt162.2.1 32).bind fun bt165 => (if bt162.2.2 = true then (if bt165.2.2 = true then ((tollgateref09_Token.f k bt162.1).bind fun t168 => (if t168 = true then (tollgateref09_first.j0 k bt162.1 bt165.1 (bt165.2.1.toList != ([72, 84, 84, 80, 47, 49, 46, 49] : List UInt8)) s1_0 s1_1 s1_2 s1_3 s1_4) else (tollgateref09_first.j0 k bt162.1 bt165.1 true s1_0 s1_1 s1_2 s1_3 s1_4))) else (tollgateref09_first.j0 k bt162.1 bt165.1 true s1_0 s1_1 s1_2 s1_3 s1_4)) else (tollgateref09_first.j0 k bt162.1 bt165.1 true s1_0 s1_1 s1_2 s1_3 s1_4)))
theorem tollgateref09_first.mono_l : ∀ k, (∀ y0 y1 y2 y3 y4 y5 y6 y7, LeO (tollgateref09_first.j0 k y0 y1 y2 y3 y4 y5 y6 y7) (tollgateref09_first.j0 (k + 1) y0 y1 y2 y3 y4 y5 y6 y7)) ∧ (∀ y0 y1 y2 y3 y4 y5 y6 y7, LeO (tollgateref09_first.j2 k y0 y1 y2 y3 y4 y5 y6 y7) (tollgateref09_first.j2 (k + 1) y0 y1 y2 y3 y4 y5 y6 y7)) ∧ (∀ y0 y1 y2 y3 y4 y5 y6 y7, LeO (tollgateref09_first.l0 k y0 y1 y2 y3 y4 y5 y6 y7) (tollgateref09_first.l0 (k + 1) y0 y1 y2 y3 y4 y5 y6 y7))
 | 0 => ⟨fun _ _ _ _ _ _ _ _ r h => by simp [tollgateref09_first.j0] at h, fun _ _ _ _ _ _ _ _ r h => by simp [tollgateref09_first.j2] at h, fun _ _ _ _ _ _ _ _ r h => by simp [tollgateref09_first.l0] at h⟩
 | k + 1 => by
  obtain ⟨ih0, ih1, ih2⟩ := tollgateref09_first.mono_l k;refine ⟨?_, ?_, ?_⟩
  ·intro y0 y1 y2 y3 y4 y5 y6 y7;unfold tollgateref09_first.j0
   repeat' with_reducible first | exact ih0 _ _ _ _ _ _ _ _ | exact ih1 _ _ _ _ _ _ _ _ | exact ih2 _ _ _ _ _ _ _ _ | exact tollgateref09_Host.mono _ _ | exact tollgateref09_Path.mono _ _ | exact tollgateref09_Query.mono _ _ | exact tollgateref09_Token.mono _ _ | exact tollgateref09_cut.mono _ _ _ | exact LeO.refl _ | exact LeO.none _ | refine LeO.ite ?_ ?_ | refine LeO.bind ?_ (fun _ => ?_)
  ·intro y0 y1 y2 y3 y4 y5 y6 y7;unfold tollgateref09_first.j2
   repeat' with_reducible first | exact ih0 _ _ _ _ _ _ _ _ | exact ih1 _ _ _ _ _ _ _ _ | exact ih2 _ _ _ _ _ _ _ _ | exact tollgateref09_Host.mono _ _ | exact tollgateref09_Path.mono _ _ | exact tollgateref09_Query.mono _ _ | exact tollgateref09_Token.mono _ _ | exact tollgateref09_cut.mono _ _ _ | exact LeO.refl _ | exact LeO.none _ | refine LeO.ite ?_ ?_ | refine LeO.bind ?_ (fun _ => ?_)
  intro y0 y1 y2 y3 y4 y5 y6 y7;unfold tollgateref09_first.l0
  repeat' with_reducible first | exact ih0 _ _ _ _ _ _ _ _ | exact ih1 _ _ _ _ _ _ _ _ | exact ih2 _ _ _ _ _ _ _ _ | exact tollgateref09_Host.mono _ _ | exact tollgateref09_Path.mono _ _ | exact tollgateref09_Query.mono _ _ | exact tollgateref09_Token.mono _ _ | exact tollgateref09_cut.mono _ _ _ | exact LeO.refl _ | exact LeO.none _ | refine LeO.ite ?_ ?_ | refine LeO.bind ?_ (fun _ => ?_)
theorem tollgateref09_first.mono : ∀ a0 a1 a2 a3 a4 a5 k, LeO (tollgateref09_first.f k a0 a1 a2 a3 a4 a5) (tollgateref09_first.f (k + 1) a0 a1 a2 a3 a4 a5) := by
 intro a0 a1 a2 a3 a4 a5 k;obtain ⟨ih0, ih1, ih2⟩ := tollgateref09_first.mono_l k;unfold tollgateref09_first.f
 repeat' with_reducible first | exact ih0 _ _ _ _ _ _ _ _ | exact ih1 _ _ _ _ _ _ _ _ | exact ih2 _ _ _ _ _ _ _ _ | exact tollgateref09_Host.mono _ _ | exact tollgateref09_Path.mono _ _ | exact tollgateref09_Query.mono _ _ | exact tollgateref09_Token.mono _ _ | exact tollgateref09_cut.mono _ _ _ | exact LeO.refl _ | exact LeO.none _ | refine LeO.ite ?_ ?_ | refine LeO.bind ?_ (fun _ => ?_)
set_option maxHeartbeats 8000000 in
set_option maxRecDepth 100000 in
theorem tollgateref09_first.calls (k : Nat) (a0 : ByteArray) (g : Nat) (s1_0 : ByteArray) (s1_1 : ByteArray) (s1_2 : ByteArray) (s1_3 : ByteArray) (s1_4 : List (S84)) (r1 : Bool) (r2 : ByteArray) (r3 : ByteArray) (r4 : ByteArray) (r5 : ByteArray) (w0 w : World) (hI : IsS57 w0 w g s1_0 s1_1 s1_2 s1_3 s1_4) (hB : Below w0.heap.size w0 w) (h : tollgateref09_first.f k a0 s1_0 s1_1 s1_2 s1_3 s1_4 = some (r1, r2, r3, r4, r5)) :
  Calls Tryz.prog 31 #[.string a0, .pointer (some ⟨g, 0, none⟩)] w fun e w' => e = .returned (.bool r1) ∧ IsS57 w0 w' g r2 r3 r4 r5 s1_4 ∧ Below w0.heap.size w0 w' ∧ KeepBut w w' g none := by
 have HI1 := zN hI;have HK := zN (KeepBut.refl w g none);have HL := zN hB.size;clear hI;have HW0 := zN hB.size;have HB := zN hB;clear hB;have H : ((tollgateref09_cut.f k a0 32).bind fun bt162 => ((tollgateref09_cut.f k bt162.2.1 32).bind fun bt165 => (if bt162.2.2 = true then (if bt165.2.2 = true then ((tollgateref09_Token.f k bt162.1).bind fun t168 => (if t168 = true then (tollgateref09_first.j0 k bt162.1 bt165.1 (bt165.2.1.toList != ([72, 84, 84, 80, 47, 49, 46, 49] : List UInt8)) s1_0 s1_1 s1_2 s1_3 s1_4) else (tollgateref09_first.j0 k bt162.1 bt165.1 true s1_0 s1_1 s1_2 s1_3 s1_4))) else (tollgateref09_first.j0 k bt162.1 bt165.1 true s1_0 s1_1 s1_2 s1_3 s1_4)) else (tollgateref09_first.j0 k bt162.1 bt165.1 true s1_0 s1_1 s1_2 s1_3 s1_4)))) = some (r1, r2, r3, r4, r5) := h;clear h;obtain ⟨⟨t162, t163, t164⟩, A3, H⟩ := zA H;(try dsimp only at H);obtain ⟨⟨t165, t166, t167⟩, A4, H⟩ := zA H;(try dsimp only at H);have HC5 := zN H;clear H;go_enter Tryz.func31, Tryz.ntmps31;go_upto_region 3 with (first | ((with_reducible refine gate_callee (f := 32) rfl ?_); refine zg (some 19) Tryz.func32 #[.string a0, .int .u8 32] ?_; (with_reducible refine (tollgateref09_cut.calls k a0 32 t162 t163 t164 _ A3.out).mono ?_); rintro e w' ⟨rfl, ⟨nd, rfl⟩⟩; refine ⟨_, rfl, ?_⟩) | ((with_reducible refine gate_callee (f := 32) rfl ?_); refine zg (some 25) Tryz.func32 #[.string t163, .int .u8 32] ?_; (with_reducible refine (tollgateref09_cut.calls k t163 32 t165 t166 t167 _ A4.out).mono ?_); rintro e w' ⟨rfl, ⟨nd, rfl⟩⟩; refine ⟨_, rfl, ?_⟩))
 (try simp only [Act.put, List.setIfInBounds_toArray, List.set_cons_zero, List.set_cons_succ]);go_cut [43] (fun v43 wc => ∃ (kq : Nat) (x43_4 : Bool), v43 = .bool x43_4 ∧ Aside0 (tollgateref09_first.j0 kq t162 t165 x43_4 s1_0 s1_1 s1_2 s1_3 s1_4 = some (r1, r2, r3, r4, r5)) ∧ Aside0 (kq ≤ k) ∧ Aside0 (IsS57 w0 wc g s1_0 s1_1 s1_2 s1_3 s1_4) ∧ Aside0 (KeepBut w wc g none) ∧ Aside0 (Below w0.heap.size w0 wc))
 case first =>
  have H := HC5.out;clear HC5;by_cases c6 : t164 = true;rotate_left
  ·replace c6 := zq.mpr c6;subst c6;have H1 := H; rw [zn (show ¬ (false = true) by decide)] at H1;clear H;have H := H1;clear H1;have H' := zN H;clear H;go_wp2;go_meet
   case rel => exact ⟨_, (true), zI, H', ⟨by first | omega | exact zh _⟩, ⟨by repeat (first | (with_reducible first | exact HI1.out | apply IsS57.alloc | apply IsS57.drewN | apply IsS57.drew | apply IsS57.set_0 | apply IsS57.set_1 | apply IsS57.set_2 | apply IsS57.set_3) | exact HI1.out)⟩, ⟨by repeat (first | (with_reducible first | exact HK.out | apply KeepBut.set_ | apply keep_drewN | apply keep_drew | apply keep_alloc) | exact HK.out)⟩, ⟨by repeat (first | (with_reducible first | exact HB.out | apply below_alloc | apply pw_below_drewN | apply below_drew1 | refine below_set ?_ (IsS57.ge HI1.out)) | exact HB.out)⟩⟩
  subst c6;have H1 := H; rw [zp rfl] at H1;clear H;have H := H1;clear H1;by_cases c7 : t167 = true;rotate_left
  ·replace c7 := zq.mpr c7;subst c7;have H1 := H; rw [zn (show ¬ (false = true) by decide)] at H1;clear H;have H := H1;clear H1;have H' := zN H;clear H;go_wp2;go_meet
   case rel => exact ⟨_, (true), zI, H', ⟨by first | omega | exact zh _⟩, ⟨by repeat (first | (with_reducible first | exact HI1.out | apply IsS57.alloc | apply IsS57.drewN | apply IsS57.drew | apply IsS57.set_0 | apply IsS57.set_1 | apply IsS57.set_2 | apply IsS57.set_3) | exact HI1.out)⟩, ⟨by repeat (first | (with_reducible first | exact HK.out | apply KeepBut.set_ | apply keep_drewN | apply keep_drew | apply keep_alloc) | exact HK.out)⟩, ⟨by repeat (first | (with_reducible first | exact HB.out | apply below_alloc | apply pw_below_drewN | apply below_drew1 | refine below_set ?_ (IsS57.ge HI1.out)) | exact HB.out)⟩⟩
  subst c7;have H1 := H; rw [zp rfl] at H1;clear H;have H := H1;clear H1;obtain ⟨t168, A8, H⟩ := zA H;(try dsimp only at H);by_cases c9 : t168 = true
  ·subst c9;have H1 := H; rw [zp rfl] at H1;clear H;have H := H1;clear H1;have H' := zN H;clear H;go_wp2_with (first | (go_at_call 34; (with_reducible refine (tollgateref09_Token.calls k t162 true _ A8.out).mono ?_); rintro e w' ⟨rfl, ⟨nd, rfl⟩⟩));go_meet
   case rel => exact ⟨_, ((t166.toList != ([72, 84, 84, 80, 47, 49, 46, 49] : List UInt8))), zI, H', ⟨by first | omega | exact zh _⟩, ⟨by repeat (first | (with_reducible first | exact HI1.out | apply IsS57.alloc | apply IsS57.drewN | apply IsS57.drew | apply IsS57.set_0 | apply IsS57.set_1 | apply IsS57.set_2 | apply IsS57.set_3) | exact HI1.out)⟩, ⟨by repeat (first | (with_reducible first | exact HK.out | apply KeepBut.set_ | apply keep_drewN | apply keep_drew | apply keep_alloc) | exact HK.out)⟩, ⟨by repeat (first | (with_reducible first | exact HB.out | apply below_alloc | apply pw_below_drewN | apply below_drew1 | refine below_set ?_ (IsS57.ge HI1.out)) | exact HB.out)⟩⟩
  replace c9 := zq.mpr c9;subst c9;have H1 := H; rw [zn (show ¬ (false = true) by decide)] at H1;clear H;have H := H1;clear H1;have H' := zN H;clear H;go_wp2_with (first | (go_at_call 34; (with_reducible refine (tollgateref09_Token.calls k t162 false _ A8.out).mono ?_); rintro e w' ⟨rfl, ⟨nd, rfl⟩⟩));go_meet
  case rel => exact ⟨_, (true), zI, H', ⟨by first | omega | exact zh _⟩, ⟨by repeat (first | (with_reducible first | exact HI1.out | apply IsS57.alloc | apply IsS57.drewN | apply IsS57.drew | apply IsS57.set_0 | apply IsS57.set_1 | apply IsS57.set_2 | apply IsS57.set_3) | exact HI1.out)⟩, ⟨by repeat (first | (with_reducible first | exact HK.out | apply KeepBut.set_ | apply keep_drewN | apply keep_drew | apply keep_alloc) | exact HK.out)⟩, ⟨by repeat (first | (with_reducible first | exact HB.out | apply below_alloc | apply pw_below_drewN | apply below_drew1 | refine below_set ?_ (IsS57.ge HI1.out)) | exact HB.out)⟩⟩
 case rest =>
  clear HC5;obtain ⟨kq, x43_4, rfl, HA, HJ4, HI1, HK, HB⟩ := hcut;cases kq with
  | zero => exact absurd HA.out (by simp [tollgateref09_first.j0])
  | succ kj4 =>
   have H := HA.out;clear HA;simp only [tollgateref09_first.j0] at H;by_cases c10 : x43_4 = true
   ·subst c10;have H1 := H; rw [zp rfl] at H1;clear H;have H := H1;clear H1;simp only [Option.some.injEq, Prod.mk.injEq] at H;obtain ⟨rfl, rfl, rfl, rfl, rfl⟩ := H;go_wp2;go_ret;exact ⟨zE, by repeat (first | (with_reducible first | exact HI1.out | apply IsS57.alloc | apply IsS57.drewN | apply IsS57.drew | apply IsS57.set_0 | apply IsS57.set_1 | apply IsS57.set_2 | apply IsS57.set_3) | exact HI1.out), by repeat (first | (with_reducible first | exact HB.out | apply below_alloc | apply pw_below_drewN | apply below_drew1 | refine below_set ?_ (IsS57.ge HI1.out)) | exact HB.out), by repeat (first | (with_reducible first | exact HK.out | apply KeepBut.set_ | apply keep_drewN | apply keep_drew | apply keep_alloc) | exact HK.out)⟩
   replace c10 := zq.mpr c10;subst c10;have H1 := H; rw [zn (show ¬ (false = true) by decide)] at H1;clear H;have H := H1;clear H1;obtain ⟨⟨t169, t170, t171⟩, A11, H⟩ := zA H;(try dsimp only at H);obtain ⟨t172, A12, H⟩ := zA H;(try dsimp only at H);by_cases c13 : t172 = true;rotate_left
   ·replace c13 := zq.mpr c13;subst c13;have H1 := H; rw [zn (show ¬ (false = true) by decide)] at H1;clear H;have H := H1;clear H1;obtain ⟨t179, A43, H⟩ := zA H;(try dsimp only at H);by_cases c44 : t179 = true
    ·subst c44;have H1 := H; rw [zp rfl] at H1;clear H;have H := H1;clear H1;obtain ⟨t180, A45, H⟩ := zA H;(try dsimp only at H);simp only [Option.some.injEq, Prod.mk.injEq] at H;obtain ⟨rfl, rfl, rfl, rfl, rfl⟩ := H;obtain ⟨ASz46_4, cSz46_4, HGz46, hgz46, HSz46_4⟩ := HI1.out;have hcz46_0 := cellS57_0 HGz46;have hcz46_1 := cellS57_1 HGz46;have hcz46_2 := cellS57_2 HGz46;have hcz46_3 := cellS57_3 HGz46;have hcz46_4 := cellS57_4 HGz46;have hfz46_0 := blk_frozen HGz46 0;have hfz46_1 := blk_frozen HGz46 1;have hfz46_2 := blk_frozen HGz46 2;have hfz46_3 := blk_frozen HGz46 3;clear HGz46 hgz46;go_wp2_with (first | ((with_reducible refine gate_callee (f := 32) rfl ?_); refine zg (some 50) Tryz.func32 #[.string t165, .int .u8 63] ?_; (with_reducible refine (tollgateref09_cut.calls kj4 t165 63 t169 t170 t171 _ A11.out).mono ?_); rintro e w' ⟨rfl, ⟨nd, rfl⟩⟩; refine ⟨_, rfl, ?_⟩) | ((with_reducible refine gate_callee (f := 55) rfl ?_); refine zg (some 55) Tryz.func55 #[.string t169, .string (⟨#[104, 116, 116, 112, 58, 47, 47]⟩ : ByteArray)] ?_; (with_reducible refine (tollgateref09_begins.calls t169 (⟨#[104, 116, 116, 112, 58, 47, 47]⟩ : ByteArray) false _ A12.out).mono ?_); rintro e w' ⟨rfl, ⟨nd, rfl⟩⟩; refine ⟨_, rfl, ?_⟩) | ((with_reducible refine gate_callee (f := 56) rfl ?_); refine zg (some 97) Tryz.func56 #[.string t169] ?_; (with_reducible refine (tollgateref09_Path.calls kj4 t169 true _ A43.out).mono ?_); rintro e w' ⟨rfl, ⟨nd, rfl⟩⟩; refine ⟨_, rfl, ?_⟩) | (go_at_call 57; (with_reducible refine (tollgateref09_Query.calls kj4 t170 t180 _ A45.out).mono ?_); rintro e w' ⟨rfl, ⟨nd, rfl⟩⟩));go_ret;exact ⟨zE, by repeat (first | (with_reducible first | exact HI1.out | apply IsS57.alloc | apply IsS57.drewN | apply IsS57.drew | apply IsS57.set_0 | apply IsS57.set_1 | apply IsS57.set_2 | apply IsS57.set_3) | exact HI1.out), by repeat (first | (with_reducible first | exact HB.out | apply below_alloc | apply pw_below_drewN | apply below_drew1 | refine below_set ?_ (IsS57.ge HI1.out)) | exact HB.out), by repeat (first | (with_reducible first | exact HK.out | apply KeepBut.set_ | apply keep_drewN | apply keep_drew | apply keep_alloc) | exact HK.out)⟩
    replace c44 := zq.mpr c44;subst c44;have H1 := H; rw [zn (show ¬ (false = true) by decide)] at H1;clear H;have H := H1;clear H1;simp only [Option.some.injEq, Prod.mk.injEq] at H;obtain ⟨rfl, rfl, rfl, rfl, rfl⟩ := H;obtain ⟨ASz47_4, cSz47_4, HGz47, hgz47, HSz47_4⟩ := HI1.out;have hcz47_0 := cellS57_0 HGz47;have hcz47_1 := cellS57_1 HGz47;have hcz47_2 := cellS57_2 HGz47;have hcz47_3 := cellS57_3 HGz47;have hcz47_4 := cellS57_4 HGz47;have hfz47_0 := blk_frozen HGz47 0;have hfz47_1 := blk_frozen HGz47 1;have hfz47_2 := blk_frozen HGz47 2;have hfz47_3 := blk_frozen HGz47 3;clear HGz47 hgz47;go_wp2_with (first | ((with_reducible refine gate_callee (f := 32) rfl ?_); refine zg (some 50) Tryz.func32 #[.string t165, .int .u8 63] ?_; (with_reducible refine (tollgateref09_cut.calls kj4 t165 63 t169 t170 t171 _ A11.out).mono ?_); rintro e w' ⟨rfl, ⟨nd, rfl⟩⟩; refine ⟨_, rfl, ?_⟩) | ((with_reducible refine gate_callee (f := 55) rfl ?_); refine zg (some 55) Tryz.func55 #[.string t169, .string (⟨#[104, 116, 116, 112, 58, 47, 47]⟩ : ByteArray)] ?_; (with_reducible refine (tollgateref09_begins.calls t169 (⟨#[104, 116, 116, 112, 58, 47, 47]⟩ : ByteArray) false _ A12.out).mono ?_); rintro e w' ⟨rfl, ⟨nd, rfl⟩⟩; refine ⟨_, rfl, ?_⟩) | ((with_reducible refine gate_callee (f := 56) rfl ?_); refine zg (some 97) Tryz.func56 #[.string t169] ?_; (with_reducible refine (tollgateref09_Path.calls kj4 t169 false _ A43.out).mono ?_); rintro e w' ⟨rfl, ⟨nd, rfl⟩⟩; refine ⟨_, rfl, ?_⟩));go_ret;exact ⟨zE, by repeat (first | (with_reducible first | exact HI1.out | apply IsS57.alloc | apply IsS57.drewN | apply IsS57.drew | apply IsS57.set_0 | apply IsS57.set_1 | apply IsS57.set_2 | apply IsS57.set_3) | exact HI1.out), by repeat (first | (with_reducible first | exact HB.out | apply below_alloc | apply pw_below_drewN | apply below_drew1 | refine below_set ?_ (IsS57.ge HI1.out)) | exact HB.out), by repeat (first | (with_reducible first | exact HK.out | apply KeepBut.set_ | apply keep_drewN | apply keep_drew | apply keep_alloc) | exact HK.out)⟩
   subst c13;have H1 := H; rw [zp rfl] at H1;clear H;have H := H1;clear H1;by_cases c14 : 7 ≤ (t169.size : Int);rotate_left
   ·rw [zn c14] at H;exact absurd H (by simp)
   rw [zp c14] at H;have c14b0 := zu c14;have c14b1 := zt c14;clear c14;have HC15 := zN H;clear H;obtain ⟨ASz16_4, cSz16_4, HGz16, hgz16, HSz16_4⟩ := HI1.out;have hcz16_0 := cellS57_0 HGz16;have hcz16_1 := cellS57_1 HGz16;have hcz16_2 := cellS57_2 HGz16;have hcz16_3 := cellS57_3 HGz16;have hcz16_4 := cellS57_4 HGz16;have hfz16_0 := blk_frozen HGz16 0;have hfz16_1 := blk_frozen HGz16 1;have hfz16_2 := blk_frozen HGz16 2;have hfz16_3 := blk_frozen HGz16 3;clear HGz16 hgz16;go_upto_block 0 with (first | ((with_reducible refine gate_callee (f := 32) rfl ?_); refine zg (some 50) Tryz.func32 #[.string t165, .int .u8 63] ?_; (with_reducible refine (tollgateref09_cut.calls kj4 t165 63 t169 t170 t171 _ A11.out).mono ?_); rintro e w' ⟨rfl, ⟨nd, rfl⟩⟩; refine ⟨_, rfl, ?_⟩) | ((with_reducible refine gate_callee (f := 55) rfl ?_); refine zg (some 55) Tryz.func55 #[.string t169, .string (⟨#[104, 116, 116, 112, 58, 47, 47]⟩ : ByteArray)] ?_; (with_reducible refine (tollgateref09_begins.calls t169 (⟨#[104, 116, 116, 112, 58, 47, 47]⟩ : ByteArray) true _ A12.out).mono ?_); rintro e w' ⟨rfl, ⟨nd, rfl⟩⟩; refine ⟨_, rfl, ?_⟩))
   (try simp only [Act.put, List.setIfInBounds_toArray, List.set_cons_zero, List.set_cons_succ]);obtain ⟨z7, hz7⟩ : ∃ z : ByteArray, z = t169.extract 7 t169.size := ⟨_, rfl⟩;rw [← hz7] at HC15 ⊢;clear hz7;go_cut [14] (fun v14 wc => ∃ (kq : Nat) (x14_14 : Int), v14 = .int .i64 x14_14 ∧ Aside0 (tollgateref09_first.j2 kq z7 t170 x14_14 t162 s1_1 s1_2 s1_3 s1_4 = some (r1, r2, r3, r4, r5)) ∧ Aside0 (kq ≤ kj4) ∧ Aside0 (IsS57 w0 wc g t162 s1_1 s1_2 s1_3 s1_4) ∧ Aside0 (KeepBut w wc g none) ∧ Aside0 (Below w0.heap.size w0 wc))
   case first =>
    have H := HC15.out;clear HC15;have H' := zN H;clear H;go_wp2;go_loopg [14] kj4 (fun kq v14 w' => ∃ (x14_2 : Int), v14 = .int .i64 x14_2 ∧ Aside0 (tollgateref09_first.l0 kq z7 t170 x14_2 t162 s1_1 s1_2 s1_3 s1_4 = some (r1, r2, r3, r4, r5)) ∧ Aside0 (kq ≤ kj4) ∧ Aside0 (IsS57 w0 w' g t162 s1_1 s1_2 s1_3 s1_4) ∧ Aside0 (KeepBut w w' g none) ∧ Aside0 (Below w0.heap.size w0 w'))
    case atStart => exact ⟨(0), zI, H', ⟨zh _⟩, ⟨by repeat (first | (with_reducible first | exact HI1.out | apply IsS57.alloc | apply IsS57.drewN | apply IsS57.drew | apply IsS57.set_0 | apply IsS57.set_1 | apply IsS57.set_2 | apply IsS57.set_3) | exact HI1.out)⟩, ⟨by repeat (first | (with_reducible first | exact HK.out | apply KeepBut.set_ | apply keep_drewN | apply keep_drew | apply keep_alloc) | exact HK.out)⟩, ⟨by repeat (first | (with_reducible first | exact HB.out | apply below_alloc | apply pw_below_drewN | apply below_drew1 | refine below_set ?_ (IsS57.ge HI1.out)) | exact HB.out)⟩⟩
    case round =>
     clear H'
     try clear c10
     try clear c13
     try clear c14
     try clear c14b0
     try clear c14b1
     try clear hcz16_0
     try clear hcz16_1
     try clear hcz16_2
     try clear hcz16_3
     try clear hcz16_4
     try clear hfz16_0
     try clear hfz16_1
     try clear hfz16_2
     try clear hfz16_3
     obtain ⟨x14_2, rfl, HA, HK2, HI1, HK, HB⟩ := hrel;cases gk with
     | zero => exact absurd HA.out (by simp [tollgateref09_first.l0])
     | succ k2 =>
      have H := HA.out;clear HA;simp only [tollgateref09_first.l0] at H;by_cases c17 : x14_2 < (z7.size : Int);rotate_left
      ·rw [zn c17] at H;have c17b0 := zf c17;clear c17;(first | rw [c17b0] | (simp only [i64_w, i32_w]; rw [c17b0]) | skip);have H' := zN H;clear H;go_wp2;go_meet
       case rel => exact ⟨_, (x14_2), zI, H', ⟨by have := HJ4.out; have := HK2.out; first | omega | exact zh _⟩, ⟨by repeat (first | (with_reducible first | exact HI1.out | apply IsS57.alloc | apply IsS57.drewN | apply IsS57.drew | apply IsS57.set_0 | apply IsS57.set_1 | apply IsS57.set_2 | apply IsS57.set_3) | exact HI1.out)⟩, ⟨by repeat (first | (with_reducible first | exact HK.out | apply KeepBut.set_ | apply keep_drewN | apply keep_drew | apply keep_alloc) | exact HK.out)⟩, ⟨by repeat (first | (with_reducible first | exact HB.out | apply below_alloc | apply pw_below_drewN | apply below_drew1 | refine below_set ?_ (IsS57.ge HI1.out)) | exact HB.out)⟩⟩
      rw [zp c17] at H;have c17b0 := zt c17;clear c17;(first | rw [c17b0] | (simp only [i64_w, i32_w]; rw [c17b0]) | skip);by_cases c18 : 0 ≤ x14_2;rotate_left
      ·rw [zn c18] at H;exact absurd H (by simp)
      rw [zp c18] at H;have c18b0 := zt c18;clear c18;by_cases c20 : (bt z7 x14_2) = 47
      ·rw [zp c20] at H;have c20b0 := beq_iff_eq.mpr c20;have c20b1 := zc.mpr c20;clear c20;have H' := zN H;clear H;have p19 : 0 ≤ (x14_2 : Int) := zd zS;have q19 : x14_2 < (z7.size : Int) := zd zS;have hx19 := bt_at z7 x14_2;replace p19 := zu p19;replace q19 := zu q19;go_wp2;go_meet
       case rel => exact ⟨_, (x14_2), zI, H', ⟨by have := HJ4.out; have := HK2.out; first | omega | exact zh _⟩, ⟨by repeat (first | (with_reducible first | exact HI1.out | apply IsS57.alloc | apply IsS57.drewN | apply IsS57.drew | apply IsS57.set_0 | apply IsS57.set_1 | apply IsS57.set_2 | apply IsS57.set_3) | exact HI1.out)⟩, ⟨by repeat (first | (with_reducible first | exact HK.out | apply KeepBut.set_ | apply keep_drewN | apply keep_drew | apply keep_alloc) | exact HK.out)⟩, ⟨by repeat (first | (with_reducible first | exact HB.out | apply below_alloc | apply pw_below_drewN | apply below_drew1 | refine below_set ?_ (IsS57.ge HI1.out)) | exact HB.out)⟩⟩
      rw [zn c20] at H;have c20b0 := zb.mpr c20;have c20b1 := bne_iff_ne.mpr c20;have H' := zN H;clear H;have p19 : 0 ≤ (x14_2 : Int) := zd zS;have q19 : x14_2 < (z7.size : Int) := zd zS;have hx19 := bt_at z7 x14_2;replace p19 := zu p19;replace q19 := zu q19;go_wp2;go_roundg k2
      case measure => have := HJ4.out; have := HK2.out; omega
      case rel => exact ⟨(wrap64 (x14_2 + 1)), zI, H', ⟨by have := HJ4.out; have := HK2.out; omega⟩, ⟨by repeat (first | (with_reducible first | exact HI1.out | apply IsS57.alloc | apply IsS57.drewN | apply IsS57.drew | apply IsS57.set_0 | apply IsS57.set_1 | apply IsS57.set_2 | apply IsS57.set_3) | exact HI1.out)⟩, ⟨by repeat (first | (with_reducible first | exact HK.out | apply KeepBut.set_ | apply keep_drewN | apply keep_drew | apply keep_alloc) | exact HK.out)⟩, ⟨by repeat (first | (with_reducible first | exact HB.out | apply below_alloc | apply pw_below_drewN | apply below_drew1 | refine below_set ?_ (IsS57.ge HI1.out)) | exact HB.out)⟩⟩
   case rest =>
    clear HC15
    try clear c10
    try clear c13
    try clear c14
    try clear c14b0
    try clear c14b1
    try clear hcz16_0
    try clear hcz16_1
    try clear hcz16_2
    try clear hcz16_3
    try clear hcz16_4
    try clear hfz16_0
    try clear hfz16_1
    try clear hfz16_2
    try clear hfz16_3
    obtain ⟨kq, x14_14, rfl, HA, HJ14, HI1, HK, HB⟩ := hcut;cases kq with
    | zero => exact absurd HA.out (by simp [tollgateref09_first.j2])
    | succ kj14 =>
     have H := HA.out;clear HA;simp only [tollgateref09_first.j2] at H;by_cases c21 : 0 ≤ x14_14;rotate_left
     ·rw [zn c21] at H;exact absurd H (by simp)
     rw [zp c21] at H;have c21b0 := zu c21;have c21b1 := zt c21;clear c21;by_cases c22 : x14_14 ≤ (z7.size : Int);rotate_left
     ·rw [zn c22] at H;exact absurd H (by simp)
     rw [zp c22] at H;have c22b0 := zu c22;have c22b1 := zt c22;clear c22;obtain ⟨⟨t173, t174⟩, A23, H⟩ := zA H;(try dsimp only at H);by_cases c24 : t174 = true;rotate_left
     ·replace c24 := zq.mpr c24;subst c24;have H1 := H; rw [zn (show ¬ (false = true) by decide)] at H1;clear H;have H := H1;clear H1;simp only [Option.some.injEq, Prod.mk.injEq] at H;obtain ⟨rfl, rfl, rfl, rfl, rfl⟩ := H;go_wp2_with (first | ((with_reducible refine gate_callee (f := 37) rfl ?_); refine zg (some 74) Tryz.func37 #[.string (z7.extract 0 (x14_14 : Int).toNat)] ?_; (with_reducible refine (tollgateref09_Host.calls kj14 (z7.extract 0 (x14_14 : Int).toNat) t173 false _ A23.out).mono ?_); rintro e w42 ⟨rfl, hb⟩; refine ⟨_, rfl, ?_⟩; replace HK := zN (KeepBut.trans (by repeat (first | (with_reducible first | exact HK.out | apply KeepBut.set_ | apply keep_drewN | apply keep_drew | apply keep_alloc) | exact HK.out)) (KeepBut.of_below hb g none) (.inl rfl)); replace HB := zN (below_step (by repeat (first | (with_reducible first | exact HB.out | apply below_alloc | apply pw_below_drewN | apply below_drew1 | refine below_set ?_ (IsS57.ge HI1.out)) | exact HB.out)) hb); replace HI1 := zN (IsS57.below (by repeat (first | (with_reducible first | exact HI1.out | apply IsS57.alloc | apply IsS57.drewN | apply IsS57.drew | apply IsS57.set_0 | apply IsS57.set_1 | apply IsS57.set_2 | apply IsS57.set_3) | exact HI1.out)) hb); (try clear hb); (try clear hb2); (try clear hk); (try clear hi)));go_ret;exact ⟨zE, by repeat (first | (with_reducible first | exact HI1.out | apply IsS57.alloc | apply IsS57.drewN | apply IsS57.drew | apply IsS57.set_0 | apply IsS57.set_1 | apply IsS57.set_2 | apply IsS57.set_3) | exact HI1.out), by repeat (first | (with_reducible first | exact HB.out | apply below_alloc | apply pw_below_drewN | apply below_drew1 | refine below_set ?_ (IsS57.ge HI1.out)) | exact HB.out), by repeat (first | (with_reducible first | exact HK.out | apply KeepBut.set_ | apply keep_drewN | apply keep_drew | apply keep_alloc) | exact HK.out)⟩
     subst c24;have H1 := H; rw [zp rfl] at H1;clear H;have H := H1;clear H1;have c25b0 := zu (zd zS : 0 ≤ x14_14);have c26b0 := zu (zd zS : x14_14 ≤ (z7.size : Int));by_cases c27 : (z7.extract (x14_14 : Int).toNat z7.size).toList = ([] : List UInt8)
     ·rw [zp c27] at H;have c27b0 := beq_iff_eq.mpr c27;have c27b1 := zc.mpr c27;clear c27;obtain ⟨t175, A28, H⟩ := zA H;(try dsimp only at H);by_cases c29 : t175 = true
      ·subst c29;have H1 := H; rw [zp rfl] at H1;clear H;have H := H1;clear H1;obtain ⟨t176, A30, H⟩ := zA H;(try dsimp only at H);simp only [Option.some.injEq, Prod.mk.injEq] at H;obtain ⟨rfl, rfl, rfl, rfl, rfl⟩ := H;go_wp2_with (first | ((with_reducible refine gate_callee (f := 37) rfl ?_); refine zg (some 74) Tryz.func37 #[.string (z7.extract 0 (x14_14 : Int).toNat)] ?_; (with_reducible refine (tollgateref09_Host.calls kj14 (z7.extract 0 (x14_14 : Int).toNat) t173 true _ A23.out).mono ?_); rintro e w31 ⟨rfl, hb⟩; refine ⟨_, rfl, ?_⟩; replace HK := zN (KeepBut.trans (by repeat (first | (with_reducible first | exact HK.out | apply KeepBut.set_ | apply keep_drewN | apply keep_drew | apply keep_alloc) | exact HK.out)) (KeepBut.of_below hb g none) (.inl rfl)); replace HB := zN (below_step (by repeat (first | (with_reducible first | exact HB.out | apply below_alloc | apply pw_below_drewN | apply below_drew1 | refine below_set ?_ (IsS57.ge HI1.out)) | exact HB.out)) hb); replace HI1 := zN (IsS57.below (by repeat (first | (with_reducible first | exact HI1.out | apply IsS57.alloc | apply IsS57.drewN | apply IsS57.drew | apply IsS57.set_0 | apply IsS57.set_1 | apply IsS57.set_2 | apply IsS57.set_3) | exact HI1.out)) hb); (try clear hb); (try clear hb2); (try clear hk); (try clear hi); obtain ⟨ASz32_4, cSz32_4, HGz32, hgz32, HSz32_4⟩ := HI1.out; have hcz32_0 := cellS57_0 HGz32; have hcz32_1 := cellS57_1 HGz32; have hcz32_2 := cellS57_2 HGz32; have hcz32_3 := cellS57_3 HGz32; have hcz32_4 := cellS57_4 HGz32; have hfz32_0 := blk_frozen HGz32 0; have hfz32_1 := blk_frozen HGz32 1; have hfz32_2 := blk_frozen HGz32 2; have hfz32_3 := blk_frozen HGz32 3; clear HGz32 hgz32) | ((with_reducible refine gate_callee (f := 56) rfl ?_); refine zg (some 97) Tryz.func56 #[.string (⟨#[47]⟩ : ByteArray)] ?_; (with_reducible refine (tollgateref09_Path.calls kj14 (⟨#[47]⟩ : ByteArray) true _ A28.out).mono ?_); rintro e w' ⟨rfl, ⟨nd, rfl⟩⟩; refine ⟨_, rfl, ?_⟩) | (go_at_call 57; (with_reducible refine (tollgateref09_Query.calls kj14 t170 t176 _ A30.out).mono ?_); rintro e w' ⟨rfl, ⟨nd, rfl⟩⟩));go_ret;exact ⟨zE, by repeat (first | (with_reducible first | exact HI1.out | apply IsS57.alloc | apply IsS57.drewN | apply IsS57.drew | apply IsS57.set_0 | apply IsS57.set_1 | apply IsS57.set_2 | apply IsS57.set_3) | exact HI1.out), by repeat (first | (with_reducible first | exact HB.out | apply below_alloc | apply pw_below_drewN | apply below_drew1 | refine below_set ?_ (IsS57.ge HI1.out)) | exact HB.out), by repeat (first | (with_reducible first | exact HK.out | apply KeepBut.set_ | apply keep_drewN | apply keep_drew | apply keep_alloc) | exact HK.out)⟩
      replace c29 := zq.mpr c29;subst c29;have H1 := H; rw [zn (show ¬ (false = true) by decide)] at H1;clear H;have H := H1;clear H1;simp only [Option.some.injEq, Prod.mk.injEq] at H;obtain ⟨rfl, rfl, rfl, rfl, rfl⟩ := H;go_wp2_with (first | ((with_reducible refine gate_callee (f := 37) rfl ?_); refine zg (some 74) Tryz.func37 #[.string (z7.extract 0 (x14_14 : Int).toNat)] ?_; (with_reducible refine (tollgateref09_Host.calls kj14 (z7.extract 0 (x14_14 : Int).toNat) t173 true _ A23.out).mono ?_); rintro e w33 ⟨rfl, hb⟩; refine ⟨_, rfl, ?_⟩; replace HK := zN (KeepBut.trans (by repeat (first | (with_reducible first | exact HK.out | apply KeepBut.set_ | apply keep_drewN | apply keep_drew | apply keep_alloc) | exact HK.out)) (KeepBut.of_below hb g none) (.inl rfl)); replace HB := zN (below_step (by repeat (first | (with_reducible first | exact HB.out | apply below_alloc | apply pw_below_drewN | apply below_drew1 | refine below_set ?_ (IsS57.ge HI1.out)) | exact HB.out)) hb); replace HI1 := zN (IsS57.below (by repeat (first | (with_reducible first | exact HI1.out | apply IsS57.alloc | apply IsS57.drewN | apply IsS57.drew | apply IsS57.set_0 | apply IsS57.set_1 | apply IsS57.set_2 | apply IsS57.set_3) | exact HI1.out)) hb); (try clear hb); (try clear hb2); (try clear hk); (try clear hi); obtain ⟨ASz34_4, cSz34_4, HGz34, hgz34, HSz34_4⟩ := HI1.out; have hcz34_0 := cellS57_0 HGz34; have hcz34_1 := cellS57_1 HGz34; have hcz34_2 := cellS57_2 HGz34; have hcz34_3 := cellS57_3 HGz34; have hcz34_4 := cellS57_4 HGz34; have hfz34_0 := blk_frozen HGz34 0; have hfz34_1 := blk_frozen HGz34 1; have hfz34_2 := blk_frozen HGz34 2; have hfz34_3 := blk_frozen HGz34 3; clear HGz34 hgz34) | ((with_reducible refine gate_callee (f := 56) rfl ?_); refine zg (some 97) Tryz.func56 #[.string (⟨#[47]⟩ : ByteArray)] ?_; (with_reducible refine (tollgateref09_Path.calls kj14 (⟨#[47]⟩ : ByteArray) false _ A28.out).mono ?_); rintro e w' ⟨rfl, ⟨nd, rfl⟩⟩; refine ⟨_, rfl, ?_⟩));go_ret;exact ⟨zE, by repeat (first | (with_reducible first | exact HI1.out | apply IsS57.alloc | apply IsS57.drewN | apply IsS57.drew | apply IsS57.set_0 | apply IsS57.set_1 | apply IsS57.set_2 | apply IsS57.set_3) | exact HI1.out), by repeat (first | (with_reducible first | exact HB.out | apply below_alloc | apply pw_below_drewN | apply below_drew1 | refine below_set ?_ (IsS57.ge HI1.out)) | exact HB.out), by repeat (first | (with_reducible first | exact HK.out | apply KeepBut.set_ | apply keep_drewN | apply keep_drew | apply keep_alloc) | exact HK.out)⟩
     rw [zn c27] at H;have c27b0 := zb.mpr c27;have c27b1 := bne_iff_ne.mpr c27;obtain ⟨t177, A35, H⟩ := zA H;(try dsimp only at H);by_cases c36 : t177 = true
     ·subst c36;have H1 := H; rw [zp rfl] at H1;clear H;have H := H1;clear H1;obtain ⟨t178, A37, H⟩ := zA H;(try dsimp only at H);simp only [Option.some.injEq, Prod.mk.injEq] at H;obtain ⟨rfl, rfl, rfl, rfl, rfl⟩ := H;go_wp2_with (first | ((with_reducible refine gate_callee (f := 37) rfl ?_); refine zg (some 74) Tryz.func37 #[.string (z7.extract 0 (x14_14 : Int).toNat)] ?_; (with_reducible refine (tollgateref09_Host.calls kj14 (z7.extract 0 (x14_14 : Int).toNat) t173 true _ A23.out).mono ?_); rintro e w38 ⟨rfl, hb⟩; refine ⟨_, rfl, ?_⟩; replace HK := zN (KeepBut.trans (by repeat (first | (with_reducible first | exact HK.out | apply KeepBut.set_ | apply keep_drewN | apply keep_drew | apply keep_alloc) | exact HK.out)) (KeepBut.of_below hb g none) (.inl rfl)); replace HB := zN (below_step (by repeat (first | (with_reducible first | exact HB.out | apply below_alloc | apply pw_below_drewN | apply below_drew1 | refine below_set ?_ (IsS57.ge HI1.out)) | exact HB.out)) hb); replace HI1 := zN (IsS57.below (by repeat (first | (with_reducible first | exact HI1.out | apply IsS57.alloc | apply IsS57.drewN | apply IsS57.drew | apply IsS57.set_0 | apply IsS57.set_1 | apply IsS57.set_2 | apply IsS57.set_3) | exact HI1.out)) hb); (try clear hb); (try clear hb2); (try clear hk); (try clear hi); obtain ⟨ASz39_4, cSz39_4, HGz39, hgz39, HSz39_4⟩ := HI1.out; have hcz39_0 := cellS57_0 HGz39; have hcz39_1 := cellS57_1 HGz39; have hcz39_2 := cellS57_2 HGz39; have hcz39_3 := cellS57_3 HGz39; have hcz39_4 := cellS57_4 HGz39; have hfz39_0 := blk_frozen HGz39 0; have hfz39_1 := blk_frozen HGz39 1; have hfz39_2 := blk_frozen HGz39 2; have hfz39_3 := blk_frozen HGz39 3; clear HGz39 hgz39) | ((with_reducible refine gate_callee (f := 56) rfl ?_); refine zg (some 97) Tryz.func56 #[.string (z7.extract (x14_14 : Int).toNat z7.size)] ?_; (with_reducible refine (tollgateref09_Path.calls kj14 (z7.extract (x14_14 : Int).toNat z7.size) true _ A35.out).mono ?_); rintro e w' ⟨rfl, ⟨nd, rfl⟩⟩; refine ⟨_, rfl, ?_⟩) | (go_at_call 57; (with_reducible refine (tollgateref09_Query.calls kj14 t170 t178 _ A37.out).mono ?_); rintro e w' ⟨rfl, ⟨nd, rfl⟩⟩));go_ret;exact ⟨zE, by repeat (first | (with_reducible first | exact HI1.out | apply IsS57.alloc | apply IsS57.drewN | apply IsS57.drew | apply IsS57.set_0 | apply IsS57.set_1 | apply IsS57.set_2 | apply IsS57.set_3) | exact HI1.out), by repeat (first | (with_reducible first | exact HB.out | apply below_alloc | apply pw_below_drewN | apply below_drew1 | refine below_set ?_ (IsS57.ge HI1.out)) | exact HB.out), by repeat (first | (with_reducible first | exact HK.out | apply KeepBut.set_ | apply keep_drewN | apply keep_drew | apply keep_alloc) | exact HK.out)⟩
     replace c36 := zq.mpr c36;subst c36;have H1 := H; rw [zn (show ¬ (false = true) by decide)] at H1;clear H;have H := H1;clear H1;simp only [Option.some.injEq, Prod.mk.injEq] at H;obtain ⟨rfl, rfl, rfl, rfl, rfl⟩ := H;go_wp2_with (first | ((with_reducible refine gate_callee (f := 37) rfl ?_); refine zg (some 74) Tryz.func37 #[.string (z7.extract 0 (x14_14 : Int).toNat)] ?_; (with_reducible refine (tollgateref09_Host.calls kj14 (z7.extract 0 (x14_14 : Int).toNat) t173 true _ A23.out).mono ?_); rintro e w40 ⟨rfl, hb⟩; refine ⟨_, rfl, ?_⟩; replace HK := zN (KeepBut.trans (by repeat (first | (with_reducible first | exact HK.out | apply KeepBut.set_ | apply keep_drewN | apply keep_drew | apply keep_alloc) | exact HK.out)) (KeepBut.of_below hb g none) (.inl rfl)); replace HB := zN (below_step (by repeat (first | (with_reducible first | exact HB.out | apply below_alloc | apply pw_below_drewN | apply below_drew1 | refine below_set ?_ (IsS57.ge HI1.out)) | exact HB.out)) hb); replace HI1 := zN (IsS57.below (by repeat (first | (with_reducible first | exact HI1.out | apply IsS57.alloc | apply IsS57.drewN | apply IsS57.drew | apply IsS57.set_0 | apply IsS57.set_1 | apply IsS57.set_2 | apply IsS57.set_3) | exact HI1.out)) hb); (try clear hb); (try clear hb2); (try clear hk); (try clear hi); obtain ⟨ASz41_4, cSz41_4, HGz41, hgz41, HSz41_4⟩ := HI1.out; have hcz41_0 := cellS57_0 HGz41; have hcz41_1 := cellS57_1 HGz41; have hcz41_2 := cellS57_2 HGz41; have hcz41_3 := cellS57_3 HGz41; have hcz41_4 := cellS57_4 HGz41; have hfz41_0 := blk_frozen HGz41 0; have hfz41_1 := blk_frozen HGz41 1; have hfz41_2 := blk_frozen HGz41 2; have hfz41_3 := blk_frozen HGz41 3; clear HGz41 hgz41) | ((with_reducible refine gate_callee (f := 56) rfl ?_); refine zg (some 97) Tryz.func56 #[.string (z7.extract (x14_14 : Int).toNat z7.size)] ?_; (with_reducible refine (tollgateref09_Path.calls kj14 (z7.extract (x14_14 : Int).toNat z7.size) false _ A35.out).mono ?_); rintro e w' ⟨rfl, ⟨nd, rfl⟩⟩; refine ⟨_, rfl, ?_⟩));go_ret;exact ⟨zE, by repeat (first | (with_reducible first | exact HI1.out | apply IsS57.alloc | apply IsS57.drewN | apply IsS57.drew | apply IsS57.set_0 | apply IsS57.set_1 | apply IsS57.set_2 | apply IsS57.set_3) | exact HI1.out), by repeat (first | (with_reducible first | exact HB.out | apply below_alloc | apply pw_below_drewN | apply below_drew1 | refine below_set ?_ (IsS57.ge HI1.out)) | exact HB.out), by repeat (first | (with_reducible first | exact HK.out | apply KeepBut.set_ | apply keep_drewN | apply keep_drew | apply keep_alloc) | exact HK.out)⟩
def ref_first.f (k : Nat) (a0 : ByteArray) : Option (Bool × ByteArray × ByteArray × ByteArray × ByteArray) := tollgateref09_first.f k a0 (⟨#[]⟩ : ByteArray) (⟨#[]⟩ : ByteArray) (⟨#[]⟩ : ByteArray) (⟨#[]⟩ : ByteArray) []
theorem ref_first.mono : ∀ a0 k, LeO (ref_first.f k a0) (ref_first.f (k + 1) a0) := fun a0 k => tollgateref09_first.mono a0 _ _ _ _ _ k
theorem blk_keepB {W W' : World} {g h : Nat} {o : Obj} (hw : W.heap[g]? = some o) (hk : KeepBut W W' h none) (hne : g ≠ h) : W'.heap[g]? = some o :=
 (hk.2 g (Array.getElem?_eq_some_iff.1 hw).1 hne (by simp)).trans hw
theorem ref_first.box (k : Nat) (a0 : ByteArray) (g : Nat) (r1 : Bool) (r2 r3 r4 r5 : ByteArray) (w0 w : World) (hg : w.heap[g]? = some (.cells #[.string (⟨#[]⟩ : ByteArray), .string (⟨#[]⟩ : ByteArray), .string (⟨#[]⟩ : ByteArray), .string (⟨#[]⟩ : ByteArray), .slice none 0 0] 57 (0, 0)))
  (hge : w0.heap.size ≤ g) (hB : Below w0.heap.size w0 w) (h : ref_first.f k a0 = some (r1, r2, r3, r4, r5)) :
  Calls Tryz.prog 31 #[.string a0, .pointer (some ⟨g, 0, none⟩)] w fun e w' => e = .returned (.bool r1) ∧ w'.heap[g]? = some (.cells #[.string r2, .string r3, .string r4, .string r5, .slice none 0 0] 57 (0, 0)) ∧ Below w0.heap.size w0 w' ∧ KeepBut w w' g none := by
 refine (tollgateref09_first.calls k a0 g _ _ _ _ [] r1 r2 r3 r4 r5 w0 w ⟨none, 0, hg, hge, Kd.C_nil _ _, fun _ => ⟨rfl, rfl⟩⟩ hB h).mono ?_;rintro e w' ⟨he, ⟨A4, c4, hw', _, _, hn⟩, hb, hk⟩;obtain ⟨rfl, rfl⟩ := hn rfl;exact ⟨he, hw', hb, hk⟩

mutual
def tollgateref09_trimmed.j1 : Nat → ByteArray → Option (ByteArray)
 | 0, _ => none
 | k + 1, x0 => tollgateref09_trimmed.l1 k x0
def tollgateref09_trimmed.l1 : Nat → ByteArray → Option (ByteArray)
 | 0, _ => none
 | k + 1, x0 => if (x0.size : Int) > 0 then (if 0 ≤ (wrap64 ((x0.size : Int) - 1)) then (if (wrap64 ((x0.size : Int) - 1)) < (x0.size : Int) then (if (bt x0 (wrap64 ((x0.size : Int) - 1))) = 9 then (if (wrap64 ((x0.size : Int) - 1)) ≤ (x0.size : Int) then (tollgateref09_trimmed.l1 k (x0.extract 0 ((wrap64 ((x0.size : Int) - 1)) : Int).toNat)) else (none)) else (if (bt x0 (wrap64 ((x0.size : Int) - 1))) = 32 then (if (wrap64 ((x0.size : Int) - 1)) ≤ (x0.size : Int) then (tollgateref09_trimmed.l1 k (x0.extract 0 ((wrap64 ((x0.size : Int) - 1)) : Int).toNat)) else (none)) else (some x0))) else (none)) else (none)) else (some x0)
def tollgateref09_trimmed.l0 : Nat → ByteArray → Option (ByteArray)
 | 0, _ => none
 | k + 1, x0 => if (x0.size : Int) > 0 then (if 0 < (x0.size : Int) then (if (bt x0 0) = 9 then (if 1 ≤ (x0.size : Int) then (tollgateref09_trimmed.l0 k (x0.extract 1 x0.size)) else (none)) else (if (bt x0 0) = 32 then (if 1 ≤ (x0.size : Int) then (tollgateref09_trimmed.l0 k (x0.extract 1 x0.size)) else (none)) else (tollgateref09_trimmed.j1 k x0))) else (none)) else (tollgateref09_trimmed.j1 k x0)
end
def tollgateref09_trimmed.f (k : Nat) (a0 : ByteArray) : Option (ByteArray) := tollgateref09_trimmed.l0 k a0
theorem tollgateref09_trimmed.mono_l : ∀ k, (∀ y0, LeO (tollgateref09_trimmed.j1 k y0) (tollgateref09_trimmed.j1 (k + 1) y0)) ∧ (∀ y0, LeO (tollgateref09_trimmed.l1 k y0) (tollgateref09_trimmed.l1 (k + 1) y0)) ∧ (∀ y0, LeO (tollgateref09_trimmed.l0 k y0) (tollgateref09_trimmed.l0 (k + 1) y0))
 | 0 => ⟨fun _ r h => by simp [tollgateref09_trimmed.j1] at h, fun _ r h => by simp [tollgateref09_trimmed.l1] at h, fun _ r h => by simp [tollgateref09_trimmed.l0] at h⟩
 | k + 1 => by
  obtain ⟨ih0, ih1, ih2⟩ := tollgateref09_trimmed.mono_l k;refine ⟨?_, ?_, ?_⟩
  ·intro y0;unfold tollgateref09_trimmed.j1
   repeat' with_reducible first | exact ih0 _ | exact ih1 _ | exact ih2 _ | exact LeO.refl _ | exact LeO.none _ | refine LeO.ite ?_ ?_ | refine LeO.bind ?_ (fun _ => ?_)
  ·intro y0;unfold tollgateref09_trimmed.l1
   repeat' with_reducible first | exact ih0 _ | exact ih1 _ | exact ih2 _ | exact LeO.refl _ | exact LeO.none _ | refine LeO.ite ?_ ?_ | refine LeO.bind ?_ (fun _ => ?_)
  intro y0;unfold tollgateref09_trimmed.l0
  repeat' with_reducible first | exact ih0 _ | exact ih1 _ | exact ih2 _ | exact LeO.refl _ | exact LeO.none _ | refine LeO.ite ?_ ?_ | refine LeO.bind ?_ (fun _ => ?_)
theorem tollgateref09_trimmed.mono : ∀ a0 k, LeO (tollgateref09_trimmed.f k a0) (tollgateref09_trimmed.f (k + 1) a0) := by
 intro a0 k;obtain ⟨ih0, ih1, ih2⟩ := tollgateref09_trimmed.mono_l k;unfold tollgateref09_trimmed.f
 repeat' with_reducible first | exact ih0 _ | exact ih1 _ | exact ih2 _ | exact LeO.refl _ | exact LeO.none _ | refine LeO.ite ?_ ?_ | refine LeO.bind ?_ (fun _ => ?_)
set_option maxHeartbeats 8000000 in
set_option maxRecDepth 100000 in
theorem tollgateref09_trimmed.calls (k : Nat) (a0 : ByteArray) (r : ByteArray) (w : World) (h : tollgateref09_trimmed.f k a0 = some r) :
  Calls Tryz.prog 33 #[.string a0] w fun e w' => e = .returned (.string r) ∧ Drawn0 w w' := by
 have H : (tollgateref09_trimmed.l0 k a0) = some r := h;clear h;have HC2 := zN H;clear H;go_enter Tryz.func33, Tryz.ntmps33;go_upto_block 0 with (fail)
 go_cut [0] (fun v0 wc => ∃ (kq : Nat) (x0_1 : ByteArray), v0 = .string x0_1 ∧ Aside0 (tollgateref09_trimmed.j1 kq x0_1 = some r) ∧ Aside0 (kq ≤ k) ∧ Drawn0 w wc)
 case first =>
  have H := HC2.out;clear HC2;have H' := zN H;clear H;go_wp2;go_loopg [0] k (fun kq v0 w' => ∃ (x0_1 : ByteArray), v0 = .string x0_1 ∧ Aside0 (tollgateref09_trimmed.l0 kq x0_1 = some r) ∧ Aside0 (kq ≤ k) ∧ Drawn0 w w')
  case atStart => exact ⟨(a0), zI, H', ⟨zh _⟩, zD⟩
  case round =>
   clear H';obtain ⟨x0_1, rfl, HA, HK1, ⟨m1, rfl⟩⟩ := hrel;cases gk with
   | zero => exact absurd HA.out (by simp [tollgateref09_trimmed.l0])
   | succ k1 =>
    have H := HA.out;clear HA;simp only [tollgateref09_trimmed.l0] at H;by_cases c3 : (x0_1.size : Int) > 0;rotate_left
    ·rw [zn c3] at H;have c3b0 : decide (0 < (x0_1.size : Int)) = false := zf c3;have c3b1 : decide (0 < x0_1.size) = false := zf zO;clear c3;(first | rw [c3b0] | (simp only [i64_w, i32_w]; rw [c3b0]) | skip);have H' := zN H;clear H;go_wp2;go_meet
     case rel => exact ⟨_, (x0_1), zI, H', ⟨by have := HK1.out; first | omega | exact zh _⟩, zD⟩
    rw [zp c3] at H;have c3b0 : decide (0 < (x0_1.size : Int)) = true := zt c3;have c3b1 : decide (0 < x0_1.size) = true := zt zO;clear c3;(first | rw [c3b0] | (simp only [i64_w, i32_w]; rw [c3b0]) | skip);by_cases c4 : 0 < (x0_1.size : Int);rotate_left
    ·rw [zn c4] at H;exact absurd H (by simp)
    rw [zp c4] at H;have c4b0 := zt c4;have c4b1 : decide (0 < x0_1.size) = true := zt zO;clear c4;by_cases c6 : (bt x0_1 0) = 9
    ·rw [zp c6] at H;have c6b0 := beq_iff_eq.mpr c6;have c6b1 := zc.mpr c6;clear c6;by_cases c7 : 1 ≤ (x0_1.size : Int);rotate_left
     ·rw [zn c7] at H;exact absurd H (by simp)
     rw [zp c7] at H;have c7b0 := zu c7;have c7b1 := zt c7;clear c7;have H' := zN H;clear H;have p5 : 0 ≤ (0 : Int) := zO;have q5 : 0 < x0_1.size := (by have : (0 : Int) < (x0_1.size : Int) := zd zS; omega);have hx5 : ∀ h : 0 < x0_1.size, ((x0_1[0]'h).toNat : Int) = bt x0_1 0 := bt_at x0_1 0;clear p5;have qi5 : (0 < (x0_1.size : Int)) = True := zu (zd zS);replace q5 := zu q5;go_wp2;go_roundg k1
     case measure => have := HK1.out; omega
     case rel => exact ⟨(x0_1.extract 1 x0_1.size), zI, H', ⟨by have := HK1.out; omega⟩, zD⟩
    rw [zn c6] at H;have c6b0 := zb.mpr c6;have c6b1 := bne_iff_ne.mpr c6;by_cases c9 : (bt x0_1 0) = 32;rotate_left
    ·rw [zn c9] at H;have c9b0 := zb.mpr c9;have c9b1 := bne_iff_ne.mpr c9;have H' := zN H;clear H;have p5 : 0 ≤ (0 : Int) := zO;have q5 : 0 < x0_1.size := (by have : (0 : Int) < (x0_1.size : Int) := zd zS; omega);have hx5 : ∀ h : 0 < x0_1.size, ((x0_1[0]'h).toNat : Int) = bt x0_1 0 := bt_at x0_1 0;clear p5;have qi5 : (0 < (x0_1.size : Int)) = True := zu (zd zS);replace q5 := zu q5;have p8 : 0 ≤ (0 : Int) := zO;have q8 : 0 < x0_1.size := (by have : (0 : Int) < (x0_1.size : Int) := zd zS; omega);have hx8 : ∀ h : 0 < x0_1.size, ((x0_1[0]'h).toNat : Int) = bt x0_1 0 := bt_at x0_1 0;clear p8;have qi8 : (0 < (x0_1.size : Int)) = True := zu (zd zS);replace q8 := zu q8;go_wp2;go_meet
     case rel => exact ⟨_, (x0_1), zI, H', ⟨by have := HK1.out; first | omega | exact zh _⟩, zD⟩
    rw [zp c9] at H;have c9b0 := beq_iff_eq.mpr c9;have c9b1 := zc.mpr c9;clear c9;by_cases c10 : 1 ≤ (x0_1.size : Int);rotate_left
    ·rw [zn c10] at H;exact absurd H (by simp)
    rw [zp c10] at H;have c10b0 := zu c10;have c10b1 := zt c10;clear c10;have H' := zN H;clear H;have p5 : 0 ≤ (0 : Int) := zO;have q5 : 0 < x0_1.size := (by have : (0 : Int) < (x0_1.size : Int) := zd zS; omega);have hx5 : ∀ h : 0 < x0_1.size, ((x0_1[0]'h).toNat : Int) = bt x0_1 0 := bt_at x0_1 0;clear p5;have qi5 : (0 < (x0_1.size : Int)) = True := zu (zd zS);replace q5 := zu q5;have p8 : 0 ≤ (0 : Int) := zO;have q8 : 0 < x0_1.size := (by have : (0 : Int) < (x0_1.size : Int) := zd zS; omega);have hx8 : ∀ h : 0 < x0_1.size, ((x0_1[0]'h).toNat : Int) = bt x0_1 0 := bt_at x0_1 0;clear p8;have qi8 : (0 < (x0_1.size : Int)) = True := zu (zd zS);replace q8 := zu q8;go_wp2;go_roundg k1
    case measure => have := HK1.out; omega
    case rel => exact ⟨(x0_1.extract 1 x0_1.size), zI, H', ⟨by have := HK1.out; omega⟩, zD⟩
 case rest =>
  clear HC2;obtain ⟨kq, x0_1, rfl, HA, HJ1, ⟨mc1, rfl⟩⟩ := hcut;cases kq with
  | zero => exact absurd HA.out (by simp [tollgateref09_trimmed.j1])
  | succ kj1 =>
   have H := HA.out;clear HA;simp only [tollgateref09_trimmed.j1] at H;have H' := zN H;clear H;go_wp2;go_loopg [0] kj1 (fun kq v0 w' => ∃ (x0_2 : ByteArray), v0 = .string x0_2 ∧ Aside0 (tollgateref09_trimmed.l1 kq x0_2 = some r) ∧ Aside0 (kq ≤ kj1) ∧ Drawn0 w w')
   case atStart => exact ⟨(x0_1), zI, H', ⟨zh _⟩, zD⟩
   case round =>
    clear H';obtain ⟨x0_2, rfl, HA, HK2, ⟨m2, rfl⟩⟩ := hrel;cases gk with
    | zero => exact absurd HA.out (by simp [tollgateref09_trimmed.l1])
    | succ k2 =>
     have H := HA.out;clear HA;simp only [tollgateref09_trimmed.l1] at H;by_cases c11 : (x0_2.size : Int) > 0;rotate_left
     ·rw [zn c11] at H;have c11b0 : decide (0 < (x0_2.size : Int)) = false := zf c11;have c11b1 : decide (0 < x0_2.size) = false := zf zO;clear c11;obtain rfl := zo H;go_wp2;go_ret;exact ⟨zI, zD⟩
     rw [zp c11] at H;have c11b0 : decide (0 < (x0_2.size : Int)) = true := zt c11;have c11b1 : decide (0 < x0_2.size) = true := zt zO;clear c11;obtain ⟨ji12, hji12⟩ : ∃ j_ : Int, (wrap64 ((x0_2.size : Int) - 1)) = j_ := ⟨_, rfl⟩;replace H : (if 0 ≤ (ji12) then (if (ji12) < (x0_2.size : Int) then (if (bt x0_2 (ji12)) = 9 then (if (ji12) ≤ (x0_2.size : Int) then (tollgateref09_trimmed.l1 k2 (x0_2.extract 0 ((ji12) : Int).toNat)) else (none)) else (if (bt x0_2 (ji12)) = 32 then (if (ji12) ≤ (x0_2.size : Int) then (tollgateref09_trimmed.l1 k2 (x0_2.extract 0 ((ji12) : Int).toNat)) else (none)) else (some x0_2))) else (none)) else (none)) = some r := by first | (rw [hji12] at H; exact H) | (simp only [hji12] at H ⊢; exact H)
     have hji12w : (IntKind.i64.wrap ((x0_2.size : Int) - 1)) = ji12 := (i64_w _).trans hji12;by_cases c13 : 0 ≤ (ji12);rotate_left
     ·rw [zn c13] at H;exact absurd H (by simp)
     rw [zp c13] at H;have c13b0 := zt c13;clear c13;by_cases c14 : (ji12) < (x0_2.size : Int);rotate_left
     ·rw [zn c14] at H;exact absurd H (by simp)
     rw [zp c14] at H;have c14b0 := zt c14;clear c14;by_cases c16 : (bt x0_2 (ji12)) = 9
     ·rw [zp c16] at H;have c16b0 := beq_iff_eq.mpr c16;have c16b1 := zc.mpr c16;clear c16;have c17b0 := zu (zd zS : 0 ≤ (ji12));by_cases c18 : (ji12) ≤ (x0_2.size : Int);rotate_left
      ·rw [zn c18] at H;exact absurd H (by simp)
      rw [zp c18] at H;have c18b0 := zu c18;have c18b1 := zt c18;clear c18;have H' := zN H;clear H;have p15 : 0 ≤ ((ji12) : Int) := zd zS;have q15 : (ji12) < (x0_2.size : Int) := zd zS;have hx15 := bt_at x0_2 (ji12);replace p15 := zu p15;replace q15 := zu q15;go_wp2;go_roundg k2
      case measure => have := HJ1.out; have := HK2.out; omega
      case rel => exact ⟨(x0_2.extract 0 ((ji12) : Int).toNat), (by first | rfl | (simp; done) | (simp only [← hji12] <;> (first | rfl | simp)) | (simp [*]; done)), H', ⟨by have := HJ1.out; have := HK2.out; omega⟩, zD⟩
     rw [zn c16] at H;have c16b0 := zb.mpr c16;have c16b1 := bne_iff_ne.mpr c16;by_cases c20 : (bt x0_2 (ji12)) = 32;rotate_left
     ·rw [zn c20] at H;have c20b0 := zb.mpr c20;have c20b1 := bne_iff_ne.mpr c20;obtain rfl := zo H;have p15 : 0 ≤ ((ji12) : Int) := zd zS;have q15 : (ji12) < (x0_2.size : Int) := zd zS;have hx15 := bt_at x0_2 (ji12);replace p15 := zu p15;replace q15 := zu q15;have p19 : 0 ≤ ((ji12) : Int) := zd zS;have q19 : (ji12) < (x0_2.size : Int) := zd zS;have hx19 := bt_at x0_2 (ji12);replace p19 := zu p19;replace q19 := zu q19;go_wp2;go_ret;exact ⟨by first | rfl | (simp; done) | (simp only [← hji12] <;> (first | rfl | simp)) | (simp [*]; done), zD⟩
     rw [zp c20] at H;have c20b0 := beq_iff_eq.mpr c20;have c20b1 := zc.mpr c20;clear c20;have c21b0 := zu (zd zS : 0 ≤ (ji12));by_cases c22 : (ji12) ≤ (x0_2.size : Int);rotate_left
     ·rw [zn c22] at H;exact absurd H (by simp)
     rw [zp c22] at H;have c22b0 := zu c22;have c22b1 := zt c22;clear c22;have H' := zN H;clear H;have p15 : 0 ≤ ((ji12) : Int) := zd zS;have q15 : (ji12) < (x0_2.size : Int) := zd zS;have hx15 := bt_at x0_2 (ji12);replace p15 := zu p15;replace q15 := zu q15;have p19 : 0 ≤ ((ji12) : Int) := zd zS;have q19 : (ji12) < (x0_2.size : Int) := zd zS;have hx19 := bt_at x0_2 (ji12);replace p19 := zu p19;replace q19 := zu q19;go_wp2;go_roundg k2
     case measure => have := HJ1.out; have := HK2.out; omega
     case rel => exact ⟨(x0_2.extract 0 ((ji12) : Int).toNat), (by first | rfl | (simp; done) | (simp only [← hji12] <;> (first | rfl | simp)) | (simp [*]; done)), H', ⟨by have := HJ1.out; have := HK2.out; omega⟩, zD⟩

mutual
def tollgateref09_Value.l0 : Nat → ByteArray → Int → Option (Bool)
 | 0, _, _ => none
 | k + 1, x0, x3 => if x3 < (x0.size : Int) then (if x3 = 0 then (tollgateref09_Value.j1 k x0 x3 true) else (tollgateref09_Value.j1 k x0 x3 (x3 == (wrap64 ((x0.size : Int) - 1))))) else (some true)
def tollgateref09_Value.j1 : Nat → ByteArray → Int → Bool → Option (Bool)
 | 0, _, _, _ => none
 | k + 1, x0, x3, x4 => if 0 ≤ x3 then (if x3 < (x0.size : Int) then (if (bt x0 x3) = 9 then (tollgateref09_Value.j2 k x0 x3 x4 (bt x0 x3) true) else (tollgateref09_Value.j2 k x0 x3 x4 (bt x0 x3) ((bt x0 x3) == 32))) else (none)) else (none)
def tollgateref09_Value.j2 : Nat → ByteArray → Int → Bool → Int → Bool → Option (Bool)
 | 0, _, _, _, _, _ => none
 | k + 1, x0, x3, x4, x5, x29 => if x29 = true then (if x4 = true then (some false) else (tollgateref09_Value.l0 k x0 (wrap64 (x3 + 1)))) else (if x5 < 32 then (some false) else (if x5 = 127 then (some false) else (tollgateref09_Value.l0 k x0 (wrap64 (x3 + 1)))))
end
def tollgateref09_Value.f (k : Nat) (a0 : ByteArray) : Option (Bool) := tollgateref09_Value.l0 k a0 0
theorem tollgateref09_Value.mono_l : ∀ k, (∀ y0 y1, LeO (tollgateref09_Value.l0 k y0 y1) (tollgateref09_Value.l0 (k + 1) y0 y1)) ∧ (∀ y0 y1 y2, LeO (tollgateref09_Value.j1 k y0 y1 y2) (tollgateref09_Value.j1 (k + 1) y0 y1 y2)) ∧ (∀ y0 y1 y2 y3 y4, LeO (tollgateref09_Value.j2 k y0 y1 y2 y3 y4) (tollgateref09_Value.j2 (k + 1) y0 y1 y2 y3 y4))
 | 0 => ⟨fun _ _ r h => by simp [tollgateref09_Value.l0] at h, fun _ _ _ r h => by simp [tollgateref09_Value.j1] at h, fun _ _ _ _ _ r h => by simp [tollgateref09_Value.j2] at h⟩
 | k + 1 => by
  obtain ⟨ih0, ih1, ih2⟩ := tollgateref09_Value.mono_l k;refine ⟨?_, ?_, ?_⟩
  ·intro y0 y1;unfold tollgateref09_Value.l0
   repeat' with_reducible first | exact ih0 _ _ | exact ih1 _ _ _ | exact ih2 _ _ _ _ _ | exact LeO.refl _ | exact LeO.none _ | refine LeO.ite ?_ ?_ | refine LeO.bind ?_ (fun _ => ?_)
  ·intro y0 y1 y2;unfold tollgateref09_Value.j1
   repeat' with_reducible first | exact ih0 _ _ | exact ih1 _ _ _ | exact ih2 _ _ _ _ _ | exact LeO.refl _ | exact LeO.none _ | refine LeO.ite ?_ ?_ | refine LeO.bind ?_ (fun _ => ?_)
  intro y0 y1 y2 y3 y4;unfold tollgateref09_Value.j2
  repeat' with_reducible first | exact ih0 _ _ | exact ih1 _ _ _ | exact ih2 _ _ _ _ _ | exact LeO.refl _ | exact LeO.none _ | refine LeO.ite ?_ ?_ | refine LeO.bind ?_ (fun _ => ?_)
theorem tollgateref09_Value.mono : ∀ a0 k, LeO (tollgateref09_Value.f k a0) (tollgateref09_Value.f (k + 1) a0) := by
 intro a0 k;obtain ⟨ih0, ih1, ih2⟩ := tollgateref09_Value.mono_l k;unfold tollgateref09_Value.f
 repeat' with_reducible first | exact ih0 _ _ | exact ih1 _ _ _ | exact ih2 _ _ _ _ _ | exact LeO.refl _ | exact LeO.none _ | refine LeO.ite ?_ ?_ | refine LeO.bind ?_ (fun _ => ?_)
set_option maxHeartbeats 8000000 in
set_option maxRecDepth 100000 in
theorem tollgateref09_Value.calls (k : Nat) (a0 : ByteArray) (r : Bool) (w : World) (h : tollgateref09_Value.f k a0 = some r) :
  Calls Tryz.prog 35 #[.string a0] w fun e w' => e = .returned (.bool r) ∧ Drawn0 w w' := by
 have H : (tollgateref09_Value.l0 k a0 0) = some r := h;clear h;have H' := zN H;clear H;go_enter Tryz.func35, Tryz.ntmps35;go_wp2;go_loopg [3] k (fun kq v3 w' => ∃ (x3_1 : Int), v3 = .int .i64 x3_1 ∧ Aside0 (tollgateref09_Value.l0 kq a0 x3_1 = some r) ∧ Aside0 (kq ≤ k) ∧ Drawn0 w w')
 case atStart => exact ⟨(0), zI, H', ⟨zh _⟩, zD⟩
 case round =>
  clear H';obtain ⟨x3_1, rfl, HA, HK1, ⟨m1, rfl⟩⟩ := hrel;cases gk with
  | zero => exact absurd HA.out (by simp [tollgateref09_Value.l0])
  | succ k1 =>
   have H := HA.out;clear HA;simp only [tollgateref09_Value.l0] at H;by_cases c2 : x3_1 < (a0.size : Int);rotate_left
   ·rw [zn c2] at H;have c2b0 := zf c2;clear c2;obtain rfl := zo H;go_wp2;go_ret;exact ⟨zI, zD⟩
   rw [zp c2] at H;have c2b0 := zt c2;clear c2;have HC3 := zN H;clear H;go_upto_region 4 with (fail)
   go_cut [4] (fun v4 wc => ∃ (kq : Nat) (x4_2 : Bool), v4 = .bool x4_2 ∧ Aside0 (tollgateref09_Value.j1 kq a0 x3_1 x4_2 = some r) ∧ Aside0 (kq ≤ k1) ∧ Drawn0 w wc)
   case first =>
    have H := HC3.out;clear HC3;by_cases c4 : x3_1 = 0
    ·rw [zp c4] at H;have c4b0 := beq_iff_eq.mpr c4;have c4b1 := zc.mpr c4;clear c4;(first | rw [c4b0] | (simp only [i64_w, i32_w]; rw [c4b0]) | skip);have H' := zN H;clear H;go_wp2;go_meet
     case rel => exact ⟨_, (true), zI, H', ⟨by have := HK1.out; first | omega | exact zh _⟩, zD⟩
    rw [zn c4] at H;have c4b0 := zb.mpr c4;have c4b1 := bne_iff_ne.mpr c4;(first | rw [c4b0] | (simp only [i64_w, i32_w]; rw [c4b0]) | skip);have H' := zN H;clear H;go_wp2;go_meet
    case rel => exact ⟨_, ((x3_1 == (wrap64 ((a0.size : Int) - 1)))), zI, H', ⟨by have := HK1.out; first | omega | exact zh _⟩, zD⟩
   case rest =>
    clear HC3
    try clear c2
    try clear c2b0
    obtain ⟨kq, x4_2, rfl, HA, HJ2, ⟨mc2, rfl⟩⟩ := hcut;cases kq with
    | zero => exact absurd HA.out (by simp [tollgateref09_Value.j1])
    | succ kj2 =>
     have H := HA.out;clear HA;simp only [tollgateref09_Value.j1] at H;by_cases c5 : 0 ≤ x3_1;rotate_left
     ·rw [zn c5] at H;exact absurd H (by simp)
     rw [zp c5] at H;have c5b0 := zt c5;clear c5;by_cases c6 : x3_1 < (a0.size : Int);rotate_left
     ·rw [zn c6] at H;exact absurd H (by simp)
     rw [zp c6] at H;have c6b0 := zt c6;clear c6;have HC8 := zN H;clear H;have p7 : 0 ≤ (x3_1 : Int) := zd zS;have q7 : x3_1 < (a0.size : Int) := zd zS;have hx7 := bt_at a0 x3_1;replace p7 := zu p7;replace q7 := zu q7;go_upto_region 6 with (fail)
     go_cut [29] (fun v29 wc => ∃ (kq : Nat) (x29_7 : Bool), v29 = .bool x29_7 ∧ Aside0 (tollgateref09_Value.j2 kq a0 x3_1 x4_2 (bt a0 x3_1) x29_7 = some r) ∧ Aside0 (kq ≤ kj2) ∧ Drawn0 w wc)
     case first =>
      have H := HC8.out;clear HC8;by_cases c9 : (bt a0 x3_1) = 9
      ·rw [zp c9] at H;have c9b0 := beq_iff_eq.mpr c9;have c9b1 := zc.mpr c9;clear c9;(first | rw [c9b0] | (simp only [i64_w, i32_w]; rw [c9b0]) | skip);have H' := zN H;clear H;go_wp2;go_meet
       case rel => exact ⟨_, (true), zI, H', ⟨by have := HK1.out; have := HJ2.out; first | omega | exact zh _⟩, zD⟩
      rw [zn c9] at H;have c9b0 := zb.mpr c9;have c9b1 := bne_iff_ne.mpr c9;(first | rw [c9b0] | (simp only [i64_w, i32_w]; rw [c9b0]) | skip);have H' := zN H;clear H;go_wp2;go_meet
      case rel => exact ⟨_, (((bt a0 x3_1) == 32)), zI, H', ⟨by have := HK1.out; have := HJ2.out; first | omega | exact zh _⟩, zD⟩
     case rest =>
      clear HC8
      try clear c2
      try clear c2b0
      try clear c5
      try clear c5b0
      try clear c6
      try clear c6b0
      try clear p7
      try clear q7
      try clear hx7
      try clear p7
      try clear q7
      obtain ⟨kq, x29_7, rfl, HA, HJ7, ⟨mc7, rfl⟩⟩ := hcut;cases kq with
      | zero => exact absurd HA.out (by simp [tollgateref09_Value.j2])
      | succ kj7 =>
       have H := HA.out;clear HA;simp only [tollgateref09_Value.j2] at H;by_cases c10 : x29_7 = true
       ·subst c10;have H1 := H; rw [zp rfl] at H1;clear H;have H := H1;clear H1;by_cases c11 : x4_2 = true
        ·subst c11;have H1 := H; rw [zp rfl] at H1;clear H;have H := H1;clear H1;obtain rfl := zo H;go_wp2;go_ret;exact ⟨zI, zD⟩
        replace c11 := zq.mpr c11;subst c11;have H1 := H; rw [zn (show ¬ (false = true) by decide)] at H1;clear H;have H := H1;clear H1;have H' := zN H;clear H;go_wp2;go_roundg kj7
        case measure => have := HK1.out; have := HJ2.out; have := HJ7.out; omega
        case rel => exact ⟨(wrap64 (x3_1 + 1)), zI, H', ⟨by have := HK1.out; have := HJ2.out; have := HJ7.out; omega⟩, zD⟩
       replace c10 := zq.mpr c10;subst c10;have H1 := H; rw [zn (show ¬ (false = true) by decide)] at H1;clear H;have H := H1;clear H1;by_cases c12 : (bt a0 x3_1) < 32
       ·rw [zp c12] at H;have c12b0 := zt c12;clear c12;obtain rfl := zo H;go_wp2;go_ret;exact ⟨zI, zD⟩
       rw [zn c12] at H;have c12b0 := zf c12;clear c12;by_cases c13 : (bt a0 x3_1) = 127
       ·rw [zp c13] at H;have c13b0 := beq_iff_eq.mpr c13;have c13b1 := zc.mpr c13;clear c13;obtain rfl := zo H;go_wp2;go_ret;exact ⟨zI, zD⟩
       rw [zn c13] at H;have c13b0 := zb.mpr c13;have c13b1 := bne_iff_ne.mpr c13;have H' := zN H;clear H;go_wp2;go_roundg kj7
       case measure => have := HK1.out; have := HJ2.out; have := HJ7.out; omega
       case rel => exact ⟨(wrap64 (x3_1 + 1)), zI, H', ⟨by have := HK1.out; have := HJ2.out; have := HJ7.out; omega⟩, zD⟩

end Go.Proofs.YtahaihnlkohhgaaGreatDoor.S
end
