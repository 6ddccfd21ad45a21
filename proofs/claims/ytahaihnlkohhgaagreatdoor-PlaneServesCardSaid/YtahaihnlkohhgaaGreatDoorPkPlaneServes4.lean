/- Walks and plain facts, joined out of several texts: what the row of PlaneServes leads to. -/
import Derived.Test.YtahaihnlkohhgaaGreatDoorPkPlaneServes3
section
namespace Go.Proofs.YtahaihnlkohhgaaGreatDoor.S
open Go.RowKit Go.Proofs.YtahaihnlkohhgaaGreatDoorW.PrintWords Go.Proofs.YtahaihnlkohhgaaGreatDoorW.PrintLast Go.Proofs.YtahaihnlkohhgaaGreatDoorW.PrintMore
attribute [local go_sem] max2_int min2_int max_two min_two max_three min_three max_four min_four
attribute [local go_sem] fbin_eql fbin_neq fbin_lss fbin_leq fbin_gtr fbin_geq frun_add frun_sub frun_mul frun_quo frun_store fun_neg fcv_int fcv_same fb41 fb85
set_option linter.unusedVariables false
set_option linter.unusedSimpArgs false
mutual
def tollgateref09_Parse.l0 : Nat → List Int → Int → Int → Option (ByteArray × ByteArray × ByteArray × ByteArray × (List (S84)) × Int × Int)
 | 0, _, _, _ => none
 | k + 1, x0, x5, x6 => if (wrap64 (x6 + 4)) ≤ (x0.length : Int) then (if (wrap64 (x6 + 4)) ≤ 2048 then (tollgateref09_Parse.j1 k x0 x5 x6 (decide (x5 < 0))) else (tollgateref09_Parse.j1 k x0 x5 x6 false)) else (tollgateref09_Parse.j1 k x0 x5 x6 false)
def tollgateref09_Parse.j1 : Nat → List Int → Int → Int → Bool → Option (ByteArray × ByteArray × ByteArray × ByteArray × (List (S84)) × Int × Int)
 | 0, _, _, _, _ => none
 | k + 1, x0, x5, x6, x29 => if x29 = true then (if 0 ≤ x6 then (if x6 < (x0.length : Int) then (if (rd x0 x6) = 13 then (if 0 ≤ (wrap64 (x6 + 1)) then (if (wrap64 (x6 + 1)) < (x0.length : Int) then (if (rd x0 (wrap64 (x6 + 1))) = 10 then (if 0 ≤ (wrap64 (x6 + 2)) then (if (wrap64 (x6 + 2)) < (x0.length : Int) then (if (rd x0 (wrap64 (x6 + 2))) = 13 then (if 0 ≤ (wrap64 (x6 + 3)) then (if (wrap64 (x6 + 3)) < (x0.length : Int) then (if (rd x0 (wrap64 (x6 + 3))) = 10 then (tollgateref09_Parse.l0 k x0 x6 (wrap64 (x6 + 1))) else (tollgateref09_Parse.l0 k x0 x5 (wrap64 (x6 + 1)))) else (none)) else (none)) else (tollgateref09_Parse.l0 k x0 x5 (wrap64 (x6 + 1)))) else (none)) else (none)) else (tollgateref09_Parse.l0 k x0 x5 (wrap64 (x6 + 1)))) else (none)) else (none)) else (tollgateref09_Parse.l0 k x0 x5 (wrap64 (x6 + 1)))) else (none)) else (none)) else (if x5 < 0 then (tollgateref09_Parse.j2 k x0 x5 (decide ((x0.length : Int) < 2048))) else (tollgateref09_Parse.j2 k x0 x5 false))
def tollgateref09_Parse.j2 : Nat → List Int → Int → Bool → Option (ByteArray × ByteArray × ByteArray × ByteArray × (List (S84)) × Int × Int)
 | 0, _, _, _ => none
 | k + 1, x0, x5, x68 => if x68 = true then (some ((⟨#[]⟩ : ByteArray), (⟨#[]⟩ : ByteArray), (⟨#[]⟩ : ByteArray), (⟨#[]⟩ : ByteArray), ([] : List (S84)), 0, 3)) else (if x5 < 0 then (some ((⟨#[]⟩ : ByteArray), (⟨#[]⟩ : ByteArray), (⟨#[]⟩ : ByteArray), (⟨#[]⟩ : ByteArray), ([] : List (S84)), 0, 6)) else (if 0 ≤ x5 then (if x5 ≤ (x0.length : Int) then ((tollgateref09_lines.f k (strOfNums (x0.take (x5 : Int).toNat))).bind fun t187 => (if 0 < (t187.length : Int) then ((ref_first.f k (rdOf ByteArray.empty t187 0)).bind fun bt192 => (if bt192.1 = true then (tollgateref09_Parse.l1 k x5 t187 0 1 bt192.2.1 bt192.2.2.1 bt192.2.2.2.1 bt192.2.2.2.2 ([] : List (S84))) else (some ((⟨#[]⟩ : ByteArray), (⟨#[]⟩ : ByteArray), (⟨#[]⟩ : ByteArray), (⟨#[]⟩ : ByteArray), ([] : List (S84)), 0, 4)))) else (none))) else (none)) else (none)))
def tollgateref09_Parse.l1 : Nat → Int → List ByteArray → Int → Int → ByteArray → ByteArray → ByteArray → ByteArray → List (S84) → Option (ByteArray × ByteArray × ByteArray × ByteArray × (List (S84)) × Int × Int)
 | 0, _, _, _, _, _, _, _, _, _ => none
 | k + 1, x5, x7, x9, x10, x191000, x191001, x191002, x191003, x191004 => if x10 < (x7.length : Int) then (if 0 ≤ x10 then ((tollgateref09_cut.f k (rdOf ByteArray.empty x7 x10) 58).bind fun bt198 => ((tollgateref09_trimmed.f k bt198.2.1).bind fun t201 => (if bt198.2.2 = true then ((tollgateref09_Token.f k bt198.1).bind fun t202 => (if t202 = true then ((tollgateref09_Value.f k t201).bind fun t203 => (tollgateref09_Parse.j4 k x5 x7 x9 x10 bt198.1 t201 (!t203) x191000 x191001 x191002 x191003 x191004)) else (tollgateref09_Parse.j4 k x5 x7 x9 x10 bt198.1 t201 true x191000 x191001 x191002 x191003 x191004))) else (tollgateref09_Parse.j4 k x5 x7 x9 x10 bt198.1 t201 true x191000 x191001 x191002 x191003 x191004)))) else (none)) else (if x9 = 1 then (if (x191004.length : Int) > 32 then (some ((⟨#[]⟩ : ByteArray), (⟨#[]⟩ : ByteArray), (⟨#[]⟩ : ByteArray), (⟨#[]⟩ : ByteArray), ([] : List (S84)), 0, 6)) else (some (x191000, x191001, x191002, x191003, x191004, wrap64 (x5 + 4), 0))) else (some ((⟨#[]⟩ : ByteArray), (⟨#[]⟩ : ByteArray), (⟨#[]⟩ : ByteArray), (⟨#[]⟩ : ByteArray), ([] : List (S84)), 0, 4)))
def tollgateref09_Parse.j4 : Nat → Int → List ByteArray → Int → Int → ByteArray → ByteArray → Bool → ByteArray → ByteArray → ByteArray → ByteArray → List (S84) → Option (ByteArray × ByteArray × ByteArray × ByteArray × (List (S84)) × Int × Int)
 | 0, _, _, _, _, _, _, _, _, _, _, _, _ => none
 | k + 1, x5, x7, x9, x10, x11, x12, x113, x191000, x191001, x191002, x191003, x191004 => if x113 = true then (some ((⟨#[]⟩ : ByteArray), (⟨#[]⟩ : ByteArray), (⟨#[]⟩ : ByteArray), (⟨#[]⟩ : ByteArray), ([] : List (S84)), 0, 4)) else ((tollgateref09_Lower.f k x11).bind fun t204 => (if x191004.length < 4398046511104 then ((some (x191004 ++ [(⟨t204, x12⟩ : S84)] : List (S84))).bind fun y205 => (if t204.toList = ([104, 111, 115, 116] : List UInt8) then ((tollgateref09_Host.f k x12).bind fun bt208 => (if bt208.2 = true then (tollgateref09_Parse.j5 k x5 x7 (wrap64 (x9 + 1)) x10 bt208.1 (decide ((wrap64 (x9 + 1)) > 1)) x191000 x191001 x191002 x191003 y205) else (tollgateref09_Parse.j5 k x5 x7 (wrap64 (x9 + 1)) x10 bt208.1 true x191000 x191001 x191002 x191003 y205))) else (tollgateref09_Parse.l1 k x5 x7 x9 (wrap64 (x10 + 1)) x191000 x191001 x191002 x191003 y205))) else (none)))
def tollgateref09_Parse.j5 : Nat → Int → List ByteArray → Int → Int → ByteArray → Bool → ByteArray → ByteArray → ByteArray → ByteArray → List (S84) → Option (ByteArray × ByteArray × ByteArray × ByteArray × (List (S84)) × Int × Int)
 | 0, _, _, _, _, _, _, _, _, _, _, _ => none
 | k + 1, x5, x7, x9, x10, x14, x139, x191000, x191001, x191002, x191003, x191004 => if x139 = true then (some ((⟨#[]⟩ : ByteArray), (⟨#[]⟩ : ByteArray), (⟨#[]⟩ : ByteArray), (⟨#[]⟩ : ByteArray), ([] : List (S84)), 0, 4)) else (if x191003.toList = ([] : List UInt8) then (tollgateref09_Parse.l1 k x5 x7 x9 (wrap64 (x10 + 1)) x191000 x191001 x191002 x14 x191004) else (tollgateref09_Parse.l1 k x5 x7 x9 (wrap64 (x10 + 1)) x191000 x191001 x191002 x191003 x191004))
end
def tollgateref09_Parse.f (k : Nat) (l0 : List Int) : Option (ByteArray × ByteArray × ByteArray × ByteArray × (List (S84)) × Int × Int) := tollgateref09_Parse.l0 k l0 (-1) 0
theorem tollgateref09_Parse.mono_l : ∀ k, (∀ y0 y1 y2, LeO (tollgateref09_Parse.l0 k y0 y1 y2) (tollgateref09_Parse.l0 (k + 1) y0 y1 y2)) ∧ (∀ y0 y1 y2 y3, LeO (tollgateref09_Parse.j1 k y0 y1 y2 y3) (tollgateref09_Parse.j1 (k + 1) y0 y1 y2 y3)) ∧ (∀ y0 y1 y2, LeO (tollgateref09_Parse.j2 k y0 y1 y2) (tollgateref09_Parse.j2 (k + 1) y0 y1 y2)) ∧ (∀ y0 y1 y2 y3 y4 y5 y6 y7 y8, LeO (tollgateref09_Parse.l1 k y0 y1 y2 y3 y4 y5 y6 y7 y8) (tollgateref09_Parse.l1 (k + 1) y0 y1 y2 y3 y4 y5 y6 y7 y8)) ∧ (∀ y0 y1 y2 y3 y4 y5 y6 y7 y8 y9 y10 y11, LeO (tollgateref09_Parse.j4 k y0 y1 y2 y3 y4 y5 y6 y7 y8 y9 y10 y11) (tollgateref09_Parse.j4 (k + 1) y0 y1 y2 y3 y4 y5 y6 y7 y8 y9 y10 y11)) ∧ (∀ y0 y1 y2 y3 y4 y5 y6 y7 y8 y9 y10, LeO (tollgateref09_Parse.j5 k y0 y1 y2 y3 y4 y5 y6 y7 y8 y9 y10) (tollgateref09_Parse.j5 (k + 1) y0 y1 y2 y3 y4 y5 y6 y7 y8 y9 y10))
 | 0 => ⟨fun _ _ _ r h => by simp [tollgateref09_Parse.l0] at h, fun _ _ _ _ r h => by simp [tollgateref09_Parse.j1] at h, fun _ _ _ r h => by simp [tollgateref09_Parse.j2] at h, fun _ _ _ _ _ _ _ _ _ r h => by simp [tollgateref09_Parse.l1] at h, fun _ _ _ _ _ _ _ _ _ _ _ _ r h => by simp [tollgateref09_Parse.j4] at h, fun _ _ _ _ _ _ _ _ _ _ _ r h => by simp [tollgateref09_Parse.j5] at h⟩
 | k + 1 => by
  obtain ⟨ih0, ih1, ih2, ih3, ih4, ih5⟩ := tollgateref09_Parse.mono_l k;refine ⟨?_, ?_, ?_, ?_, ?_, ?_⟩
  ·intro y0 y1 y2;unfold tollgateref09_Parse.l0
   repeat' with_reducible first | exact ih0 _ _ _ | exact ih1 _ _ _ _ | exact ih2 _ _ _ | exact ih3 _ _ _ _ _ _ _ _ _ | exact ih4 _ _ _ _ _ _ _ _ _ _ _ _ | exact ih5 _ _ _ _ _ _ _ _ _ _ _ | exact ref_first.mono _ _ | exact tollgateref09_Host.mono _ _ | exact tollgateref09_Lower.mono _ _ | exact tollgateref09_Token.mono _ _ | exact tollgateref09_Value.mono _ _ | exact tollgateref09_cut.mono _ _ _ | exact tollgateref09_lines.mono _ _ | exact tollgateref09_trimmed.mono _ _ | exact LeO.refl _ | exact LeO.none _ | refine LeO.ite ?_ ?_ | refine LeO.bind ?_ (fun _ => ?_)
  ·intro y0 y1 y2 y3;unfold tollgateref09_Parse.j1
   repeat' with_reducible first | exact ih0 _ _ _ | exact ih1 _ _ _ _ | exact ih2 _ _ _ | exact ih3 _ _ _ _ _ _ _ _ _ | exact ih4 _ _ _ _ _ _ _ _ _ _ _ _ | exact ih5 _ _ _ _ _ _ _ _ _ _ _ | exact ref_first.mono _ _ | exact tollgateref09_Host.mono _ _ | exact tollgateref09_Lower.mono _ _ | exact tollgateref09_Token.mono _ _ | exact tollgateref09_Value.mono _ _ | exact tollgateref09_cut.mono _ _ _ | exact tollgateref09_lines.mono _ _ | exact tollgateref09_trimmed.mono _ _ | exact LeO.refl _ | exact LeO.none _ | refine LeO.ite ?_ ?_ | refine LeO.bind ?_ (fun _ => ?_)
  ·intro y0 y1 y2;unfold tollgateref09_Parse.j2
   repeat' with_reducible first | exact ih0 _ _ _ | exact ih1 _ _ _ _ | exact ih2 _ _ _ | exact ih3 _ _ _ _ _ _ _ _ _ | exact ih4 _ _ _ _ _ _ _ _ _ _ _ _ | exact ih5 _ _ _ _ _ _ _ _ _ _ _ | exact ref_first.mono _ _ | exact tollgateref09_Host.mono _ _ | exact tollgateref09_Lower.mono _ _ | exact tollgateref09_Token.mono _ _ | exact tollgateref09_Value.mono _ _ | exact tollgateref09_cut.mono _ _ _ | exact tollgateref09_lines.mono _ _ | exact tollgateref09_trimmed.mono _ _ | exact LeO.refl _ | exact LeO.none _ | refine LeO.ite ?_ ?_ | refine LeO.bind ?_ (fun _ => ?_)
  ·intro y0 y1 y2 y3 y4 y5 y6 y7 y8;unfold tollgateref09_Parse.l1
   repeat' with_reducible first | exact ih0 _ _ _ | exact ih1 _ _ _ _ | exact ih2 _ _ _ | exact ih3 _ _ _ _ _ _ _ _ _ | exact ih4 _ _ _ _ _ _ _ _ _ _ _ _ | exact ih5 _ _ _ _ _ _ _ _ _ _ _ | exact ref_first.mono _ _ | exact tollgateref09_Host.mono _ _ | exact tollgateref09_Lower.mono _ _ | exact tollgateref09_Token.mono _ _ | exact tollgateref09_Value.mono _ _ | exact tollgateref09_cut.mono _ _ _ | exact tollgateref09_lines.mono _ _ | exact tollgateref09_trimmed.mono _ _ | exact LeO.refl _ | exact LeO.none _ | refine LeO.ite ?_ ?_ | refine LeO.bind ?_ (fun _ => ?_)
  ·intro y0 y1 y2 y3 y4 y5 y6 y7 y8 y9 y10 y11;unfold tollgateref09_Parse.j4
   repeat' with_reducible first | exact ih0 _ _ _ | exact ih1 _ _ _ _ | exact ih2 _ _ _ | exact ih3 _ _ _ _ _ _ _ _ _ | exact ih4 _ _ _ _ _ _ _ _ _ _ _ _ | exact ih5 _ _ _ _ _ _ _ _ _ _ _ | exact ref_first.mono _ _ | exact tollgateref09_Host.mono _ _ | exact tollgateref09_Lower.mono _ _ | exact tollgateref09_Token.mono _ _ | exact tollgateref09_Value.mono _ _ | exact tollgateref09_cut.mono _ _ _ | exact tollgateref09_lines.mono _ _ | exact tollgateref09_trimmed.mono _ _ | exact LeO.refl _ | exact LeO.none _ | refine LeO.ite ?_ ?_ | refine LeO.bind ?_ (fun _ => ?_)
  intro y0 y1 y2 y3 y4 y5 y6 y7 y8 y9 y10;unfold tollgateref09_Parse.j5
  repeat' with_reducible first | exact ih0 _ _ _ | exact ih1 _ _ _ _ | exact ih2 _ _ _ | exact ih3 _ _ _ _ _ _ _ _ _ | exact ih4 _ _ _ _ _ _ _ _ _ _ _ _ | exact ih5 _ _ _ _ _ _ _ _ _ _ _ | exact ref_first.mono _ _ | exact tollgateref09_Host.mono _ _ | exact tollgateref09_Lower.mono _ _ | exact tollgateref09_Token.mono _ _ | exact tollgateref09_Value.mono _ _ | exact tollgateref09_cut.mono _ _ _ | exact tollgateref09_lines.mono _ _ | exact tollgateref09_trimmed.mono _ _ | exact LeO.refl _ | exact LeO.none _ | refine LeO.ite ?_ ?_ | refine LeO.bind ?_ (fun _ => ?_)
theorem tollgateref09_Parse.mono : ∀ a0 k, LeO (tollgateref09_Parse.f k a0) (tollgateref09_Parse.f (k + 1) a0) := by
 intro a0 k;obtain ⟨ih0, ih1, ih2, ih3, ih4, ih5⟩ := tollgateref09_Parse.mono_l k;unfold tollgateref09_Parse.f
 repeat' with_reducible first | exact ih0 _ _ _ | exact ih1 _ _ _ _ | exact ih2 _ _ _ | exact ih3 _ _ _ _ _ _ _ _ _ | exact ih4 _ _ _ _ _ _ _ _ _ _ _ _ | exact ih5 _ _ _ _ _ _ _ _ _ _ _ | exact ref_first.mono _ _ | exact tollgateref09_Host.mono _ _ | exact tollgateref09_Lower.mono _ _ | exact tollgateref09_Token.mono _ _ | exact tollgateref09_Value.mono _ _ | exact tollgateref09_cut.mono _ _ _ | exact tollgateref09_lines.mono _ _ | exact tollgateref09_trimmed.mono _ _ | exact LeO.refl _ | exact LeO.none _ | refine LeO.ite ?_ ?_ | refine LeO.bind ?_ (fun _ => ?_)
theorem keepR {α : Type} {d : Kd α} {e base g : Nat} {ok : Nat → Prop} {v : Value} {xs : List α} {w w1 : World} (h : d.R e w base ok v xs) (hk : KeepBut w w1 g none) (hok : ∀ k, ok k → k ≠ g) : d.R e w1 base ok v xs :=
 Kd.R_step h (fun k ho hlt => hk.2 k hlt (hok k ho) (by simp))
set_option maxHeartbeats 8000000 in
set_option maxRecDepth 100000 in
theorem tollgateref09_Parse.calls (k : Nat) (A0 : Option Addr) (c0 : Nat) (l0 : List Int) (r1 : ByteArray) (r2 : ByteArray) (r3 : ByteArray) (r4 : ByteArray) (r5 : List (S84)) (r6 : Int) (r7 : Int) (w : World) (hr0 : Kd.C (Kd.int .u8) w A0 l0.length l0) (hc0 : l0.length ≤ c0) (h : tollgateref09_Parse.f k l0 = some (r1, r2, r3, r4, r5, r6, r7)) :
  Calls Tryz.prog 18 #[.slice A0 l0.length c0] w fun e w' => ∃ v4_ : Value, e = .returned (.tuple #[.agg #[.string r1, .string r2, .string r3, .string r4, v4_], .int .i64 r6, .int .i64 r7]) ∧ Kd.R k84 84 w' w.heap.size (fun _ => True) v4_ r5 ∧ Below w.heap.size w w' := by
 have hu57 := Tryz.underlying57;have hu84 := Tryz.underlying84;have HR0 := zN hr0;have HC0 := zN hc0;clear hr0 hc0;have HB := zN (Below.refl w.heap.size w);have H : (tollgateref09_Parse.l0 k l0 (-1) 0) = some (r1, r2, r3, r4, r5, r6, r7) := h;clear h;have H' := zN H;clear H;go_enter Tryz.func18, Tryz.ntmps18;go_wp2_with (first | ((with_reducible refine gate_dst (N := 2) rfl ?_); (try (refine gate_guard (by rfl) ?_; dsimp only)); refine zX #[.string (⟨#[]⟩ : ByteArray), .string (⟨#[]⟩ : ByteArray), .string (⟨#[]⟩ : ByteArray), .string (⟨#[]⟩ : ByteArray), .slice none 0 0] 57 rfl ?_; intro gb181 hg w2 hbox hb; have BK181 := zN hbox; have GW181 := zY w (zB HB) hg; have GE181 := zY w (zB HB) hg; replace HB := zk HB hb; clear hb hbox hg));go_loopg [5, 6] k (fun kq v5 v6 w' => ∃ (x5_1 : Int) (x6_1 : Int), v5 = .int .i64 x5_1 ∧ v6 = .int .i64 x6_1 ∧ Aside0 (tollgateref09_Parse.l0 kq l0 x5_1 x6_1 = some (r1, r2, r3, r4, r5, r6, r7)) ∧ Aside0 (kq ≤ k) ∧ Aside0 (w'.heap[gb181]? = some (.cells #[.string (⟨#[]⟩ : ByteArray), .string (⟨#[]⟩ : ByteArray), .string (⟨#[]⟩ : ByteArray), .string (⟨#[]⟩ : ByteArray), (.slice none 0 0)] 57 (0, 0))) ∧ Aside0 (Below w.heap.size w w'))
 case atStart => exact ⟨((-1)), (0), zI, zI, H', ⟨zh _⟩, ⟨zK BK181⟩, ⟨zB1 HB GE181⟩⟩
 case round =>
  clear H';obtain ⟨x5_1, x6_1, rfl, rfl, HA, HK1, BK181, HB⟩ := hrel;cases gk with
  | zero => exact absurd HA.out (by simp [tollgateref09_Parse.l0])
  | succ k1 =>
   have H := HA.out;clear HA;simp only [tollgateref09_Parse.l0] at H;have HC3 := zN H;clear H;go_upto_region 3 with (fail)
   go_cut [29] (fun v29 wc => ∃ (kq : Nat) (x29_2 : Bool), v29 = .bool x29_2 ∧ Aside0 (tollgateref09_Parse.j1 kq l0 x5_1 x6_1 x29_2 = some (r1, r2, r3, r4, r5, r6, r7)) ∧ Aside0 (kq ≤ k1) ∧ Aside0 (wc.heap[gb181]? = some (.cells #[.string (⟨#[]⟩ : ByteArray), .string (⟨#[]⟩ : ByteArray), .string (⟨#[]⟩ : ByteArray), .string (⟨#[]⟩ : ByteArray), (.slice none 0 0)] 57 (0, 0))) ∧ Aside0 (Below w.heap.size w wc))
   case first =>
    have H := HC3.out;clear HC3;by_cases c4 : (wrap64 (x6_1 + 4)) ≤ (l0.length : Int);rotate_left
    ·rw [zn c4] at H;have c4b0 := zf c4;clear c4;(first | rw [c4b0] | (simp only [i64_w, i32_w]; rw [c4b0]) | skip);have H' := zN H;clear H;go_wp2;go_meet
     case rel => exact ⟨_, (false), zI, H', ⟨by have := HK1.out; first | omega | exact zh _⟩, ⟨zK BK181⟩, ⟨zB1 HB GE181⟩⟩
    rw [zp c4] at H;have c4b0 := zt c4;clear c4;(first | rw [c4b0] | (simp only [i64_w, i32_w]; rw [c4b0]) | skip);by_cases c5 : (wrap64 (x6_1 + 4)) ≤ 2048
    ·rw [zp c5] at H;have c5b0 := zt c5;clear c5;have H' := zN H;clear H;go_wp2;go_meet
     case rel => exact ⟨_, (decide (x5_1 < 0)), zI, H', ⟨by have := HK1.out; first | omega | exact zh _⟩, ⟨zK BK181⟩, ⟨zB1 HB GE181⟩⟩
    rw [zn c5] at H;have c5b0 := zf c5;clear c5;have H' := zN H;clear H;go_wp2;go_meet
    case rel => exact ⟨_, (false), zI, H', ⟨by have := HK1.out; first | omega | exact zh _⟩, ⟨zK BK181⟩, ⟨zB1 HB GE181⟩⟩
   case rest =>
    clear HC3;obtain ⟨kq, x29_2, rfl, HA, HJ2, BK181, HB⟩ := hcut;cases kq with
    | zero => exact absurd HA.out (by simp [tollgateref09_Parse.j1])
    | succ kj2 =>
     have H := HA.out;clear HA;simp only [tollgateref09_Parse.j1] at H;by_cases c6 : x29_2 = true
     ·subst c6;have H1 := H; rw [zp rfl] at H1;clear H;have H := H1;clear H1;by_cases c7 : 0 ≤ x6_1;rotate_left
      ·rw [zn c7] at H;exact absurd H (by simp)
      rw [zp c7] at H;have c7b0 := zt c7;clear c7;by_cases c8 : x6_1 < (l0.length : Int);rotate_left
      ·rw [zn c8] at H;exact absurd H (by simp)
      rw [zp c8] at H;have c8b0 := zt c8;clear c8;by_cases c9 : (rd l0 x6_1) = 13;rotate_left
      ·rw [zn c9] at H;have c9b0 := zb.mpr c9;have c9b1 := bne_iff_ne.mpr c9;have H' := zN H;clear H;have p182 : 0 ≤ (x6_1 : Int) := zd zS;have q182 : x6_1 < (l0.length : Int) := zd zS;obtain ⟨ad182, e182, hx182_0⟩ := Kd.at_int HR0.out x6_1 p182 q182;cases e182;replace hx182_0 := (HB.out.cell (zw w _ hx182_0)).trans hx182_0;replace p182 := zu p182;replace q182 := zu q182;go_wp2;go_roundg kj2
       case measure => have := HK1.out; have := HJ2.out; omega
       case rel => exact ⟨(x5_1), (wrap64 (x6_1 + 1)), zI, zI, H', ⟨by have := HK1.out; have := HJ2.out; omega⟩, ⟨zK BK181⟩, ⟨zB1 HB GE181⟩⟩
      rw [zp c9] at H;have c9b0 := beq_iff_eq.mpr c9;have c9b1 := zc.mpr c9;clear c9;obtain ⟨ji10, hji10⟩ : ∃ j_ : Int, (wrap64 (x6_1 + 1)) = j_ := ⟨_, rfl⟩;replace H : (if 0 ≤ (ji10) then (if (ji10) < (l0.length : Int) then (if (rd l0 (ji10)) = 10 then (if 0 ≤ (wrap64 (x6_1 + 2)) then (if (wrap64 (x6_1 + 2)) < (l0.length : Int) then (if (rd l0 (wrap64 (x6_1 + 2))) = 13 then (if 0 ≤ (wrap64 (x6_1 + 3)) then (if (wrap64 (x6_1 + 3)) < (l0.length : Int) then (if (rd l0 (wrap64 (x6_1 + 3))) = 10 then (tollgateref09_Parse.l0 kj2 l0 x6_1 ji10) else (tollgateref09_Parse.l0 kj2 l0 x5_1 ji10)) else (none)) else (none)) else (tollgateref09_Parse.l0 kj2 l0 x5_1 ji10)) else (none)) else (none)) else (tollgateref09_Parse.l0 kj2 l0 x5_1 ji10)) else (none)) else (none)) = some (r1, r2, r3, r4, r5, r6, r7) := by first | (rw [hji10] at H; exact H) | (simp only [hji10] at H ⊢; exact H)
      have hji10w : (IntKind.i64.wrap (x6_1 + 1)) = ji10 := (i64_w _).trans hji10;by_cases c11 : 0 ≤ (ji10);rotate_left
      ·rw [zn c11] at H;exact absurd H (by simp)
      rw [zp c11] at H;have c11b0 := zt c11;clear c11;by_cases c12 : (ji10) < (l0.length : Int);rotate_left
      ·rw [zn c12] at H;exact absurd H (by simp)
      rw [zp c12] at H;have c12b0 := zt c12;clear c12;by_cases c13 : (rd l0 (ji10)) = 10;rotate_left
      ·rw [zn c13] at H;have c13b0 := zb.mpr c13;have c13b1 := bne_iff_ne.mpr c13;have H' := zN H;clear H;have p182 : 0 ≤ (x6_1 : Int) := zd zS;have q182 : x6_1 < (l0.length : Int) := zd zS;obtain ⟨ad182, e182, hx182_0⟩ := Kd.at_int HR0.out x6_1 p182 q182;cases e182;replace hx182_0 := (HB.out.cell (zw w _ hx182_0)).trans hx182_0;replace p182 := zu p182;replace q182 := zu q182;have p183 : 0 ≤ ((ji10) : Int) := zd zS;have q183 : (ji10) < (l0.length : Int) := zd zS;obtain ⟨ad183, e183, hx183_0⟩ := Kd.at_int HR0.out (ji10) p183 q183;obtain rfl : ad182 = ad183 := (by injection e183);replace hx183_0 := (HB.out.cell (zw w _ hx183_0)).trans hx183_0;replace p183 := zu p183;replace q183 := zu q183;go_wp2;go_roundg kj2
       case measure => have := HK1.out; have := HJ2.out; omega
       case rel => exact ⟨(x5_1), (ji10), zI, (by first | rfl | (simp; done) | (simp only [← hji10] <;> (first | rfl | simp)) | (simp [*]; done)), H', ⟨by have := HK1.out; have := HJ2.out; omega⟩, ⟨zK BK181⟩, ⟨zB1 HB GE181⟩⟩
      rw [zp c13] at H;have c13b0 := beq_iff_eq.mpr c13;have c13b1 := zc.mpr c13;clear c13;obtain ⟨ji14, hji14⟩ : ∃ j_ : Int, (wrap64 (x6_1 + 2)) = j_ := ⟨_, rfl⟩;replace H : (if 0 ≤ (ji14) then (if (ji14) < (l0.length : Int) then (if (rd l0 (ji14)) = 13 then (if 0 ≤ (wrap64 (x6_1 + 3)) then (if (wrap64 (x6_1 + 3)) < (l0.length : Int) then (if (rd l0 (wrap64 (x6_1 + 3))) = 10 then (tollgateref09_Parse.l0 kj2 l0 x6_1 ji10) else (tollgateref09_Parse.l0 kj2 l0 x5_1 ji10)) else (none)) else (none)) else (tollgateref09_Parse.l0 kj2 l0 x5_1 ji10)) else (none)) else (none)) = some (r1, r2, r3, r4, r5, r6, r7) := by first | (rw [hji14] at H; exact H) | (simp only [hji14] at H ⊢; exact H)
      have hji14w : (IntKind.i64.wrap (x6_1 + 2)) = ji14 := (i64_w _).trans hji14;by_cases c15 : 0 ≤ (ji14);rotate_left
      ·rw [zn c15] at H;exact absurd H (by simp)
      rw [zp c15] at H;have c15b0 := zt c15;clear c15;by_cases c16 : (ji14) < (l0.length : Int);rotate_left
      ·rw [zn c16] at H;exact absurd H (by simp)
      rw [zp c16] at H;have c16b0 := zt c16;clear c16;by_cases c17 : (rd l0 (ji14)) = 13;rotate_left
      ·rw [zn c17] at H;have c17b0 := zb.mpr c17;have c17b1 := bne_iff_ne.mpr c17;have H' := zN H;clear H;have p182 : 0 ≤ (x6_1 : Int) := zd zS;have q182 : x6_1 < (l0.length : Int) := zd zS;obtain ⟨ad182, e182, hx182_0⟩ := Kd.at_int HR0.out x6_1 p182 q182;cases e182;replace hx182_0 := (HB.out.cell (zw w _ hx182_0)).trans hx182_0;replace p182 := zu p182;replace q182 := zu q182;have p183 : 0 ≤ ((ji10) : Int) := zd zS;have q183 : (ji10) < (l0.length : Int) := zd zS;obtain ⟨ad183, e183, hx183_0⟩ := Kd.at_int HR0.out (ji10) p183 q183;obtain rfl : ad182 = ad183 := (by injection e183);replace hx183_0 := (HB.out.cell (zw w _ hx183_0)).trans hx183_0;replace p183 := zu p183;replace q183 := zu q183;have p184 : 0 ≤ ((ji14) : Int) := zd zS;have q184 : (ji14) < (l0.length : Int) := zd zS;obtain ⟨ad184, e184, hx184_0⟩ := Kd.at_int HR0.out (ji14) p184 q184;obtain rfl : ad182 = ad184 := (by injection e184);replace hx184_0 := (HB.out.cell (zw w _ hx184_0)).trans hx184_0;replace p184 := zu p184;replace q184 := zu q184;go_wp2;go_roundg kj2
       case measure => have := HK1.out; have := HJ2.out; omega
       case rel => exact ⟨(x5_1), (ji10), zI, (by first | rfl | (simp; done) | (simp only [← hji10] <;> (first | rfl | simp)) | (simp [*]; done)), H', ⟨by have := HK1.out; have := HJ2.out; omega⟩, ⟨zK BK181⟩, ⟨zB1 HB GE181⟩⟩
      rw [zp c17] at H;have c17b0 := beq_iff_eq.mpr c17;have c17b1 := zc.mpr c17;clear c17;obtain ⟨ji18, hji18⟩ : ∃ j_ : Int, (wrap64 (x6_1 + 3)) = j_ := ⟨_, rfl⟩;replace H : (if 0 ≤ (ji18) then (if (ji18) < (l0.length : Int) then (if (rd l0 (ji18)) = 10 then (tollgateref09_Parse.l0 kj2 l0 x6_1 ji10) else (tollgateref09_Parse.l0 kj2 l0 x5_1 ji10)) else (none)) else (none)) = some (r1, r2, r3, r4, r5, r6, r7) := by first | (rw [hji18] at H; exact H) | (simp only [hji18] at H ⊢; exact H)
      have hji18w : (IntKind.i64.wrap (x6_1 + 3)) = ji18 := (i64_w _).trans hji18;by_cases c19 : 0 ≤ (ji18);rotate_left
      ·rw [zn c19] at H;exact absurd H (by simp)
      rw [zp c19] at H;have c19b0 := zt c19;clear c19;by_cases c20 : (ji18) < (l0.length : Int);rotate_left
      ·rw [zn c20] at H;exact absurd H (by simp)
      rw [zp c20] at H;have c20b0 := zt c20;clear c20;by_cases c21 : (rd l0 (ji18)) = 10
      ·rw [zp c21] at H;have c21b0 := beq_iff_eq.mpr c21;have c21b1 := zc.mpr c21;clear c21;have H' := zN H;clear H;have p182 : 0 ≤ (x6_1 : Int) := zd zS;have q182 : x6_1 < (l0.length : Int) := zd zS;obtain ⟨ad182, e182, hx182_0⟩ := Kd.at_int HR0.out x6_1 p182 q182;cases e182;replace hx182_0 := (HB.out.cell (zw w _ hx182_0)).trans hx182_0;replace p182 := zu p182;replace q182 := zu q182;have p183 : 0 ≤ ((ji10) : Int) := zd zS;have q183 : (ji10) < (l0.length : Int) := zd zS;obtain ⟨ad183, e183, hx183_0⟩ := Kd.at_int HR0.out (ji10) p183 q183;obtain rfl : ad182 = ad183 := (by injection e183);replace hx183_0 := (HB.out.cell (zw w _ hx183_0)).trans hx183_0;replace p183 := zu p183;replace q183 := zu q183;have p184 : 0 ≤ ((ji14) : Int) := zd zS;have q184 : (ji14) < (l0.length : Int) := zd zS;obtain ⟨ad184, e184, hx184_0⟩ := Kd.at_int HR0.out (ji14) p184 q184;obtain rfl : ad182 = ad184 := (by injection e184);replace hx184_0 := (HB.out.cell (zw w _ hx184_0)).trans hx184_0;replace p184 := zu p184;replace q184 := zu q184;have p185 : 0 ≤ ((ji18) : Int) := zd zS;have q185 : (ji18) < (l0.length : Int) := zd zS;obtain ⟨ad185, e185, hx185_0⟩ := Kd.at_int HR0.out (ji18) p185 q185;obtain rfl : ad182 = ad185 := (by injection e185);replace hx185_0 := (HB.out.cell (zw w _ hx185_0)).trans hx185_0;replace p185 := zu p185;replace q185 := zu q185;go_wp2;go_roundg kj2
       case measure => have := HK1.out; have := HJ2.out; omega
       case rel => exact ⟨(x6_1), (ji10), zI, (by first | rfl | (simp; done) | (simp only [← hji10] <;> (first | rfl | simp)) | (simp [*]; done)), H', ⟨by have := HK1.out; have := HJ2.out; omega⟩, ⟨zK BK181⟩, ⟨zB1 HB GE181⟩⟩
      rw [zn c21] at H;have c21b0 := zb.mpr c21;have c21b1 := bne_iff_ne.mpr c21;have H' := zN H;clear H;have p182 : 0 ≤ (x6_1 : Int) := zd zS;have q182 : x6_1 < (l0.length : Int) := zd zS;obtain ⟨ad182, e182, hx182_0⟩ := Kd.at_int HR0.out x6_1 p182 q182;cases e182;replace hx182_0 := (HB.out.cell (zw w _ hx182_0)).trans hx182_0;replace p182 := zu p182;replace q182 := zu q182;have p183 : 0 ≤ ((ji10) : Int) := zd zS;have q183 : (ji10) < (l0.length : Int) := zd zS;obtain ⟨ad183, e183, hx183_0⟩ := Kd.at_int HR0.out (ji10) p183 q183;obtain rfl : ad182 = ad183 := (by injection e183);replace hx183_0 := (HB.out.cell (zw w _ hx183_0)).trans hx183_0;replace p183 := zu p183;replace q183 := zu q183;have p184 : 0 ≤ ((ji14) : Int) := zd zS;have q184 : (ji14) < (l0.length : Int) := zd zS;obtain ⟨ad184, e184, hx184_0⟩ := Kd.at_int HR0.out (ji14) p184 q184;obtain rfl : ad182 = ad184 := (by injection e184);replace hx184_0 := (HB.out.cell (zw w _ hx184_0)).trans hx184_0;replace p184 := zu p184;replace q184 := zu q184;have p185 : 0 ≤ ((ji18) : Int) := zd zS;have q185 : (ji18) < (l0.length : Int) := zd zS;obtain ⟨ad185, e185, hx185_0⟩ := Kd.at_int HR0.out (ji18) p185 q185;obtain rfl : ad182 = ad185 := (by injection e185);replace hx185_0 := (HB.out.cell (zw w _ hx185_0)).trans hx185_0;replace p185 := zu p185;replace q185 := zu q185;go_wp2;go_roundg kj2
      case measure => have := HK1.out; have := HJ2.out; omega
      case rel => exact ⟨(x5_1), (ji10), zI, (by first | rfl | (simp; done) | (simp only [← hji10] <;> (first | rfl | simp)) | (simp [*]; done)), H', ⟨by have := HK1.out; have := HJ2.out; omega⟩, ⟨zK BK181⟩, ⟨zB1 HB GE181⟩⟩
     replace c6 := zq.mpr c6;subst c6;have H1 := H; rw [zn (show ¬ (false = true) by decide)] at H1;clear H;have H := H1;clear H1;have HC22 := zN H;clear H;go_upto_region 7 with (fail)
     go_cut [68] (fun v68 wc => ∃ (kq : Nat) (x68_21 : Bool), v68 = .bool x68_21 ∧ Aside0 (tollgateref09_Parse.j2 kq l0 x5_1 x68_21 = some (r1, r2, r3, r4, r5, r6, r7)) ∧ Aside0 (kq ≤ kj2) ∧ Aside0 (wc.heap[gb181]? = some (.cells #[.string (⟨#[]⟩ : ByteArray), .string (⟨#[]⟩ : ByteArray), .string (⟨#[]⟩ : ByteArray), .string (⟨#[]⟩ : ByteArray), (.slice none 0 0)] 57 (0, 0))) ∧ Aside0 (Below w.heap.size w wc))
     case first =>
      have H := HC22.out;clear HC22;by_cases c23 : x5_1 < 0
      ·rw [zp c23] at H;have c23b0 := zt c23;clear c23;(first | rw [c23b0] | (simp only [i64_w, i32_w]; rw [c23b0]) | skip);have H' := zN H;clear H;go_wp2;go_meet
       case rel => exact ⟨_, (decide ((l0.length : Int) < 2048)), zI, H', ⟨by have := HK1.out; have := HJ2.out; first | omega | exact zh _⟩, ⟨zK BK181⟩, ⟨zB1 HB GE181⟩⟩
      rw [zn c23] at H;have c23b0 := zf c23;clear c23;(first | rw [c23b0] | (simp only [i64_w, i32_w]; rw [c23b0]) | skip);have H' := zN H;clear H;go_wp2;go_meet
      case rel => exact ⟨_, (false), zI, H', ⟨by have := HK1.out; have := HJ2.out; first | omega | exact zh _⟩, ⟨zK BK181⟩, ⟨zB1 HB GE181⟩⟩
     case rest =>
      clear HC22
      try clear c6
      obtain ⟨kq, x68_21, rfl, HA, HJ21, BK181, HB⟩ := hcut;cases kq with
      | zero => exact absurd HA.out (by simp [tollgateref09_Parse.j2])
      | succ kj21 =>
       have H := HA.out;clear HA;simp only [tollgateref09_Parse.j2] at H;by_cases c24 : x68_21 = true
       ·subst c24;have H1 := H; rw [zp rfl] at H1;clear H;have H := H1;clear H1;simp only [Option.some.injEq, Prod.mk.injEq] at H;obtain ⟨rfl, rfl, rfl, rfl, rfl, rfl, rfl⟩ := H;obtain ⟨hcz25_0, hcz25_1, hcz25_2, hcz25_3, hcz25_4, hfz25_0, hfz25_1, hfz25_2, hfz25_3, hfz25_4⟩ := zC5 BK181;go_wp2;refine bodyPost_ret (results_ctt rfl _ _ gb181 57 #[.string (⟨#[]⟩ : ByteArray), .string (⟨#[]⟩ : ByteArray), .string (⟨#[]⟩ : ByteArray), .string (⟨#[]⟩ : ByteArray), .slice none 0 0] (0, 0) _ rfl (zF BK181) Tryz.underlying57 rfl zQ) rfl ?_;exact ⟨_, zE, by first | exact Kd.R_nil _ _ _ _ _ | exact Kd.N_nil _ _ _ _ _ | exact Kd.V_nil _ _ _ _ _ | exact Kd.Q_nil _ _ _ _ _ | exact Kd.S_nil _ _ _ _ _, zB1 HB GE181⟩
       replace c24 := zq.mpr c24;subst c24;have H1 := H; rw [zn (show ¬ (false = true) by decide)] at H1;clear H;have H := H1;clear H1;by_cases c26 : x5_1 < 0
       ·rw [zp c26] at H;have c26b0 := zt c26;clear c26;simp only [Option.some.injEq, Prod.mk.injEq] at H;obtain ⟨rfl, rfl, rfl, rfl, rfl, rfl, rfl⟩ := H;obtain ⟨hcz27_0, hcz27_1, hcz27_2, hcz27_3, hcz27_4, hfz27_0, hfz27_1, hfz27_2, hfz27_3, hfz27_4⟩ := zC5 BK181;go_wp2;refine bodyPost_ret (results_ctt rfl _ _ gb181 57 #[.string (⟨#[]⟩ : ByteArray), .string (⟨#[]⟩ : ByteArray), .string (⟨#[]⟩ : ByteArray), .string (⟨#[]⟩ : ByteArray), .slice none 0 0] (0, 0) _ rfl (zF BK181) Tryz.underlying57 rfl zQ) rfl ?_;exact ⟨_, zE, by first | exact Kd.R_nil _ _ _ _ _ | exact Kd.N_nil _ _ _ _ _ | exact Kd.V_nil _ _ _ _ _ | exact Kd.Q_nil _ _ _ _ _ | exact Kd.S_nil _ _ _ _ _, zB1 HB GE181⟩
       rw [zn c26] at H;have c26b0 := zf c26;clear c26;by_cases c28 : 0 ≤ x5_1;rotate_left
       ·rw [zn c28] at H;exact absurd H (by simp)
       rw [zp c28] at H;have c28b0 := zu c28;have c28b1 := zt c28;clear c28;by_cases c29 : x5_1 ≤ (l0.length : Int);rotate_left
       ·rw [zn c29] at H;exact absurd H (by simp)
       rw [zp c29] at H;have c29b0 := zu c29;have c29b1 := zt c29;clear c29;obtain ⟨t187, A30, H⟩ := zA H;(try dsimp only at H);by_cases c31 : 0 < (t187.length : Int);rotate_left
       ·rw [zn c31] at H;exact absurd H (by simp)
       rw [zp c31] at H;have c31b0 := zt c31;have c31b1 : decide (0 < t187.length) = true := zt zO;clear c31;obtain ⟨⟨t192, t193, t194, t195, t196⟩, A32, H⟩ := zA H;(try dsimp only at H);by_cases c33 : t192 = true;rotate_left
       ·replace c33 := zq.mpr c33;subst c33;have H1 := H; rw [zn (show ¬ (false = true) by decide)] at H1;clear H;have H := H1;clear H1;simp only [Option.some.injEq, Prod.mk.injEq] at H;obtain ⟨rfl, rfl, rfl, rfl, rfl, rfl, rfl⟩ := H;obtain ⟨i094, hi094, _, hsz94, _⟩ := info_parts info5;obtain ⟨hcut94, hA94, hC94⟩ := print_take_of (P := Tryz.prog) (Value.int .u8) 0 29 5 .i64 Tryz.underlying29 hi094 hsz94 A0 c0 l0 x5_1 (zd zS) (zd zS) HC0.out;have HR186 := zN (Kd.C_of_reads (h1 := fun _ => rfl) (hA94 _ (Kd.reads_of_C HR0.out)));have HC186 := zN hC94;clear hA94 hC94 hi094 hsz94;have hcv95 := Kd.C_string (P := Tryz.prog) (A := A0) (c := c0) Tryz.underlying29 Tryz.underlying5 Tryz.underlying9 (Kd.C_below HR186.out HB.out);(try (have hcv95d := fun m_ : Nat => Kd.C_string (P := Tryz.prog) (A := A0) (c := c0) Tryz.underlying29 Tryz.underlying5 Tryz.underlying9 (Kd.C_drewN ((Kd.C_below HR186.out HB.out)) m_)));(try (have hcv95l := hcv95; rw [show (l0.take (x5_1 : Int).toNat).length = x5_1.toNat from (by rw [List.length_take]; have h_ : (x5_1 : Int) ≤ (l0.length : Int) := zd zS; omega)] at hcv95l));go_wp2_with (first | ((with_reducible refine gate_callee (f := 30) rfl ?_); refine zg (some 77) Tryz.func30 #[.string (strOfNums (l0.take (x5_1 : Int).toNat))] ?_; (with_reducible refine (tollgateref09_lines.calls kj21 (strOfNums (l0.take (x5_1 : Int).toNat)) t187 _ A30.out).mono ?_); rintro e w96 ⟨v188, rfl, ho0, hb⟩; refine ⟨_, rfl, ?_⟩; have HO189 := zN (Kd.R_lower ho0 (below_size (zB1 HB GE181))); replace BK181 := zj BK181 hb; replace HB := zk1 HB GE181 hb; (try clear hb); (try clear hb2); (try clear hk); (try clear hi); (try clear ho0)) | ((with_reducible refine gate_dst (N := 8) rfl ?_); (try (refine gate_guard (by rfl) ?_; dsimp only)); refine zX #[.string (⟨#[]⟩ : ByteArray), .string (⟨#[]⟩ : ByteArray), .string (⟨#[]⟩ : ByteArray), .string (⟨#[]⟩ : ByteArray), .slice none 0 0] 57 rfl ?_; intro gb190 hg w97 hbox hb; replace HO189 := zN (Kd.R_below (zR HO189) hb); have BK190 := zN hbox; have GW190 := zY w (zB1 HB GE181) hg; have GE190 := zY w (zB1 HB GE181) hg; replace HB := zk1 HB GE181 hb; have NB181_190 := zl BK181 hg; have NB190_181 := zl' BK181 hg; replace BK181 := zj BK181 hb; clear hb hbox hg; have hnb98 := NB190_181.out; have hnc98 := NB181_190.out; obtain ⟨hcz99_0, hcz99_1, hcz99_2, hcz99_3, hcz99_4, hfz99_0, hfz99_1, hfz99_2, hfz99_3, hfz99_4⟩ := zC5 BK190; obtain ⟨Ao100, co100, eo100⟩ := Kd.R_slice HO189.out; subst eo100; have p191 : 0 ≤ (0 : Int) := zO; have q191 : 0 < (t187.length : Int) := zd zS; obtain ⟨ad191, e191, hx191_0⟩ := Kd.at_string (Kd.R_reads' HO189.out).2.2 0 p191 q191; cases e191; have qi191 : (0 < t187.length) = True := zu zO; (try rw [show ((0 : Int)).toNat = 0 from rfl] at hx191_0); (try rw [Addr.add_zero'] at hx191_0); have hn191_0 : ad191.block ≠ gb190 := Kd.own_blk (Kd.R_ne HO189.out BK190.out (by decide)); have hn191_1 : ad191.block ≠ gb190 := Kd.own_blk (Kd.R_ne HO189.out BK190.out (by decide)); have hn191_2 : ad191.block ≠ gb190 := Kd.own_blk (Kd.R_ne HO189.out BK190.out (by decide)); have hn191_3 : ad191.block ≠ gb190 := Kd.own_blk (Kd.R_ne HO189.out BK190.out (by decide)); have hn191_4 : ad191.block ≠ gb190 := Kd.own_blk (Kd.R_ne HO189.out BK190.out (by decide)); replace hx191_0 := (cell_far (p := ⟨gb190, 0, none⟩) (by first | (rw [add_block]; exact hn191_0) | (show (Addr.add _ _).block ≠ _; rw [add_block]; exact hn191_0) | exact hn191_0) (.string (⟨#[]⟩ : ByteArray))).trans hx191_0; replace hx191_0 := (cell_far (p := ⟨gb190, 1, none⟩) (by first | (rw [add_block]; exact hn191_1) | (show (Addr.add _ _).block ≠ _; rw [add_block]; exact hn191_1) | exact hn191_1) (.string (⟨#[]⟩ : ByteArray))).trans hx191_0; replace hx191_0 := (cell_far (p := ⟨gb190, 2, none⟩) (by first | (rw [add_block]; exact hn191_2) | (show (Addr.add _ _).block ≠ _; rw [add_block]; exact hn191_2) | exact hn191_2) (.string (⟨#[]⟩ : ByteArray))).trans hx191_0; replace hx191_0 := (cell_far (p := ⟨gb190, 3, none⟩) (by first | (rw [add_block]; exact hn191_3) | (show (Addr.add _ _).block ≠ _; rw [add_block]; exact hn191_3) | exact hn191_3) (.string (⟨#[]⟩ : ByteArray))).trans hx191_0; replace hx191_0 := (cell_far (p := ⟨gb190, 4, none⟩) (by first | (rw [add_block]; exact hn191_4) | (show (Addr.add _ _).block ≠ _; rw [add_block]; exact hn191_4) | exact hn191_4) (.slice none 0 0)).trans hx191_0; clear hn191_0; clear hn191_1; clear hn191_2; clear hn191_3; clear hn191_4; replace p191 := zu p191; replace q191 := zu q191) | ((with_reducible refine gate_callee (f := 31) rfl ?_); refine zg (some 82) Tryz.func31 #[.string (rdOf ByteArray.empty t187 0), .pointer (some ⟨gb190, 0, none⟩)] ?_; have hI_ := (Kd.R_far (p := ⟨gb190, 4, none⟩) (Kd.R_far (p := ⟨gb190, 3, none⟩) (Kd.R_far (p := ⟨gb190, 2, none⟩) (Kd.R_far (p := ⟨gb190, 1, none⟩) (Kd.R_far (p := ⟨gb190, 0, none⟩) (Kd.R_types HO189.out BK190.out (by decide)) (fun _ hk => hk.2) (.string (⟨#[]⟩ : ByteArray))) (fun _ hk => hk.2) (.string (⟨#[]⟩ : ByteArray))) (fun _ hk => hk.2) (.string (⟨#[]⟩ : ByteArray))) (fun _ hk => hk.2) (.string (⟨#[]⟩ : ByteArray))) (fun _ hk => hk.2) (.slice none 0 0)); (with_reducible refine (ref_first.box kj21 (rdOf ByteArray.empty t187 0) gb190 false t193 t194 t195 t196 w _ ?side1 GE190.out ?side2 A32.out).mono ?_); (case side1 => exact (zF BK190)); (case side2 => exact (zB2 HB GE181 GE190)); rintro e w101 ⟨rfl, hbox_, hbel_, hkeep_⟩; refine ⟨_, rfl, ?_⟩; replace HO189 := zN (Kd.R_mono (keepR hI_ hkeep_ (fun _ hk => hk.2)) (fun _ h_ => h_.1)); replace BK181 := zN (blk_keepB (g := gb181) (o := .cells #[.string (⟨#[]⟩ : ByteArray), .string (⟨#[]⟩ : ByteArray), .string (⟨#[]⟩ : ByteArray), .string (⟨#[]⟩ : ByteArray), .slice none 0 0] 57 (0, 0)) (zF1 BK181 NB181_190) hkeep_ NB181_190.out); replace BK190 := zN hbox_; replace HB := zN hbel_; clear hI_ hbox_ hbel_ hkeep_; (try clear hb); (try clear hb2); (try clear hk); (try clear hi); obtain ⟨hcz102_0, hcz102_1, hcz102_2, hcz102_3, hcz102_4, hfz102_0, hfz102_1, hfz102_2, hfz102_3, hfz102_4⟩ := zC5 BK190; obtain ⟨hcz103_0, hcz103_1, hcz103_2, hcz103_3, hcz103_4, hfz103_0, hfz103_1, hfz103_2, hfz103_3, hfz103_4⟩ := zC5 BK181))
        refine bodyPost_ret (results_ctt rfl _ _ gb181 57 #[.string (⟨#[]⟩ : ByteArray), .string (⟨#[]⟩ : ByteArray), .string (⟨#[]⟩ : ByteArray), .string (⟨#[]⟩ : ByteArray), .slice none 0 0] (0, 0) _ rfl (zF BK181) Tryz.underlying57 rfl zQ) rfl ?_;exact ⟨_, zE, by first | exact Kd.R_nil _ _ _ _ _ | exact Kd.N_nil _ _ _ _ _ | exact Kd.V_nil _ _ _ _ _ | exact Kd.Q_nil _ _ _ _ _ | exact Kd.S_nil _ _ _ _ _, zB2 HB GE181 GE190⟩
       subst c33;have H1 := H; rw [zp rfl] at H1;clear H;have H := H1;clear H1;have H' := zN H;clear H;obtain ⟨i034, hi034, _, hsz34, _⟩ := info_parts info5;obtain ⟨hcut34, hA34, hC34⟩ := print_take_of (P := Tryz.prog) (Value.int .u8) 0 29 5 .i64 Tryz.underlying29 hi034 hsz34 A0 c0 l0 x5_1 (zd zS) (zd zS) HC0.out;have HR186 := zN (Kd.C_of_reads (h1 := fun _ => rfl) (hA34 _ (Kd.reads_of_C HR0.out)));have HC186 := zN hC34;clear hA34 hC34 hi034 hsz34;have hcv35 := Kd.C_string (P := Tryz.prog) (A := A0) (c := c0) Tryz.underlying29 Tryz.underlying5 Tryz.underlying9 (Kd.C_below HR186.out HB.out);(try (have hcv35d := fun m_ : Nat => Kd.C_string (P := Tryz.prog) (A := A0) (c := c0) Tryz.underlying29 Tryz.underlying5 Tryz.underlying9 (Kd.C_drewN ((Kd.C_below HR186.out HB.out)) m_)));(try (have hcv35l := hcv35; rw [show (l0.take (x5_1 : Int).toNat).length = x5_1.toNat from (by rw [List.length_take]; have h_ : (x5_1 : Int) ≤ (l0.length : Int) := zd zS; omega)] at hcv35l));go_wp2_with (first | ((with_reducible refine gate_callee (f := 30) rfl ?_); refine zg (some 77) Tryz.func30 #[.string (strOfNums (l0.take (x5_1 : Int).toNat))] ?_; (with_reducible refine (tollgateref09_lines.calls kj21 (strOfNums (l0.take (x5_1 : Int).toNat)) t187 _ A30.out).mono ?_); rintro e w36 ⟨v188, rfl, ho0, hb⟩; refine ⟨_, rfl, ?_⟩; have HO189 := zN (Kd.R_lower ho0 (below_size (zB1 HB GE181))); replace BK181 := zj BK181 hb; replace HB := zk1 HB GE181 hb; (try clear hb); (try clear hb2); (try clear hk); (try clear hi); (try clear ho0)) | ((with_reducible refine gate_dst (N := 8) rfl ?_); (try (refine gate_guard (by rfl) ?_; dsimp only)); refine zX #[.string (⟨#[]⟩ : ByteArray), .string (⟨#[]⟩ : ByteArray), .string (⟨#[]⟩ : ByteArray), .string (⟨#[]⟩ : ByteArray), .slice none 0 0] 57 rfl ?_; intro gb190 hg w37 hbox hb; replace HO189 := zN (Kd.R_below (zR HO189) hb); have BK190 := zN hbox; have GW190 := zY w (zB1 HB GE181) hg; have GE190 := zY w (zB1 HB GE181) hg; replace HB := zk1 HB GE181 hb; have NB181_190 := zl BK181 hg; have NB190_181 := zl' BK181 hg; replace BK181 := zj BK181 hb; clear hb hbox hg; have hnb38 := NB190_181.out; have hnc38 := NB181_190.out; obtain ⟨hcz39_0, hcz39_1, hcz39_2, hcz39_3, hcz39_4, hfz39_0, hfz39_1, hfz39_2, hfz39_3, hfz39_4⟩ := zC5 BK190; obtain ⟨Ao40, co40, eo40⟩ := Kd.R_slice HO189.out; subst eo40; have p191 : 0 ≤ (0 : Int) := zO; have q191 : 0 < (t187.length : Int) := zd zS; obtain ⟨ad191, e191, hx191_0⟩ := Kd.at_string (Kd.R_reads' HO189.out).2.2 0 p191 q191; cases e191; have qi191 : (0 < t187.length) = True := zu zO; (try rw [show ((0 : Int)).toNat = 0 from rfl] at hx191_0); (try rw [Addr.add_zero'] at hx191_0); have hn191_0 : ad191.block ≠ gb190 := Kd.own_blk (Kd.R_ne HO189.out BK190.out (by decide)); have hn191_1 : ad191.block ≠ gb190 := Kd.own_blk (Kd.R_ne HO189.out BK190.out (by decide)); have hn191_2 : ad191.block ≠ gb190 := Kd.own_blk (Kd.R_ne HO189.out BK190.out (by decide)); have hn191_3 : ad191.block ≠ gb190 := Kd.own_blk (Kd.R_ne HO189.out BK190.out (by decide)); have hn191_4 : ad191.block ≠ gb190 := Kd.own_blk (Kd.R_ne HO189.out BK190.out (by decide)); replace hx191_0 := (cell_far (p := ⟨gb190, 0, none⟩) (by first | (rw [add_block]; exact hn191_0) | (show (Addr.add _ _).block ≠ _; rw [add_block]; exact hn191_0) | exact hn191_0) (.string (⟨#[]⟩ : ByteArray))).trans hx191_0; replace hx191_0 := (cell_far (p := ⟨gb190, 1, none⟩) (by first | (rw [add_block]; exact hn191_1) | (show (Addr.add _ _).block ≠ _; rw [add_block]; exact hn191_1) | exact hn191_1) (.string (⟨#[]⟩ : ByteArray))).trans hx191_0; replace hx191_0 := (cell_far (p := ⟨gb190, 2, none⟩) (by first | (rw [add_block]; exact hn191_2) | (show (Addr.add _ _).block ≠ _; rw [add_block]; exact hn191_2) | exact hn191_2) (.string (⟨#[]⟩ : ByteArray))).trans hx191_0; replace hx191_0 := (cell_far (p := ⟨gb190, 3, none⟩) (by first | (rw [add_block]; exact hn191_3) | (show (Addr.add _ _).block ≠ _; rw [add_block]; exact hn191_3) | exact hn191_3) (.string (⟨#[]⟩ : ByteArray))).trans hx191_0; replace hx191_0 := (cell_far (p := ⟨gb190, 4, none⟩) (by first | (rw [add_block]; exact hn191_4) | (show (Addr.add _ _).block ≠ _; rw [add_block]; exact hn191_4) | exact hn191_4) (.slice none 0 0)).trans hx191_0; clear hn191_0; clear hn191_1; clear hn191_2; clear hn191_3; clear hn191_4; replace p191 := zu p191; replace q191 := zu q191) | ((with_reducible refine gate_callee (f := 31) rfl ?_); refine zg (some 82) Tryz.func31 #[.string (rdOf ByteArray.empty t187 0), .pointer (some ⟨gb190, 0, none⟩)] ?_; have hI_ := (Kd.R_far (p := ⟨gb190, 4, none⟩) (Kd.R_far (p := ⟨gb190, 3, none⟩) (Kd.R_far (p := ⟨gb190, 2, none⟩) (Kd.R_far (p := ⟨gb190, 1, none⟩) (Kd.R_far (p := ⟨gb190, 0, none⟩) (Kd.R_types HO189.out BK190.out (by decide)) (fun _ hk => hk.2) (.string (⟨#[]⟩ : ByteArray))) (fun _ hk => hk.2) (.string (⟨#[]⟩ : ByteArray))) (fun _ hk => hk.2) (.string (⟨#[]⟩ : ByteArray))) (fun _ hk => hk.2) (.string (⟨#[]⟩ : ByteArray))) (fun _ hk => hk.2) (.slice none 0 0)); (with_reducible refine (ref_first.box kj21 (rdOf ByteArray.empty t187 0) gb190 true t193 t194 t195 t196 w _ ?side1 GE190.out ?side2 A32.out).mono ?_); (case side1 => exact (zF BK190)); (case side2 => exact (zB2 HB GE181 GE190)); rintro e w41 ⟨rfl, hbox_, hbel_, hkeep_⟩; refine ⟨_, rfl, ?_⟩; replace HO189 := zN (Kd.R_mono (keepR hI_ hkeep_ (fun _ hk => hk.2)) (fun _ h_ => h_.1)); replace BK181 := zN (blk_keepB (g := gb181) (o := .cells #[.string (⟨#[]⟩ : ByteArray), .string (⟨#[]⟩ : ByteArray), .string (⟨#[]⟩ : ByteArray), .string (⟨#[]⟩ : ByteArray), .slice none 0 0] 57 (0, 0)) (zF1 BK181 NB181_190) hkeep_ NB181_190.out); replace BK190 := zN hbox_; replace HB := zN hbel_; clear hI_ hbox_ hbel_ hkeep_; (try clear hb); (try clear hb2); (try clear hk); (try clear hi); obtain ⟨hcz42_0, hcz42_1, hcz42_2, hcz42_3, hcz42_4, hfz42_0, hfz42_1, hfz42_2, hfz42_3, hfz42_4⟩ := zC5 BK190))
       go_loopg [9, 10] kj21 (fun kq v9 v10 w' => ∃ (x9_4 : Int) (x10_4 : Int) (x182000_4 : ByteArray) (x182001_4 : ByteArray) (x182002_4 : ByteArray) (x182003_4 : ByteArray) (x191003_4 : ByteArray) (x191004_4 : List (S84)) (u191004 : Value), v9 = .int .i64 x9_4 ∧ v10 = .int .i64 x10_4 ∧ Aside0 (tollgateref09_Parse.l1 kq x5_1 t187 x9_4 x10_4 t193 t194 t195 x191003_4 x191004_4 = some (r1, r2, r3, r4, r5, r6, r7)) ∧ Aside0 (kq ≤ kj21) ∧ Aside0 (Kd.R Kd.string 9 w' w.heap.size (fun _ => True) (.slice (some ad191) t187.length co40) t187) ∧ Aside0 (Kd.R k84 84 w' w.heap.size (fun _ => True) u191004 x191004_4) ∧ Aside0 (w'.heap[gb181]? = some (.cells #[.string x182000_4, .string x182001_4, .string x182002_4, .string x182003_4, (.slice none 0 0)] 57 (0, 0))) ∧ Aside0 (w'.heap[gb190]? = some (.cells #[.string t193, .string t194, .string t195, .string x191003_4, u191004] 57 (0, 0))) ∧ Aside0 (Below w.heap.size w w'))
       case atStart => exact ⟨(0), (1), ((⟨#[]⟩ : ByteArray)), ((⟨#[]⟩ : ByteArray)), ((⟨#[]⟩ : ByteArray)), ((⟨#[]⟩ : ByteArray)), (t196), (([] : List (S84))), (.slice none 0 0), zI, zI, H', ⟨zh _⟩, ⟨by (with_reducible repeat (first | apply Kd.R_alloc | apply Kd.R_drewN | apply Kd.R_drew)); exact Kd.R_mono HO189.out (fun _ _ => trivial)⟩, ⟨by first | exact Kd.R_nil _ _ _ _ _ | exact Kd.N_nil _ _ _ _ _ | exact Kd.V_nil _ _ _ _ _ | exact Kd.Q_nil _ _ _ _ _ | exact Kd.S_nil _ _ _ _ _⟩, ⟨zK BK181⟩, ⟨zK BK190⟩, ⟨zB2 HB GE181 GE190⟩⟩
       case round =>
        clear H'
        try clear c6
        try clear c24
        try clear c26
        try clear c26b0
        try clear c28
        try clear c28b0
        try clear c28b1
        try clear c29
        try clear c29b0
        try clear c29b1
        try clear c31
        try clear c31b0
        try clear c31b1
        try clear c33
        try clear hcv35
        try clear hcz39_0
        try clear hcz39_1
        try clear hcz39_2
        try clear hcz39_3
        try clear hcz39_4
        try clear hcz42_0
        try clear hcz42_1
        try clear hcz42_2
        try clear hcz42_3
        try clear hcz42_4
        try clear hfz39_0
        try clear hfz39_1
        try clear hfz39_2
        try clear hfz39_3
        try clear hfz39_4
        try clear hfz42_0
        try clear hfz42_1
        try clear hfz42_2
        try clear hfz42_3
        try clear hfz42_4
        try clear hx191_0
        try clear p191
        try clear q191
        obtain ⟨x9_4, x10_4, x182000_4, x182001_4, x182002_4, x182003_4, x191003_4, x191004_4, u191004, rfl, rfl, HA, HK4, HO_7, HO_191004, BK181, BK190, HB⟩ := hrel;cases gk with
        | zero => exact absurd HA.out (by simp [tollgateref09_Parse.l1])
        | succ k4 =>
         have H := HA.out;clear HA;simp only [tollgateref09_Parse.l1] at H;by_cases c43 : x10_4 < (t187.length : Int);rotate_left
         ·rw [zn c43] at H;have c43b0 := zf c43;clear c43;by_cases c82 : x9_4 = 1;rotate_left
          ·rw [zn c82] at H;have c82b0 := zb.mpr c82;have c82b1 := bne_iff_ne.mpr c82;simp only [Option.some.injEq, Prod.mk.injEq] at H;obtain ⟨rfl, rfl, rfl, rfl, rfl, rfl, rfl⟩ := H;have hnb92 := NB181_190.out;have hnc92 := NB190_181.out;obtain ⟨hcz93_0, hcz93_1, hcz93_2, hcz93_3, hcz93_4, hfz93_0, hfz93_1, hfz93_2, hfz93_3, hfz93_4⟩ := zC5 BK181;go_wp2;refine bodyPost_ret (results_ctt rfl _ _ gb181 57 #[.string (⟨#[]⟩ : ByteArray), .string (⟨#[]⟩ : ByteArray), .string (⟨#[]⟩ : ByteArray), .string (⟨#[]⟩ : ByteArray), .slice none 0 0] (0, 0) _ rfl (zF BK181) Tryz.underlying57 rfl zQ) rfl ?_;exact ⟨_, zE, by first | exact Kd.R_nil _ _ _ _ _ | exact Kd.N_nil _ _ _ _ _ | exact Kd.V_nil _ _ _ _ _ | exact Kd.Q_nil _ _ _ _ _ | exact Kd.S_nil _ _ _ _ _, zB2 HB GE181 GE190⟩
          rw [zp c82] at H;have c82b0 := beq_iff_eq.mpr c82;have c82b1 := zc.mpr c82;clear c82;by_cases c83 : (x191004_4.length : Int) > 32
          ·rw [zp c83] at H;have c83b0 : decide (32 < (x191004_4.length : Int)) = true := zt c83;have c83b1 : decide (32 < x191004_4.length) = true := zt zO;clear c83;simp only [Option.some.injEq, Prod.mk.injEq] at H;obtain ⟨rfl, rfl, rfl, rfl, rfl, rfl, rfl⟩ := H;have hnb84 := NB190_181.out;have hnc84 := NB181_190.out;obtain ⟨hcz85_0, hcz85_1, hcz85_2, hcz85_3, hcz85_4, hfz85_0, hfz85_1, hfz85_2, hfz85_3, hfz85_4⟩ := zC5 BK190;obtain ⟨Ao86, co86, eo86⟩ := Kd.R_slice HO_191004.out;subst eo86;obtain ⟨hcz87_0, hcz87_1, hcz87_2, hcz87_3, hcz87_4, hfz87_0, hfz87_1, hfz87_2, hfz87_3, hfz87_4⟩ := zC5 BK181;go_wp2;refine bodyPost_ret (results_ctt rfl _ _ gb181 57 #[.string (⟨#[]⟩ : ByteArray), .string (⟨#[]⟩ : ByteArray), .string (⟨#[]⟩ : ByteArray), .string (⟨#[]⟩ : ByteArray), .slice none 0 0] (0, 0) _ rfl (zF BK181) Tryz.underlying57 rfl zQ) rfl ?_;exact ⟨_, zE, by first | exact Kd.R_nil _ _ _ _ _ | exact Kd.N_nil _ _ _ _ _ | exact Kd.V_nil _ _ _ _ _ | exact Kd.Q_nil _ _ _ _ _ | exact Kd.S_nil _ _ _ _ _, zB2 HB GE181 GE190⟩
          rw [zn c83] at H;have c83b0 : decide (32 < (x191004_4.length : Int)) = false := zf c83;have c83b1 : decide (32 < x191004_4.length) = false := zf zO;clear c83;simp only [Option.some.injEq, Prod.mk.injEq] at H;obtain ⟨rfl, rfl, rfl, rfl, rfl, rfl, rfl⟩ := H;have hnb88 := NB190_181.out;have hnc88 := NB181_190.out;obtain ⟨hcz89_0, hcz89_1, hcz89_2, hcz89_3, hcz89_4, hfz89_0, hfz89_1, hfz89_2, hfz89_3, hfz89_4⟩ := zC5 BK190;obtain ⟨Ao90, co90, eo90⟩ := Kd.R_slice HO_191004.out;subst eo90;obtain ⟨hcz91_0, hcz91_1, hcz91_2, hcz91_3, hcz91_4, hfz91_0, hfz91_1, hfz91_2, hfz91_3, hfz91_4⟩ := zC5 BK181;go_wp2;refine bodyPost_ret (results_ctt rfl _ _ gb181 57 #[.string t193, .string t194, .string t195, .string x191003_4, .slice Ao90 x191004_4.length co90] (0, 0) _ rfl (zF BK181) Tryz.underlying57 rfl zQ) rfl ?_;exact ⟨_, zE, by (with_reducible repeat (first | apply Kd.R_alloc | apply Kd.R_drewN | apply Kd.R_drew)); exact Kd.R_mono (Kd.R_far (p := ⟨gb181, 4, none⟩) (Kd.R_far (p := ⟨gb181, 3, none⟩) (Kd.R_far (p := ⟨gb181, 2, none⟩) (Kd.R_far (p := ⟨gb181, 1, none⟩) (Kd.R_far (p := ⟨gb181, 0, none⟩) (Kd.R_types HO_191004.out BK181.out (by decide)) (fun _ hk => hk.2) (.string t193)) (fun _ hk => hk.2) (.string t194)) (fun _ hk => hk.2) (.string t195)) (fun _ hk => hk.2) (.string x191003_4)) (fun _ hk => hk.2) (.slice Ao90 x191004_4.length co90)) (fun _ hk => trivial), zB2 HB GE181 GE190⟩
         rw [zp c43] at H;have c43b0 := zt c43;clear c43;by_cases c44 : 0 ≤ x10_4;rotate_left
         ·rw [zn c44] at H;exact absurd H (by simp)
         rw [zp c44] at H;have c44b0 := zt c44;clear c44;obtain ⟨⟨t198, t199, t200⟩, A45, H⟩ := zA H;(try dsimp only at H);obtain ⟨t201, A46, H⟩ := zA H;(try dsimp only at H);have HC47 := zN H;clear H;have p197 : 0 ≤ (x10_4 : Int) := zd zS;have q197 : x10_4 < (t187.length : Int) := zd zS;obtain ⟨ad197, e197, hx197_0⟩ := Kd.at_string (Kd.R_reads' HO_7.out).2.2 x10_4 p197 q197;obtain rfl : ad191 = ad197 := (by injection e197);replace p197 := zu p197;replace q197 := zu q197;go_upto_region 21 with (first | ((with_reducible refine gate_callee (f := 32) rfl ?_); refine zg (some 96) Tryz.func32 #[.string (rdOf ByteArray.empty t187 x10_4), .int .u8 58] ?_; (with_reducible refine (tollgateref09_cut.calls k4 (rdOf ByteArray.empty t187 x10_4) 58 t198 t199 t200 _ A45.out).mono ?_); rintro e w' ⟨rfl, ⟨nd, rfl⟩⟩; refine ⟨_, rfl, ?_⟩) | ((with_reducible refine gate_callee (f := 33) rfl ?_); refine zg (some 101) Tryz.func33 #[.string t199] ?_; (with_reducible refine (tollgateref09_trimmed.calls k4 t199 t201 _ A46.out).mono ?_); rintro e w' ⟨rfl, ⟨nd, rfl⟩⟩; refine ⟨_, rfl, ?_⟩))
         (try simp only [Act.put, List.setIfInBounds_toArray, List.set_cons_zero, List.set_cons_succ]);go_cut [113] (fun v113 wc => ∃ (kq : Nat) (x113_46 : Bool), v113 = .bool x113_46 ∧ Aside0 (tollgateref09_Parse.j4 kq x5_1 t187 x9_4 x10_4 t198 t201 x113_46 t193 t194 t195 x191003_4 x191004_4 = some (r1, r2, r3, r4, r5, r6, r7)) ∧ Aside0 (kq ≤ k4) ∧ Aside0 (Kd.R Kd.string 9 wc w.heap.size (fun _ => True) (.slice (some ad191) t187.length co40) t187) ∧ Aside0 (Kd.R k84 84 wc w.heap.size (fun _ => True) u191004 x191004_4) ∧ Aside0 (wc.heap[gb181]? = some (.cells #[.string x182000_4, .string x182001_4, .string x182002_4, .string x182003_4, (.slice none 0 0)] 57 (0, 0))) ∧ Aside0 (wc.heap[gb190]? = some (.cells #[.string t193, .string t194, .string t195, .string x191003_4, u191004] 57 (0, 0))) ∧ Aside0 (Below w.heap.size w wc))
         case first =>
          have H := HC47.out;clear HC47;by_cases c48 : t200 = true;rotate_left
          ·replace c48 := zq.mpr c48;subst c48;have H1 := H; rw [zn (show ¬ (false = true) by decide)] at H1;clear H;have H := H1;clear H1;have H' := zN H;clear H;go_wp2;go_meet
           case rel => exact ⟨_, (true), zI, H', ⟨by have := HK1.out; have := HJ2.out; have := HJ21.out; have := HK4.out; first | omega | exact zh _⟩, ⟨zR HO_7⟩, ⟨zR HO_191004⟩, ⟨zK BK181⟩, ⟨zK BK190⟩, ⟨zB2 HB GE181 GE190⟩⟩
          subst c48;have H1 := H; rw [zp rfl] at H1;clear H;have H := H1;clear H1;obtain ⟨t202, A49, H⟩ := zA H;(try dsimp only at H);by_cases c50 : t202 = true
          ·subst c50;have H1 := H; rw [zp rfl] at H1;clear H;have H := H1;clear H1;obtain ⟨t203, A51, H⟩ := zA H;(try dsimp only at H);have H' := zN H;clear H;go_wp2_with (first | (go_at_call 34; (with_reducible refine (tollgateref09_Token.calls k4 t198 true _ A49.out).mono ?_); rintro e w' ⟨rfl, ⟨nd, rfl⟩⟩) | (go_at_call 35; (with_reducible refine (tollgateref09_Value.calls k4 t201 t203 _ A51.out).mono ?_); rintro e w' ⟨rfl, ⟨nd, rfl⟩⟩));go_meet
           case rel => exact ⟨_, (!t203), zI, H', ⟨by have := HK1.out; have := HJ2.out; have := HJ21.out; have := HK4.out; first | omega | exact zh _⟩, ⟨zR HO_7⟩, ⟨zR HO_191004⟩, ⟨zK BK181⟩, ⟨zK BK190⟩, ⟨zB2 HB GE181 GE190⟩⟩
          replace c50 := zq.mpr c50;subst c50;have H1 := H; rw [zn (show ¬ (false = true) by decide)] at H1;clear H;have H := H1;clear H1;have H' := zN H;clear H;go_wp2_with (first | (go_at_call 34; (with_reducible refine (tollgateref09_Token.calls k4 t198 false _ A49.out).mono ?_); rintro e w' ⟨rfl, ⟨nd, rfl⟩⟩));go_meet
          case rel => exact ⟨_, (true), zI, H', ⟨by have := HK1.out; have := HJ2.out; have := HJ21.out; have := HK4.out; first | omega | exact zh _⟩, ⟨zR HO_7⟩, ⟨zR HO_191004⟩, ⟨zK BK181⟩, ⟨zK BK190⟩, ⟨zB2 HB GE181 GE190⟩⟩
         case rest =>
          clear HC47
          try clear c6
          try clear c24
          try clear c26
          try clear c26b0
          try clear c28
          try clear c28b0
          try clear c28b1
          try clear c29
          try clear c29b0
          try clear c29b1
          try clear c31
          try clear c31b0
          try clear c31b1
          try clear c33
          try clear hcv35
          try clear c43
          try clear c43b0
          try clear c44
          try clear c44b0
          try clear hcz39_0
          try clear hcz39_1
          try clear hcz39_2
          try clear hcz39_3
          try clear hcz39_4
          try clear hcz42_0
          try clear hcz42_1
          try clear hcz42_2
          try clear hcz42_3
          try clear hcz42_4
          try clear hfz39_0
          try clear hfz39_1
          try clear hfz39_2
          try clear hfz39_3
          try clear hfz39_4
          try clear hfz42_0
          try clear hfz42_1
          try clear hfz42_2
          try clear hfz42_3
          try clear hfz42_4
          try clear hx191_0
          try clear hx197_0
          try clear p191
          try clear p197
          try clear q191
          try clear q197
          obtain ⟨kq, x113_46, rfl, HA, HJ46, HO_7, HO_191004, BK181, BK190, HB⟩ := hcut;cases kq with
          | zero => exact absurd HA.out (by simp [tollgateref09_Parse.j4])
          | succ kj46 =>
           have H := HA.out;clear HA;simp only [tollgateref09_Parse.j4] at H;by_cases c52 : x113_46 = true
           ·subst c52;have H1 := H; rw [zp rfl] at H1;clear H;have H := H1;clear H1;simp only [Option.some.injEq, Prod.mk.injEq] at H;obtain ⟨rfl, rfl, rfl, rfl, rfl, rfl, rfl⟩ := H;have hnb53 := NB181_190.out;have hnc53 := NB190_181.out;obtain ⟨hcz54_0, hcz54_1, hcz54_2, hcz54_3, hcz54_4, hfz54_0, hfz54_1, hfz54_2, hfz54_3, hfz54_4⟩ := zC5 BK181;go_wp2;refine bodyPost_ret (results_ctt rfl _ _ gb181 57 #[.string (⟨#[]⟩ : ByteArray), .string (⟨#[]⟩ : ByteArray), .string (⟨#[]⟩ : ByteArray), .string (⟨#[]⟩ : ByteArray), .slice none 0 0] (0, 0) _ rfl (zF BK181) Tryz.underlying57 rfl zQ) rfl ?_;exact ⟨_, zE, by first | exact Kd.R_nil _ _ _ _ _ | exact Kd.N_nil _ _ _ _ _ | exact Kd.V_nil _ _ _ _ _ | exact Kd.Q_nil _ _ _ _ _ | exact Kd.S_nil _ _ _ _ _, zB2 HB GE181 GE190⟩
           replace c52 := zq.mpr c52;subst c52;have H1 := H; rw [zn (show ¬ (false = true) by decide)] at H1;clear H;have H := H1;clear H1;obtain ⟨t204, A55, H⟩ := zA H;(try dsimp only at H);by_cases c56 : x191004_4.length < 4398046511104;rotate_left
           ·rw [zn c56] at H;exact absurd H (by simp)
           rw [zp c56] at H;have LMc56 := zN c56;clear c56;obtain ⟨y205, hy205⟩ : ∃ y_ : List (S84), y_ = (x191004_4 ++ [(⟨t204, t201⟩ : S84)]) := ⟨_, rfl⟩;replace H : (if t204.toList = ([104, 111, 115, 116] : List UInt8) then ((tollgateref09_Host.f kj46 t201).bind fun bt208 => (if bt208.2 = true then (tollgateref09_Parse.j5 kj46 x5_1 t187 (wrap64 (x9_4 + 1)) x10_4 bt208.1 (decide ((wrap64 (x9_4 + 1)) > 1)) t193 t194 t195 x191003_4 y205) else (tollgateref09_Parse.j5 kj46 x5_1 t187 (wrap64 (x9_4 + 1)) x10_4 bt208.1 true t193 t194 t195 x191003_4 y205))) else (tollgateref09_Parse.l1 kj46 x5_1 t187 x9_4 (wrap64 (x10_4 + 1)) t193 t194 t195 x191003_4 y205)) = some (r1, r2, r3, r4, r5, r6, r7) := by first | (rw [hy205]; with_reducible exact H) | (have H2_ := (Option.bind_some _ _).symm.trans H; rw [hy205]; with_reducible exact H2_) | (have H2_ := (Option.bind_some _ _).symm.trans H; with_reducible exact H2_) | with_reducible exact H | (rw [hy205]; exact H) | exact H
           have Ny205 := zN hy205;clear hy205;by_cases c57 : t204.toList = ([104, 111, 115, 116] : List UInt8);rotate_left
           ·rw [zn c57] at H;have c57b0 := zb.mpr c57;have c57b1 := bne_iff_ne.mpr c57;have H' := zN H;clear H;go_wp2_with (first | ((with_reducible refine gate_callee (f := 36) rfl ?_); refine zg (some 116) Tryz.func36 #[.string t198] ?_; (with_reducible refine (tollgateref09_Lower.calls kj46 t198 t204 _ A55.out).mono ?_); rintro e w76 ⟨rfl, hb⟩; refine ⟨_, rfl, ?_⟩; replace HO_7 := zN (Kd.R_below (zR HO_7) hb); replace HO_191004 := zN (Kd.R_below (zR HO_191004) hb); replace BK181 := zj BK181 hb; replace BK190 := zj BK190 hb; replace HB := zk2 HB GE181 GE190 hb; (try clear hb); (try clear hb2); (try clear hk); (try clear hi); have hnb77 := NB190_181.out; have hnc77 := NB181_190.out; obtain ⟨hcz78_0, hcz78_1, hcz78_2, hcz78_3, hcz78_4, hfz78_0, hfz78_1, hfz78_2, hfz78_3, hfz78_4⟩ := zC5 BK190) | ((with_reducible refine gate_builtin (b := .append) (xs := #[.tmp 118, .tmp 122]) rfl ?_); (try (refine gate_guard (by rfl) ?_; dsimp only)); at_builtin; refine Kd.R_append k84 (w0 := w) w.heap.size rfl (.tmp 118) (.tmp 122) 55 84 (.agg #[(.string ⟨#[]⟩), (.string ⟨#[]⟩)]) 32 rfl Tryz.underlying55 info84 rfl (by decide) zO u191004 x191004_4 (⟨t204, t201⟩ : S84) [.string t204, .string t201] (fun _ => True) (fun _ => False) rfl rfl ?aP (fun _ hk => hk.elim) ?aF ?aO ?aB ?aS ?aL ?_; (case aP => exact k84_mkM _ _ _ (⟨t204, t201⟩ : S84)); (case aB => exact (zB2 HB GE181 GE190)); (case aF => exact (fun _ _ => trivial)); (case aO => exact (zR HO_191004)); (case aS => exact (below_size (zB2 HB GE181 GE190))); (case aL => have := LMc56.out; omega); intro v206 w79 ho hb hg hat; rw [← Ny205.out] at ho; replace HO_7 := zN (Kd.R_over' (zR HO_7) (Kd.R_typed (zR HO_191004)) (by decide) hg); replace BK181 := zN (blk_grown (g := gb181) (o := .cells #[.string x182000_4, .string x182001_4, .string x182002_4, .string x182003_4, .slice none 0 0] 57 (0, 0)) (zK BK181) hg (Kd.R_ne HO_191004.out BK181.out (by decide))); replace BK190 := zN (blk_grown (g := gb190) (o := .cells #[.string t193, .string t194, .string t195, .string x191003_4, u191004] 57 (0, 0)) (zK BK190) hg (Kd.R_ne HO_191004.out BK190.out (by decide))); replace HB := zN hb; have HO207 := zN ho; clear HO_191004; clear ho hb hg hat; obtain ⟨Ao80, co80, eo80⟩ := Kd.R_slice HO207.out; subst eo80; obtain ⟨hcz81_0, hcz81_1, hcz81_2, hcz81_3, hcz81_4, hfz81_0, hfz81_1, hfz81_2, hfz81_3, hfz81_4⟩ := zC5 BK190));go_roundg kj46
            case measure => have := HK1.out; have := HJ2.out; have := HJ21.out; have := HK4.out; have := HJ46.out; omega
            case rel => exact ⟨(x9_4), (wrap64 (x10_4 + 1)), (x182000_4), (x182001_4), (x182002_4), (x182003_4), (x191003_4), (y205), (.slice Ao80 y205.length co80), zI, zI, H', ⟨by have := HK1.out; have := HJ2.out; have := HJ21.out; have := HK4.out; have := HJ46.out; omega⟩, ⟨by (with_reducible repeat (first | apply Kd.R_alloc | apply Kd.R_drewN | apply Kd.R_drew)); exact Kd.R_mono (Kd.R_far (p := ⟨gb190, 4, none⟩) (Kd.R_types HO_7.out BK190.out (by decide)) (fun _ hk => hk.2) (.slice Ao80 y205.length co80)) (fun _ hk => trivial)⟩, ⟨by (with_reducible repeat (first | apply Kd.R_alloc | apply Kd.R_drewN | apply Kd.R_drew)); exact Kd.R_mono (Kd.R_far (p := ⟨gb190, 4, none⟩) (Kd.R_types HO207.out BK190.out (by decide)) (fun _ hk => hk.2) (.slice Ao80 y205.length co80)) (fun _ hk => trivial)⟩, ⟨zF1 BK181 NB181_190⟩, ⟨zF BK190⟩, ⟨zB2 HB GE181 GE190⟩⟩
           rw [zp c57] at H;have c57b0 := beq_iff_eq.mpr c57;have c57b1 := zc.mpr c57;clear c57;obtain ⟨⟨t208, t209⟩, A58, H⟩ := zA H;(try dsimp only at H);have HC59 := zN H;clear H;go_upto_region 28 with (first | ((with_reducible refine gate_callee (f := 36) rfl ?_); refine zg (some 116) Tryz.func36 #[.string t198] ?_; (with_reducible refine (tollgateref09_Lower.calls kj46 t198 t204 _ A55.out).mono ?_); rintro e w60 ⟨rfl, hb⟩; refine ⟨_, rfl, ?_⟩; replace HO_7 := zN (Kd.R_below (zR HO_7) hb); replace HO_191004 := zN (Kd.R_below (zR HO_191004) hb); replace BK181 := zj BK181 hb; replace BK190 := zj BK190 hb; replace HB := zk2 HB GE181 GE190 hb; (try clear hb); (try clear hb2); (try clear hk); (try clear hi); have hnb61 := NB190_181.out; have hnc61 := NB181_190.out; obtain ⟨hcz62_0, hcz62_1, hcz62_2, hcz62_3, hcz62_4, hfz62_0, hfz62_1, hfz62_2, hfz62_3, hfz62_4⟩ := zC5 BK190) | ((with_reducible refine gate_builtin (b := .append) (xs := #[.tmp 118, .tmp 122]) rfl ?_); (try (refine gate_guard (by rfl) ?_; dsimp only)); at_builtin; refine Kd.R_append k84 (w0 := w) w.heap.size rfl (.tmp 118) (.tmp 122) 55 84 (.agg #[(.string ⟨#[]⟩), (.string ⟨#[]⟩)]) 32 rfl Tryz.underlying55 info84 rfl (by decide) zO u191004 x191004_4 (⟨t204, t201⟩ : S84) [.string t204, .string t201] (fun _ => True) (fun _ => False) rfl rfl ?aP (fun _ hk => hk.elim) ?aF ?aO ?aB ?aS ?aL ?_; (case aP => exact k84_mkM _ _ _ (⟨t204, t201⟩ : S84)); (case aB => exact (zB2 HB GE181 GE190)); (case aF => exact (fun _ _ => trivial)); (case aO => exact (zR HO_191004)); (case aS => exact (below_size (zB2 HB GE181 GE190))); (case aL => have := LMc56.out; omega); intro v206 w63 ho hb hg hat; rw [← Ny205.out] at ho; replace HO_7 := zN (Kd.R_over' (zR HO_7) (Kd.R_typed (zR HO_191004)) (by decide) hg); replace BK181 := zN (blk_grown (g := gb181) (o := .cells #[.string x182000_4, .string x182001_4, .string x182002_4, .string x182003_4, .slice none 0 0] 57 (0, 0)) (zK BK181) hg (Kd.R_ne HO_191004.out BK181.out (by decide))); replace BK190 := zN (blk_grown (g := gb190) (o := .cells #[.string t193, .string t194, .string t195, .string x191003_4, u191004] 57 (0, 0)) (zK BK190) hg (Kd.R_ne HO_191004.out BK190.out (by decide))); replace HB := zN hb; have HO207 := zN ho; clear HO_191004; clear ho hb hg hat; obtain ⟨Ao64, co64, eo64⟩ := Kd.R_slice HO207.out; subst eo64; obtain ⟨hcz65_0, hcz65_1, hcz65_2, hcz65_3, hcz65_4, hfz65_0, hfz65_1, hfz65_2, hfz65_3, hfz65_4⟩ := zC5 BK190) | ((with_reducible refine gate_callee (f := 37) rfl ?_); refine zg (some 131) Tryz.func37 #[.string t201] ?_; (with_reducible refine (tollgateref09_Host.calls kj46 t201 t208 t209 _ A58.out).mono ?_); rintro e w66 ⟨rfl, hb⟩; refine ⟨_, rfl, ?_⟩; replace HO_7 := zN (Kd.R_below (by (with_reducible repeat (first | apply Kd.R_alloc | apply Kd.R_drewN | apply Kd.R_drew)); exact (Kd.R_mono (Kd.R_far (p := ⟨gb190, 4, none⟩) (Kd.R_types HO_7.out BK190.out (by decide)) (fun _ hk => hk.2) (.slice Ao64 y205.length co64)) (fun _ h_ => h_.1))) hb); replace HO207 := zN (Kd.R_below (by (with_reducible repeat (first | apply Kd.R_alloc | apply Kd.R_drewN | apply Kd.R_drew)); exact (Kd.R_mono (Kd.R_far (p := ⟨gb190, 4, none⟩) (Kd.R_types HO207.out BK190.out (by decide)) (fun _ hk => hk.2) (.slice Ao64 y205.length co64)) (fun _ h_ => h_.1))) hb); replace BK181 := zN (blk_below (g := gb181) (o := .cells #[.string x182000_4, .string x182001_4, .string x182002_4, .string x182003_4, .slice none 0 0] 57 (0, 0)) (zF1 BK181 NB181_190) hb); replace BK190 := zN (blk_below (g := gb190) (o := .cells #[.string t193, .string t194, .string t195, .string x191003_4, .slice Ao64 y205.length co64] 57 (0, 0)) (zF BK190) hb); replace HB := zk2 HB GE181 GE190 hb; (try clear hb); (try clear hb2); (try clear hk); (try clear hi)))
           (try simp only [Act.put, List.setIfInBounds_toArray, List.set_cons_zero, List.set_cons_succ]);go_cut [139] (fun v139 wc => ∃ (kq : Nat) (x139_58 : Bool), v139 = .bool x139_58 ∧ Aside0 (tollgateref09_Parse.j5 kq x5_1 t187 (wrap64 (x9_4 + 1)) x10_4 t208 x139_58 t193 t194 t195 x191003_4 y205 = some (r1, r2, r3, r4, r5, r6, r7)) ∧ Aside0 (kq ≤ kj46) ∧ Aside0 (Kd.R Kd.string 9 wc w.heap.size (fun _ => True) (.slice (some ad191) t187.length co40) t187) ∧ Aside0 (Kd.R k84 84 wc w.heap.size (fun _ => True) (.slice Ao64 y205.length co64) y205) ∧ Aside0 (wc.heap[gb181]? = some (.cells #[.string x182000_4, .string x182001_4, .string x182002_4, .string x182003_4, (.slice none 0 0)] 57 (0, 0))) ∧ Aside0 (wc.heap[gb190]? = some (.cells #[.string t193, .string t194, .string t195, .string x191003_4, (.slice Ao64 y205.length co64)] 57 (0, 0))) ∧ Aside0 (Below w.heap.size w wc))
           case first =>
            have H := HC59.out;clear HC59;by_cases c67 : t209 = true
            ·subst c67;have H1 := H; rw [zp rfl] at H1;clear H;have H := H1;clear H1;have H' := zN H;clear H;go_wp2;go_meet
             case rel => exact ⟨_, (decide ((wrap64 (x9_4 + 1)) > 1)), zI, H', ⟨by have := HK1.out; have := HJ2.out; have := HJ21.out; have := HK4.out; have := HJ46.out; first | omega | exact zh _⟩, ⟨zR HO_7⟩, ⟨zR HO207⟩, ⟨zK BK181⟩, ⟨zK BK190⟩, ⟨zB2 HB GE181 GE190⟩⟩
            replace c67 := zq.mpr c67;subst c67;have H1 := H; rw [zn (show ¬ (false = true) by decide)] at H1;clear H;have H := H1;clear H1;have H' := zN H;clear H;go_wp2;go_meet
            case rel => exact ⟨_, (true), zI, H', ⟨by have := HK1.out; have := HJ2.out; have := HJ21.out; have := HK4.out; have := HJ46.out; first | omega | exact zh _⟩, ⟨zR HO_7⟩, ⟨zR HO207⟩, ⟨zK BK181⟩, ⟨zK BK190⟩, ⟨zB2 HB GE181 GE190⟩⟩
           case rest =>
            clear HC59
            try clear c6
            try clear c24
            try clear c26
            try clear c26b0
            try clear c28
            try clear c28b0
            try clear c28b1
            try clear c29
            try clear c29b0
            try clear c29b1
            try clear c31
            try clear c31b0
            try clear c31b1
            try clear c33
            try clear hcv35
            try clear c43
            try clear c43b0
            try clear c44
            try clear c44b0
            try clear c52
            try clear c56
            try clear c57
            try clear c57b0
            try clear c57b1
            try clear hcz39_0
            try clear hcz39_1
            try clear hcz39_2
            try clear hcz39_3
            try clear hcz39_4
            try clear hcz42_0
            try clear hcz42_1
            try clear hcz42_2
            try clear hcz42_3
            try clear hcz42_4
            try clear hcz62_0
            try clear hcz62_1
            try clear hcz62_2
            try clear hcz62_3
            try clear hcz62_4
            try clear hcz65_0
            try clear hcz65_1
            try clear hcz65_2
            try clear hcz65_3
            try clear hcz65_4
            try clear hfz39_0
            try clear hfz39_1
            try clear hfz39_2
            try clear hfz39_3
            try clear hfz39_4
            try clear hfz42_0
            try clear hfz42_1
            try clear hfz42_2
            try clear hfz42_3
            try clear hfz42_4
            try clear hfz62_0
            try clear hfz62_1
            try clear hfz62_2
            try clear hfz62_3
            try clear hfz62_4
            try clear hfz65_0
            try clear hfz65_1
            try clear hfz65_2
            try clear hfz65_3
            try clear hfz65_4
            try clear hx191_0
            try clear hx197_0
            try clear p191
            try clear p197
            try clear q191
            try clear q197
            obtain ⟨kq, x139_58, rfl, HA, HJ58, HO_7, HO_191004, BK181, BK190, HB⟩ := hcut;cases kq with
            | zero => exact absurd HA.out (by simp [tollgateref09_Parse.j5])
            | succ kj58 =>
             have H := HA.out;clear HA;simp only [tollgateref09_Parse.j5] at H;by_cases c68 : x139_58 = true
             ·subst c68;have H1 := H; rw [zp rfl] at H1;clear H;have H := H1;clear H1;simp only [Option.some.injEq, Prod.mk.injEq] at H;obtain ⟨rfl, rfl, rfl, rfl, rfl, rfl, rfl⟩ := H;have hnb69 := NB181_190.out;have hnc69 := NB190_181.out;obtain ⟨hcz70_0, hcz70_1, hcz70_2, hcz70_3, hcz70_4, hfz70_0, hfz70_1, hfz70_2, hfz70_3, hfz70_4⟩ := zC5 BK181;go_wp2;refine bodyPost_ret (results_ctt rfl _ _ gb181 57 #[.string (⟨#[]⟩ : ByteArray), .string (⟨#[]⟩ : ByteArray), .string (⟨#[]⟩ : ByteArray), .string (⟨#[]⟩ : ByteArray), .slice none 0 0] (0, 0) _ rfl (zF BK181) Tryz.underlying57 rfl zQ) rfl ?_;exact ⟨_, zE, by first | exact Kd.R_nil _ _ _ _ _ | exact Kd.N_nil _ _ _ _ _ | exact Kd.V_nil _ _ _ _ _ | exact Kd.Q_nil _ _ _ _ _ | exact Kd.S_nil _ _ _ _ _, zB2 HB GE181 GE190⟩
             replace c68 := zq.mpr c68;subst c68;have H1 := H; rw [zn (show ¬ (false = true) by decide)] at H1;clear H;have H := H1;clear H1;by_cases c71 : x191003_4.toList = ([] : List UInt8)
             ·rw [zp c71] at H;have c71b0 := beq_iff_eq.mpr c71;have c71b1 := zc.mpr c71;have c71b2 : x191003_4.toList.isEmpty = true := by simpa using c71
              clear c71;have H' := zN H;clear H;have hnb72 := NB190_181.out;have hnc72 := NB181_190.out;obtain ⟨hcz73_0, hcz73_1, hcz73_2, hcz73_3, hcz73_4, hfz73_0, hfz73_1, hfz73_2, hfz73_3, hfz73_4⟩ := zC5 BK190;go_wp2;go_roundg kj58
              case measure => have := HK1.out; have := HJ2.out; have := HJ21.out; have := HK4.out; have := HJ46.out; have := HJ58.out; omega
              case rel => exact ⟨((wrap64 (x9_4 + 1))), (wrap64 (x10_4 + 1)), (x182000_4), (x182001_4), (x182002_4), (x182003_4), (t208), (y205), (.slice Ao64 y205.length co64), zI, zI, H', ⟨by have := HK1.out; have := HJ2.out; have := HJ21.out; have := HK4.out; have := HJ46.out; have := HJ58.out; omega⟩, ⟨by (with_reducible repeat (first | apply Kd.R_alloc | apply Kd.R_drewN | apply Kd.R_drew)); exact Kd.R_mono (Kd.R_far (p := ⟨gb190, 3, none⟩) (Kd.R_types HO_7.out BK190.out (by decide)) (fun _ hk => hk.2) (.string t208)) (fun _ hk => trivial)⟩, ⟨by (with_reducible repeat (first | apply Kd.R_alloc | apply Kd.R_drewN | apply Kd.R_drew)); exact Kd.R_mono (Kd.R_far (p := ⟨gb190, 3, none⟩) (Kd.R_types HO_191004.out BK190.out (by decide)) (fun _ hk => hk.2) (.string t208)) (fun _ hk => trivial)⟩, ⟨zF1 BK181 NB181_190⟩, ⟨zF BK190⟩, ⟨zB2 HB GE181 GE190⟩⟩
             rw [zn c71] at H;have c71b0 := zb.mpr c71;have c71b1 := bne_iff_ne.mpr c71;have c71b2 : x191003_4.toList.isEmpty = false := by simpa using c71
             have H' := zN H;clear H;have hnb74 := NB190_181.out;have hnc74 := NB181_190.out;obtain ⟨hcz75_0, hcz75_1, hcz75_2, hcz75_3, hcz75_4, hfz75_0, hfz75_1, hfz75_2, hfz75_3, hfz75_4⟩ := zC5 BK190;go_wp2;go_roundg kj58
             case measure => have := HK1.out; have := HJ2.out; have := HJ21.out; have := HK4.out; have := HJ46.out; have := HJ58.out; omega
             case rel => exact ⟨((wrap64 (x9_4 + 1))), (wrap64 (x10_4 + 1)), (x182000_4), (x182001_4), (x182002_4), (x182003_4), (x191003_4), (y205), (.slice Ao64 y205.length co64), zI, zI, H', ⟨by have := HK1.out; have := HJ2.out; have := HJ21.out; have := HK4.out; have := HJ46.out; have := HJ58.out; omega⟩, ⟨zR HO_7⟩, ⟨zR HO_191004⟩, ⟨zK BK181⟩, ⟨zK BK190⟩, ⟨zB2 HB GE181 GE190⟩⟩

def tollgateref10_Fits.j0 : Nat → ByteArray → ByteArray → Bool → Option (Bool)
 | 0, _, _, _ => none
 | k + 1, x0, x1, x17 => if x17 = true then (some false) else (if (x1.size : Int) = (x0.size : Int) then (some true) else (if 0 ≤ (x0.size : Int) then (if (x0.size : Int) < (x1.size : Int) then (if (bt x1 (x0.size : Int)) = 47 then (some true) else (if x0.toList = ([] : List UInt8) then (some false) else (if 0 ≤ (wrap64 ((x0.size : Int) - 1)) then (if (wrap64 ((x0.size : Int) - 1)) < (x0.size : Int) then (some ((bt x0 (wrap64 ((x0.size : Int) - 1))) == 47)) else (none)) else (none)))) else (none)) else (none)))
def tollgateref10_Fits.f (k : Nat) (a0 : ByteArray) (a1 : ByteArray) : Option (Bool) := if (a1.size : Int) < (a0.size : Int) then (tollgateref10_Fits.j0 k a0 a1 true) else (if 0 ≤ (a0.size : Int) then (if (a0.size : Int) ≤ (a1.size : Int) then (tollgateref10_Fits.j0 k a0 a1 ((a1.extract 0 ((a0.size : Int) : Int).toNat).toList != a0.toList)) else (none)) else (none))
theorem tollgateref10_Fits.mono_l : ∀ k, (∀ y0 y1 y2, LeO (tollgateref10_Fits.j0 k y0 y1 y2) (tollgateref10_Fits.j0 (k + 1) y0 y1 y2))
 | 0 => fun _ _ _ r h => by simp [tollgateref10_Fits.j0] at h
 | k + 1 => by
  have ih0 := tollgateref10_Fits.mono_l k;intro y0 y1 y2;unfold tollgateref10_Fits.j0
  repeat' with_reducible first | exact ih0 _ _ _ | exact LeO.refl _ | exact LeO.none _ | refine LeO.ite ?_ ?_ | refine LeO.bind ?_ (fun _ => ?_)
theorem tollgateref10_Fits.mono : ∀ a0 a1 k, LeO (tollgateref10_Fits.f k a0 a1) (tollgateref10_Fits.f (k + 1) a0 a1) := by
 intro a0 a1 k;have ih0 := tollgateref10_Fits.mono_l k;unfold tollgateref10_Fits.f
 repeat' with_reducible first | exact ih0 _ _ _ | exact LeO.refl _ | exact LeO.none _ | refine LeO.ite ?_ ?_ | refine LeO.bind ?_ (fun _ => ?_)
set_option maxHeartbeats 8000000 in
set_option maxRecDepth 100000 in
theorem tollgateref10_Fits.calls (k : Nat) (a0 : ByteArray) (a1 : ByteArray) (r : Bool) (w : World) (h : tollgateref10_Fits.f k a0 a1 = some r) :
  Calls Tryz.prog 38 #[.string a0, .string a1] w fun e w' => e = .returned (.bool r) ∧ Drawn0 w w' := by
 have H : (if (a1.size : Int) < (a0.size : Int) then (tollgateref10_Fits.j0 k a0 a1 true) else (if 0 ≤ (a0.size : Int) then (if (a0.size : Int) ≤ (a1.size : Int) then (tollgateref10_Fits.j0 k a0 a1 ((a1.extract 0 ((a0.size : Int) : Int).toNat).toList != a0.toList)) else (none)) else (none))) = some r := h;clear h;have HC3 := zN H;clear H;go_enter Tryz.func38, Tryz.ntmps38;go_upto_region 1 with (fail)
 go_cut [17] (fun v17 wc => ∃ (kq : Nat) (x17_2 : Bool), v17 = .bool x17_2 ∧ Aside0 (tollgateref10_Fits.j0 kq a0 a1 x17_2 = some r) ∧ Aside0 (kq ≤ k) ∧ Drawn0 w wc)
 case first =>
  have H := HC3.out;clear HC3;by_cases c4 : (a1.size : Int) < (a0.size : Int)
  ·rw [zp c4] at H;have c4b0 := zt c4;have c4b1 : decide (a1.size < a0.size) = true := zt (Int.ofNat_lt.mp c4);clear c4;(first | rw [c4b0] | (simp only [i64_w, i32_w]; rw [c4b0]) | skip);have H' := zN H;clear H;go_wp2;go_meet
   case rel => exact ⟨_, (true), zI, H', ⟨by first | omega | exact zh _⟩, zD⟩
  rw [zn c4] at H;have c4b0 := zf c4;have c4b1 : decide (a1.size < a0.size) = false := zf (fun h => c4 (Int.ofNat_lt.mpr h));clear c4;(first | rw [c4b0] | (simp only [i64_w, i32_w]; rw [c4b0]) | skip);by_cases c5 : 0 ≤ (a0.size : Int);rotate_left
  ·rw [zn c5] at H;exact absurd H (by simp)
  rw [zp c5] at H;have c5b0 := zu c5;have c5b1 := zt c5;clear c5;by_cases c6 : (a0.size : Int) ≤ (a1.size : Int)
  ·rw [zp c6] at H;have c6b0 := zu c6;have c6b1 := zt c6;clear c6;have H' := zN H;clear H;go_wp2;go_meet
   case rel => exact ⟨_, (((a1.extract 0 ((a0.size : Int) : Int).toNat).toList != a0.toList)), zI, H', ⟨by first | omega | exact zh _⟩, zD⟩
  rw [zn c6] at H;exact absurd H (by simp)
 case rest =>
  clear HC3;obtain ⟨kq, x17_2, rfl, HA, HJ2, ⟨mc2, rfl⟩⟩ := hcut;cases kq with
  | zero => exact absurd HA.out (by simp [tollgateref10_Fits.j0])
  | succ kj2 =>
   have H := HA.out;clear HA;simp only [tollgateref10_Fits.j0] at H;by_cases c7 : x17_2 = true
   ·subst c7;have H1 := H; rw [zp rfl] at H1;clear H;have H := H1;clear H1;obtain rfl := zo H;go_wp2;go_ret;exact ⟨zI, zD⟩
   replace c7 := zq.mpr c7;subst c7;have H1 := H; rw [zn (show ¬ (false = true) by decide)] at H1;clear H;have H := H1;clear H1;by_cases c8 : (a1.size : Int) = (a0.size : Int)
   ·rw [zp c8] at H;have c8b0 := beq_iff_eq.mpr c8;have c8b1 := zc.mpr c8;have c8b2 : (a1.size == a0.size) = true := by first | simpa using c8 | (simp at c8 ⊢; omega)
    clear c8;obtain rfl := zo H;go_wp2;go_ret;exact ⟨zI, zD⟩
   rw [zn c8] at H;have c8b0 := zb.mpr c8;have c8b1 := bne_iff_ne.mpr c8;have c8b2 : (a1.size == a0.size) = false := by first | simpa using c8 | (simp at c8 ⊢; omega)
   by_cases c9 : 0 ≤ (a0.size : Int);rotate_left
   ·rw [zn c9] at H;exact absurd H (by simp)
   rw [zp c9] at H;have c9b0 := zt c9;have c9b1 : decide (0 ≤ a0.size) = true := zt zO;clear c9;by_cases c10 : (a0.size : Int) < (a1.size : Int);rotate_left
   ·rw [zn c10] at H;exact absurd H (by simp)
   rw [zp c10] at H;have c10b0 := zt c10;have c10b1 : decide (a0.size < a1.size) = true := zt (Int.ofNat_lt.mp c10);clear c10;by_cases c12 : (bt a1 (a0.size : Int)) = 47
   ·rw [zp c12] at H;have c12b0 := beq_iff_eq.mpr c12;have c12b1 := zc.mpr c12;clear c12;obtain rfl := zo H;have p11 : 0 ≤ ((a0.size : Int) : Int) := zd zS;have q11 : (a0.size : Int) < (a1.size : Int) := zd zS;have hx11 := bt_at a1 (a0.size : Int);have hx11n : ∀ h_ : a0.size < a1.size, ((a1[a0.size]'h_).toNat : Int) = bt a1 (a0.size : Int) := fun h_ => bt_at a1 (a0.size : Int) h_
    replace p11 := zu p11;replace q11 := zu q11;go_wp2;go_ret;exact ⟨zI, zD⟩
   rw [zn c12] at H;have c12b0 := zb.mpr c12;have c12b1 := bne_iff_ne.mpr c12;by_cases c13 : a0.toList = ([] : List UInt8)
   ·rw [zp c13] at H;have c13b0 := beq_iff_eq.mpr c13;have c13b1 := zc.mpr c13;clear c13;obtain rfl := zo H;have p11 : 0 ≤ ((a0.size : Int) : Int) := zd zS;have q11 : (a0.size : Int) < (a1.size : Int) := zd zS;have hx11 := bt_at a1 (a0.size : Int);have hx11n : ∀ h_ : a0.size < a1.size, ((a1[a0.size]'h_).toNat : Int) = bt a1 (a0.size : Int) := fun h_ => bt_at a1 (a0.size : Int) h_
    replace p11 := zu p11;replace q11 := zu q11;go_wp2;go_ret;exact ⟨zI, zD⟩
   rw [zn c13] at H;have c13b0 := zb.mpr c13;have c13b1 := bne_iff_ne.mpr c13;obtain ⟨ji14, hji14⟩ : ∃ j_ : Int, (wrap64 ((a0.size : Int) - 1)) = j_ := ⟨_, rfl⟩;replace H : (if 0 ≤ (ji14) then (if (ji14) < (a0.size : Int) then (some ((bt a0 (ji14)) == 47)) else (none)) else (none)) = some r := by first | (rw [hji14] at H; exact H) | (simp only [hji14] at H ⊢; exact H)
   have hji14w : (IntKind.i64.wrap ((a0.size : Int) - 1)) = ji14 := (i64_w _).trans hji14;by_cases c15 : 0 ≤ (ji14);rotate_left
   ·rw [zn c15] at H;exact absurd H (by simp)
   rw [zp c15] at H;have c15b0 := zt c15;clear c15;by_cases c16 : (ji14) < (a0.size : Int);rotate_left
   ·rw [zn c16] at H;exact absurd H (by simp)
   rw [zp c16] at H;have c16b0 := zt c16;clear c16;obtain rfl := zo H;have p11 : 0 ≤ ((a0.size : Int) : Int) := zd zS;have q11 : (a0.size : Int) < (a1.size : Int) := zd zS;have hx11 := bt_at a1 (a0.size : Int);have hx11n : ∀ h_ : a0.size < a1.size, ((a1[a0.size]'h_).toNat : Int) = bt a1 (a0.size : Int) := fun h_ => bt_at a1 (a0.size : Int) h_
   replace p11 := zu p11;replace q11 := zu q11;have p17 : 0 ≤ ((ji14) : Int) := zd zS;have q17 : (ji14) < (a0.size : Int) := zd zS;have hx17 := bt_at a0 (ji14);replace p17 := zu p17;replace q17 := zu q17;go_wp2;go_ret;exact ⟨by first | rfl | (simp; done) | (simp only [← hji14] <;> (first | rfl | simp)) | (simp [*]; done), zD⟩

mutual
def tollgateref10_Find.l0 : Nat → ByteArray → ByteArray → Int → Int → List (S64) → List (S39) → Option (ByteArray × ByteArray × ByteArray × Bool)
 | 0, _, _, _, _, _, _ => none
 | k + 1, x1, x2, x8, x211000, x211001, x211002 => if x8 ≥ 0 then (tollgateref10_Find.l1 k x1 x2 x8 0 x211000 x211001 x211002) else (some ((⟨#[]⟩ : ByteArray), (⟨#[]⟩ : ByteArray), (⟨#[]⟩ : ByteArray), false))
def tollgateref10_Find.l1 : Nat → ByteArray → ByteArray → Int → Int → Int → List (S64) → List (S39) → Option (ByteArray × ByteArray × ByteArray × Bool)
 | 0, _, _, _, _, _, _, _ => none
 | k + 1, x1, x2, x8, x9, x211000, x211001, x211002 => if x9 < (x211001.length : Int) then (if 0 ≤ x9 then (if ((rd_T64 x211001 x9).f0).toList = x1.toList then (if (((rd_T64 x211001 x9).f1).size : Int) = x8 then ((tollgateref10_Fits.f k ((rd_T64 x211001 x9).f1) x2).bind fun t214 => (if t214 = true then (some ((rd_T64 x211001 x9).f0, (rd_T64 x211001 x9).f1, (rd_T64 x211001 x9).f2, true)) else (tollgateref10_Find.l1 k x1 x2 x8 (wrap64 (x9 + 1)) x211000 x211001 x211002))) else (tollgateref10_Find.l1 k x1 x2 x8 (wrap64 (x9 + 1)) x211000 x211001 x211002)) else (tollgateref10_Find.l1 k x1 x2 x8 (wrap64 (x9 + 1)) x211000 x211001 x211002)) else (none)) else (tollgateref10_Find.l0 k x1 x2 (wrap64 (x8 - 1)) x211000 x211001 x211002)
end
def tollgateref10_Find.f (k : Nat) (a0_0 : Int) (l0_1 : List (S64)) (l0_2 : List (S39)) (a1 : ByteArray) (a2 : ByteArray) : Option (ByteArray × ByteArray × ByteArray × Bool) := tollgateref10_Find.l0 k a1 a2 (a2.size : Int) a0_0 l0_1 l0_2
theorem tollgateref10_Find.mono_l : ∀ k, (∀ y0 y1 y2 y3 y4 y5, LeO (tollgateref10_Find.l0 k y0 y1 y2 y3 y4 y5) (tollgateref10_Find.l0 (k + 1) y0 y1 y2 y3 y4 y5)) ∧ (∀ y0 y1 y2 y3 y4 y5 y6, LeO (tollgateref10_Find.l1 k y0 y1 y2 y3 y4 y5 y6) (tollgateref10_Find.l1 (k + 1) y0 y1 y2 y3 y4 y5 y6))
 | 0 => ⟨fun _ _ _ _ _ _ r h => by simp [tollgateref10_Find.l0] at h, fun _ _ _ _ _ _ _ r h => by simp [tollgateref10_Find.l1] at h⟩
 | k + 1 => by
  obtain ⟨ih0, ih1⟩ := tollgateref10_Find.mono_l k;refine ⟨?_, ?_⟩
  ·intro y0 y1 y2 y3 y4 y5;unfold tollgateref10_Find.l0
   repeat' with_reducible first | exact ih0 _ _ _ _ _ _ | exact ih1 _ _ _ _ _ _ _ | exact tollgateref10_Fits.mono _ _ _ | exact LeO.refl _ | exact LeO.none _ | refine LeO.ite ?_ ?_ | refine LeO.bind ?_ (fun _ => ?_)
  intro y0 y1 y2 y3 y4 y5 y6;unfold tollgateref10_Find.l1
  repeat' with_reducible first | exact ih0 _ _ _ _ _ _ | exact ih1 _ _ _ _ _ _ _ | exact tollgateref10_Fits.mono _ _ _ | exact LeO.refl _ | exact LeO.none _ | refine LeO.ite ?_ ?_ | refine LeO.bind ?_ (fun _ => ?_)
theorem tollgateref10_Find.mono : ∀ a0 a1 a2 a3 a4 k, LeO (tollgateref10_Find.f k a0 a1 a2 a3 a4) (tollgateref10_Find.f (k + 1) a0 a1 a2 a3 a4) := by
 intro a0 a1 a2 a3 a4 k;obtain ⟨ih0, ih1⟩ := tollgateref10_Find.mono_l k;unfold tollgateref10_Find.f
 repeat' with_reducible first | exact ih0 _ _ _ _ _ _ | exact ih1 _ _ _ _ _ _ _ | exact tollgateref10_Fits.mono _ _ _ | exact LeO.refl _ | exact LeO.none _ | refine LeO.ite ?_ ?_ | refine LeO.bind ?_ (fun _ => ?_)
set_option maxHeartbeats 8000000 in
set_option maxRecDepth 100000 in
theorem tollgateref10_Find.calls (k : Nat) (a0_0 : Int) (A0_1 : Option Addr) (c0_1 : Nat) (l0_1 : List (S64)) (A0_2 : Option Addr) (c0_2 : Nat) (l0_2 : List (S39)) (a1 : ByteArray) (a2 : ByteArray) (r1 : ByteArray) (r2 : ByteArray) (r3 : ByteArray) (r4 : Bool) (w : World) (hr0_1 : Kd.C k64 w A0_1 l0_1.length l0_1) (hc0_1 : l0_1.length ≤ c0_1) (hr0_2 : Kd.C k39 w A0_2 l0_2.length l0_2) (hc0_2 : l0_2.length ≤ c0_2) (h : tollgateref10_Find.f k a0_0 l0_1 l0_2 a1 a2 = some (r1, r2, r3, r4)) :
  Calls Tryz.prog 19 #[.agg #[.int .i64 a0_0, .slice A0_1 l0_1.length c0_1, .slice A0_2 l0_2.length c0_2], .string a1, .string a2] w fun e w' => e = .returned (.tuple #[.agg #[.string r1, .string r2, .string r3], .bool r4]) ∧ Below w.heap.size w w' := by
 have hu28 := Tryz.underlying28;have hu64 := Tryz.underlying64;have HR0_1 := zN hr0_1;have HC0_1 := zN hc0_1;clear hr0_1 hc0_1;have HR0_2 := zN hr0_2;have HC0_2 := zN hc0_2;clear hr0_2 hc0_2;have HB := zN (Below.refl w.heap.size w);have H : (tollgateref10_Find.l0 k a1 a2 (a2.size : Int) a0_0 l0_1 l0_2) = some (r1, r2, r3, r4) := h;clear h;have H' := zN H;clear H;go_enter Tryz.func19, Tryz.ntmps19;go_wp2_with (first | ((with_reducible refine gate_dst (N := 3) rfl ?_); (try (refine gate_guard (by rfl) ?_; dsimp only)); refine zX #[.int .i64 a0_0, .slice A0_1 l0_1.length c0_1, .slice A0_2 l0_2.length c0_2] 28 rfl ?_; intro gb210 hg w4 hbox hb; have BK210 := zN hbox; have GW210 := zY w (zB HB) hg; have GE210 := zY w (zB HB) hg; replace HB := zk HB hb; clear hb hbox hg) | ((with_reducible refine gate_dst (N := 6) rfl ?_); (try (refine gate_guard (by rfl) ?_; dsimp only)); refine zX #[.string (⟨#[]⟩ : ByteArray), .string (⟨#[]⟩ : ByteArray), .string (⟨#[]⟩ : ByteArray)] 64 rfl ?_; intro gb211 hg w5 hbox hb; have BK211 := zN hbox; have GW211 := zY w (zB1 HB GE210) hg; have GE211 := zY w (zB1 HB GE210) hg; replace HB := zk1 HB GE210 hb; have NB210_211 := zl BK210 hg; have NB211_210 := zl' BK210 hg; replace BK210 := zj BK210 hb; clear hb hbox hg));go_loopg [8] k (fun kq v8 w' => ∃ (x8_1 : Int) (x212000_1 : ByteArray) (x212001_1 : ByteArray) (x212002_1 : ByteArray), v8 = .int .i64 x8_1 ∧ Aside0 (tollgateref10_Find.l0 kq a1 a2 x8_1 a0_0 l0_1 l0_2 = some (r1, r2, r3, r4)) ∧ Aside0 (kq ≤ k) ∧ Aside0 (w'.heap[gb210]? = some (.cells #[.int .i64 a0_0, (.slice A0_1 l0_1.length c0_1), (.slice A0_2 l0_2.length c0_2)] 28 (0, 0))) ∧ Aside0 (w'.heap[gb211]? = some (.cells #[.string x212000_1, .string x212001_1, .string x212002_1] 64 (0, 0))) ∧ Aside0 (Below w.heap.size w w'))
 case atStart => exact ⟨((a2.size : Int)), ((⟨#[]⟩ : ByteArray)), ((⟨#[]⟩ : ByteArray)), ((⟨#[]⟩ : ByteArray)), zI, H', ⟨zh _⟩, ⟨zK BK210⟩, ⟨zK BK211⟩, ⟨zB2 HB GE210 GE211⟩⟩
 case round =>
  clear H';obtain ⟨x8_1, x212000_1, x212001_1, x212002_1, rfl, HA, HK1, BK210, BK211, HB⟩ := hrel;cases gk with
  | zero => exact absurd HA.out (by simp [tollgateref10_Find.l0])
  | succ k1 =>
   have H := HA.out;clear HA;simp only [tollgateref10_Find.l0] at H;by_cases c6 : x8_1 ≥ 0;rotate_left
   ·rw [zn c6] at H;have c6b0 : decide (0 ≤ x8_1) = false := zf c6;clear c6;simp only [Option.some.injEq, Prod.mk.injEq] at H;obtain ⟨rfl, rfl, rfl, rfl⟩ := H;have hnb40 := NB211_210.out;have hnc40 := NB210_211.out;obtain ⟨hcz41_0, hcz41_1, hcz41_2, hfz41_0, hfz41_1, hfz41_2⟩ := zC3 BK211;go_wp2;refine bodyPost_ret (results_ct rfl _ _ gb211 64 #[.string (⟨#[]⟩ : ByteArray), .string (⟨#[]⟩ : ByteArray), .string (⟨#[]⟩ : ByteArray)] (0, 0) _ rfl (zF BK211) Tryz.underlying64 rfl zQ) rfl ?_;exact ⟨zE, zB2 HB GE210 GE211⟩
   rw [zp c6] at H;have c6b0 : decide (0 ≤ x8_1) = true := zt c6;clear c6;have H' := zN H;clear H;go_wp2;go_loopg [9] k1 (fun kq v9 w' => ∃ (x9_2 : Int) (x212000_2 : ByteArray) (x212001_2 : ByteArray) (x212002_2 : ByteArray), v9 = .int .i64 x9_2 ∧ Aside0 (tollgateref10_Find.l1 kq a1 a2 x8_1 x9_2 a0_0 l0_1 l0_2 = some (r1, r2, r3, r4)) ∧ Aside0 (kq ≤ k1) ∧ Aside0 (w'.heap[gb210]? = some (.cells #[.int .i64 a0_0, (.slice A0_1 l0_1.length c0_1), (.slice A0_2 l0_2.length c0_2)] 28 (0, 0))) ∧ Aside0 (w'.heap[gb211]? = some (.cells #[.string x212000_2, .string x212001_2, .string x212002_2] 64 (0, 0))) ∧ Aside0 (Below w.heap.size w w'))
   case atStart => exact ⟨(0), (x212000_1), (x212001_1), (x212002_1), zI, H', ⟨zh _⟩, ⟨zK BK210⟩, ⟨zK BK211⟩, ⟨zB2 HB GE210 GE211⟩⟩
   case round =>
    clear H'
    try clear c6
    try clear c6b0
    obtain ⟨x9_2, x212000_2, x212001_2, x212002_2, rfl, HA, HK2, BK210, BK211, HB⟩ := hrel;cases gk with
    | zero => exact absurd HA.out (by simp [tollgateref10_Find.l1])
    | succ k2 =>
     have H := HA.out;clear HA;simp only [tollgateref10_Find.l1] at H;by_cases c7 : x9_2 < (l0_1.length : Int);rotate_left
     ·rw [zn c7] at H;have c7b0 := zf c7;clear c7;have H' := zN H;clear H;have hnb38 := NB210_211.out;have hnc38 := NB211_210.out;obtain ⟨hcz39_0, hcz39_1, hcz39_2, hfz39_0, hfz39_1, hfz39_2⟩ := zC3 BK210;go_wp2;go_roundg k2
      case measure => have := HK1.out; have := HK2.out; omega
      case rel => exact ⟨(wrap64 (x8_1 - 1)), (x212000_2), (x212001_2), (x212002_2), zI, H', ⟨by have := HK1.out; have := HK2.out; omega⟩, ⟨zK BK210⟩, ⟨zK BK211⟩, ⟨zB2 HB GE210 GE211⟩⟩
     rw [zp c7] at H;have c7b0 := zt c7;clear c7;by_cases c8 : 0 ≤ x9_2;rotate_left
     ·rw [zn c8] at H;exact absurd H (by simp)
     rw [zp c8] at H;have c8b0 := zt c8;clear c8;by_cases c9 : ((rd_T64 l0_1 x9_2).f0).toList = a1.toList;rotate_left
     ·rw [zn c9] at H;have c9b0 := zb.mpr c9;have c9b1 := bne_iff_ne.mpr c9;have H' := zN H;clear H;have hnb32 := NB210_211.out;have hnc32 := NB211_210.out;obtain ⟨hcz33_0, hcz33_1, hcz33_2, hfz33_0, hfz33_1, hfz33_2⟩ := zC3 BK210;have p212 : 0 ≤ (x9_2 : Int) := zd zS;have q212 : x9_2 < (l0_1.length : Int) := zd zS;obtain ⟨ad212, e212, hx212_0, hx212_1, hx212_2⟩ := at_T64 HR0_1.out x9_2 p212 q212;cases e212;replace hx212_0 := (HB.out.cell (zw w _ hx212_0)).trans hx212_0;replace hx212_1 := (HB.out.cell (zw w _ hx212_1)).trans hx212_1;replace hx212_2 := (HB.out.cell (zw w _ hx212_2)).trans hx212_2;replace p212 := zu p212;replace q212 := zu q212;go_wp2_with (first | ((with_reducible refine gate_dst (N := 10) rfl ?_); (try (refine gate_guard (by rfl) ?_; dsimp only)); refine zX #[.string (⟨#[]⟩ : ByteArray), .string (⟨#[]⟩ : ByteArray), .string (⟨#[]⟩ : ByteArray)] 64 rfl ?_; intro gb213 hg w34 hbox hb; have BK213 := zN hbox; have GW213 := zY w (zB2 HB GE210 GE211) hg; have GE213 := zY w (zB2 HB GE210 GE211) hg; replace HB := zk2 HB GE210 GE211 hb; have NB210_213 := zl BK210 hg; have NB213_210 := zl' BK210 hg; replace BK210 := zj BK210 hb; have NB211_213 := zl BK211 hg; have NB213_211 := zl' BK211 hg; replace BK211 := zj BK211 hb; clear hb hbox hg; have hnb35 := NB213_210.out; have hnc35 := NB210_213.out; have hnb36 := NB213_211.out; have hnc36 := NB211_213.out; obtain ⟨hcz37_0, hcz37_1, hcz37_2, hfz37_0, hfz37_1, hfz37_2⟩ := zC3 BK213));go_roundg k2
      case measure => have := HK1.out; have := HK2.out; omega
      case rel => exact ⟨(wrap64 (x9_2 + 1)), (x212000_2), (x212001_2), (x212002_2), zI, H', ⟨by have := HK1.out; have := HK2.out; omega⟩, ⟨zF1 BK210 NB210_213⟩, ⟨zF1 BK211 NB211_213⟩, ⟨zB3 HB GE210 GE211 GE213⟩⟩
     rw [zp c9] at H;have c9b0 := beq_iff_eq.mpr c9;have c9b1 := zc.mpr c9;clear c9;by_cases c10 : (((rd_T64 l0_1 x9_2).f1).size : Int) = x8_1;rotate_left
     ·rw [zn c10] at H;have c10b0 := zb.mpr c10;have c10b1 := bne_iff_ne.mpr c10;have H' := zN H;clear H;have hnb26 := NB210_211.out;have hnc26 := NB211_210.out;obtain ⟨hcz27_0, hcz27_1, hcz27_2, hfz27_0, hfz27_1, hfz27_2⟩ := zC3 BK210;have p212 : 0 ≤ (x9_2 : Int) := zd zS;have q212 : x9_2 < (l0_1.length : Int) := zd zS;obtain ⟨ad212, e212, hx212_0, hx212_1, hx212_2⟩ := at_T64 HR0_1.out x9_2 p212 q212;cases e212;replace hx212_0 := (HB.out.cell (zw w _ hx212_0)).trans hx212_0;replace hx212_1 := (HB.out.cell (zw w _ hx212_1)).trans hx212_1;replace hx212_2 := (HB.out.cell (zw w _ hx212_2)).trans hx212_2;replace p212 := zu p212;replace q212 := zu q212;go_wp2_with (first | ((with_reducible refine gate_dst (N := 10) rfl ?_); (try (refine gate_guard (by rfl) ?_; dsimp only)); refine zX #[.string (⟨#[]⟩ : ByteArray), .string (⟨#[]⟩ : ByteArray), .string (⟨#[]⟩ : ByteArray)] 64 rfl ?_; intro gb213 hg w28 hbox hb; have BK213 := zN hbox; have GW213 := zY w (zB2 HB GE210 GE211) hg; have GE213 := zY w (zB2 HB GE210 GE211) hg; replace HB := zk2 HB GE210 GE211 hb; have NB210_213 := zl BK210 hg; have NB213_210 := zl' BK210 hg; replace BK210 := zj BK210 hb; have NB211_213 := zl BK211 hg; have NB213_211 := zl' BK211 hg; replace BK211 := zj BK211 hb; clear hb hbox hg; have hnb29 := NB213_210.out; have hnc29 := NB210_213.out; have hnb30 := NB213_211.out; have hnc30 := NB211_213.out; obtain ⟨hcz31_0, hcz31_1, hcz31_2, hfz31_0, hfz31_1, hfz31_2⟩ := zC3 BK213));go_roundg k2
      case measure => have := HK1.out; have := HK2.out; omega
      case rel => exact ⟨(wrap64 (x9_2 + 1)), (x212000_2), (x212001_2), (x212002_2), zI, H', ⟨by have := HK1.out; have := HK2.out; omega⟩, ⟨zF1 BK210 NB210_213⟩, ⟨zF1 BK211 NB211_213⟩, ⟨zB3 HB GE210 GE211 GE213⟩⟩
     rw [zp c10] at H;have c10b0 := beq_iff_eq.mpr c10;have c10b1 := zc.mpr c10;clear c10;obtain ⟨t214, A11, H⟩ := zA H;(try dsimp only at H);by_cases c12 : t214 = true
     ·subst c12;have H1 := H; rw [zp rfl] at H1;clear H;have H := H1;clear H1;simp only [Option.some.injEq, Prod.mk.injEq] at H;obtain ⟨rfl, rfl, rfl, rfl⟩ := H;have hnb13 := NB210_211.out;have hnc13 := NB211_210.out;obtain ⟨hcz14_0, hcz14_1, hcz14_2, hfz14_0, hfz14_1, hfz14_2⟩ := zC3 BK210;have p212 : 0 ≤ (x9_2 : Int) := zd zS;have q212 : x9_2 < (l0_1.length : Int) := zd zS;obtain ⟨ad212, e212, hx212_0, hx212_1, hx212_2⟩ := at_T64 HR0_1.out x9_2 p212 q212;cases e212;replace hx212_0 := (HB.out.cell (zw w _ hx212_0)).trans hx212_0;replace hx212_1 := (HB.out.cell (zw w _ hx212_1)).trans hx212_1;replace hx212_2 := (HB.out.cell (zw w _ hx212_2)).trans hx212_2;replace p212 := zu p212;replace q212 := zu q212;go_wp2_with (first | ((with_reducible refine gate_dst (N := 10) rfl ?_); (try (refine gate_guard (by rfl) ?_; dsimp only)); refine zX #[.string (⟨#[]⟩ : ByteArray), .string (⟨#[]⟩ : ByteArray), .string (⟨#[]⟩ : ByteArray)] 64 rfl ?_; intro gb213 hg w15 hbox hb; have BK213 := zN hbox; have GW213 := zY w (zB2 HB GE210 GE211) hg; have GE213 := zY w (zB2 HB GE210 GE211) hg; replace HB := zk2 HB GE210 GE211 hb; have NB210_213 := zl BK210 hg; have NB213_210 := zl' BK210 hg; replace BK210 := zj BK210 hb; have NB211_213 := zl BK211 hg; have NB213_211 := zl' BK211 hg; replace BK211 := zj BK211 hb; clear hb hbox hg; have hnb16 := NB213_210.out; have hnc16 := NB210_213.out; have hnb17 := NB213_211.out; have hnc17 := NB211_213.out; obtain ⟨hcz18_0, hcz18_1, hcz18_2, hfz18_0, hfz18_1, hfz18_2⟩ := zC3 BK213) | (go_at_call 38; (with_reducible refine (tollgateref10_Fits.calls k2 ((rd_T64 l0_1 x9_2).f1) a2 true _ A11.out).mono ?_); rintro e w' ⟨rfl, ⟨nd, rfl⟩⟩; obtain ⟨hcz19_0, hcz19_1, hcz19_2, hfz19_0, hfz19_1, hfz19_2⟩ := zC3 BK211));refine bodyPost_ret (results_ct rfl _ _ gb211 64 #[.string ((rd_T64 l0_1 x9_2).f0), .string ((rd_T64 l0_1 x9_2).f1), .string ((rd_T64 l0_1 x9_2).f2)] (0, 0) _ rfl (by (with_reducible repeat (first | refine blk_drewN ?_ _ | refine blk_drew ?_ | refine blk_alloc ?_ _)); refine blk_put (cs := #[.string ((rd_T64 l0_1 x9_2).f0), .string ((rd_T64 l0_1 x9_2).f1), .string x212002_2]) ?_ 2 _ rfl; (with_reducible repeat (first | refine blk_drewN ?_ _ | refine blk_drew ?_ | refine blk_alloc ?_ _)); refine blk_put (cs := #[.string ((rd_T64 l0_1 x9_2).f0), .string x212001_2, .string x212002_2]) ?_ 1 _ rfl; (with_reducible repeat (first | refine blk_drewN ?_ _ | refine blk_drew ?_ | refine blk_alloc ?_ _)); refine blk_put (cs := #[.string x212000_2, .string x212001_2, .string x212002_2]) ?_ 0 _ rfl; (with_reducible repeat (first | refine blk_drewN ?_ _ | refine blk_drew ?_ | refine blk_alloc ?_ _)); refine blk_far ?_ NB211_213.out _; (with_reducible repeat (first | refine blk_drewN ?_ _ | refine blk_drew ?_ | refine blk_alloc ?_ _)); refine blk_far ?_ NB211_213.out _; (with_reducible repeat (first | refine blk_drewN ?_ _ | refine blk_drew ?_ | refine blk_alloc ?_ _)); refine blk_far ?_ NB211_213.out _; (with_reducible repeat (first | refine blk_drewN ?_ _ | refine blk_drew ?_ | refine blk_alloc ?_ _)); exact BK211.out) Tryz.underlying64 rfl zQ) rfl ?_
      exact ⟨zE, zB3 HB GE210 GE211 GE213⟩
     replace c12 := zq.mpr c12;subst c12;have H1 := H; rw [zn (show ¬ (false = true) by decide)] at H1;clear H;have H := H1;clear H1;have H' := zN H;clear H;have hnb20 := NB210_211.out;have hnc20 := NB211_210.out;obtain ⟨hcz21_0, hcz21_1, hcz21_2, hfz21_0, hfz21_1, hfz21_2⟩ := zC3 BK210;have p212 : 0 ≤ (x9_2 : Int) := zd zS;have q212 : x9_2 < (l0_1.length : Int) := zd zS;obtain ⟨ad212, e212, hx212_0, hx212_1, hx212_2⟩ := at_T64 HR0_1.out x9_2 p212 q212;cases e212;replace hx212_0 := (HB.out.cell (zw w _ hx212_0)).trans hx212_0;replace hx212_1 := (HB.out.cell (zw w _ hx212_1)).trans hx212_1;replace hx212_2 := (HB.out.cell (zw w _ hx212_2)).trans hx212_2;replace p212 := zu p212;replace q212 := zu q212;go_wp2_with (first | ((with_reducible refine gate_dst (N := 10) rfl ?_); (try (refine gate_guard (by rfl) ?_; dsimp only)); refine zX #[.string (⟨#[]⟩ : ByteArray), .string (⟨#[]⟩ : ByteArray), .string (⟨#[]⟩ : ByteArray)] 64 rfl ?_; intro gb213 hg w22 hbox hb; have BK213 := zN hbox; have GW213 := zY w (zB2 HB GE210 GE211) hg; have GE213 := zY w (zB2 HB GE210 GE211) hg; replace HB := zk2 HB GE210 GE211 hb; have NB210_213 := zl BK210 hg; have NB213_210 := zl' BK210 hg; replace BK210 := zj BK210 hb; have NB211_213 := zl BK211 hg; have NB213_211 := zl' BK211 hg; replace BK211 := zj BK211 hb; clear hb hbox hg; have hnb23 := NB213_210.out; have hnc23 := NB210_213.out; have hnb24 := NB213_211.out; have hnc24 := NB211_213.out; obtain ⟨hcz25_0, hcz25_1, hcz25_2, hfz25_0, hfz25_1, hfz25_2⟩ := zC3 BK213) | (go_at_call 38; (with_reducible refine (tollgateref10_Fits.calls k2 ((rd_T64 l0_1 x9_2).f1) a2 false _ A11.out).mono ?_); rintro e w' ⟨rfl, ⟨nd, rfl⟩⟩));go_roundg k2
     case measure => have := HK1.out; have := HK2.out; omega
     case rel => exact ⟨(wrap64 (x9_2 + 1)), (x212000_2), (x212001_2), (x212002_2), zI, H', ⟨by have := HK1.out; have := HK2.out; omega⟩, ⟨zF1 BK210 NB210_213⟩, ⟨zF1 BK211 NB211_213⟩, ⟨zB3 HB GE210 GE211 GE213⟩⟩

-- NOT PRINTED: function 41 (math_Float64bits)

def tollgateref08_Weight.f (a0 : Nat) : Option (Bool) := some (decide ((a0 : Int) < 9218868437227405312))
set_option maxHeartbeats 8000000 in
set_option maxRecDepth 100000 in
theorem tollgateref08_Weight.calls (a0 : Nat) (r : Bool) (w : World) (h : tollgateref08_Weight.f a0 = some r) :
    Calls Tryz.prog 59 #[.float .f64 a0] w fun e w' => e = .returned (.bool r) ∧ Drawn0 w w' := by
  have H : (some (decide ((a0 : Int) < 9218868437227405312))) = some r := h;clear h;obtain rfl := zo H;go_enter Tryz.func59, Tryz.ntmps59;go_wp2;go_ret;exact ⟨zI, zD⟩

def tollgateref10_counts.f (a0 : Nat) : Option (Nat) := (tollgateref08_Weight.f a0).bind fun t215 => (if t215 = true then (some a0) else (some 0))
set_option maxHeartbeats 8000000 in
set_option maxRecDepth 100000 in
theorem tollgateref10_counts.calls (a0 : Nat) (r : Nat) (w : World) (h : tollgateref10_counts.f a0 = some r) :
    Calls Tryz.prog 40 #[.float .f64 a0] w fun e w' => e = .returned (.float .f64 r) ∧ Drawn0 w w' := by
  have H : ((tollgateref08_Weight.f a0).bind fun t215 => (if t215 = true then (some a0) else (some 0))) = some r := h;clear h;replace H := Option.bind_eq_some_iff.mp H;obtain ⟨t215, A20, H⟩ := H;replace H : (if t215 = true then (some a0) else (some 0)) = some r := H;have A2 := zN A20;clear A20;by_cases c3 : t215 = true
  · subst c3;have H1 : (some a0) = some r := by rw [zp rfl] at H; exact H
    clear H;have H := H1;clear H1;obtain rfl := zo H;go_enter Tryz.func40, Tryz.ntmps40;go_wp2_with (first | ((with_reducible refine gate_callee (f := 59) rfl ?_); refine zg (some 4) Tryz.func59 #[.float .f64 a0] ?_; (with_reducible refine (tollgateref08_Weight.calls a0 true _ A2.out).mono ?_); rintro e w' ⟨rfl, ⟨nd, rfl⟩⟩; refine ⟨_, rfl, ?_⟩));go_ret;exact ⟨zI, zD⟩
  replace c3 := zq.mpr c3;subst c3;have H1 : (some 0) = some r := by rw [zn (show ¬ (false = true) by decide)] at H; exact H
  clear H;have H := H1;clear H1;obtain rfl := zo H;go_enter Tryz.func40, Tryz.ntmps40;go_wp2_with (first | ((with_reducible refine gate_callee (f := 59) rfl ?_); refine zg (some 4) Tryz.func59 #[.float .f64 a0] ?_; (with_reducible refine (tollgateref08_Weight.calls a0 false _ A2.out).mono ?_); rintro e w' ⟨rfl, ⟨nd, rfl⟩⟩; refine ⟨_, rfl, ?_⟩));go_ret;exact ⟨zI, zD⟩

def tollgateref10_sum.l0 : Nat → List (S41) → Int → Nat → Nat → Int → Option (Nat)
  | 0, _, _, _, _, _ => none
  | k + 1, x0, x1, x2, x7, x8 => if x8 < x1 then (if 0 ≤ x8 then (if x8 < (x0.length : Int) then ((tollgateref10_counts.f ((rd_T41 x0 x8).f1)).bind fun t217 => (if (fmulOk t217 x2) = true then (if (faddOk x7 (fmul t217 x2)) = true then (tollgateref10_sum.l0 k x0 x1 x2 (fadd x7 (fmul t217 x2)) (wrap64 (x8 + 1))) else (none)) else (none))) else (none)) else (none)) else (some x7)
def tollgateref10_sum.f (k : Nat) (l0 : List (S41)) (a1 : Int) (a2 : Nat) : Option (Nat) := tollgateref10_sum.l0 k l0 a1 a2 0 0
theorem tollgateref10_sum.mono_l : ∀ k, (∀ y0 y1 y2 y3 y4, LeO (tollgateref10_sum.l0 k y0 y1 y2 y3 y4) (tollgateref10_sum.l0 (k + 1) y0 y1 y2 y3 y4))
  | 0 => fun _ _ _ _ _ r h => by simp [tollgateref10_sum.l0] at h
  | k + 1 => by
    have ih0 := tollgateref10_sum.mono_l k;intro y0 y1 y2 y3 y4;unfold tollgateref10_sum.l0
    repeat' with_reducible first | exact ih0 _ _ _ _ _ | exact LeO.refl _ | exact LeO.none _ | refine LeO.ite ?_ ?_ | refine LeO.bind ?_ (fun _ => ?_)
theorem tollgateref10_sum.mono : ∀ a0 a1 a2 k, LeO (tollgateref10_sum.f k a0 a1 a2) (tollgateref10_sum.f (k + 1) a0 a1 a2) := by
  intro a0 a1 a2 k;have ih0 := tollgateref10_sum.mono_l k;unfold tollgateref10_sum.f
  repeat' with_reducible first | exact ih0 _ _ _ _ _ | exact LeO.refl _ | exact LeO.none _ | refine LeO.ite ?_ ?_ | refine LeO.bind ?_ (fun _ => ?_)
set_option maxHeartbeats 8000000 in
set_option maxRecDepth 100000 in
theorem tollgateref10_sum.calls (k : Nat) (A0 : Option Addr) (c0 : Nat) (l0 : List (S41)) (a1 : Int) (a2 : Nat) (r : Nat) (w : World) (hr0 : Kd.C k41 w A0 l0.length l0) (hc0 : l0.length ≤ c0) (h : tollgateref10_sum.f k l0 a1 a2 = some r) :
    Calls Tryz.prog 39 #[.slice A0 l0.length c0, .int .i64 a1, .float .f64 a2] w fun e w' => e = .returned (.float .f64 r) ∧ Drawn0 w w' := by
  have HR0 := zN hr0;have HC0 := zN hc0;clear hr0 hc0;have H : (tollgateref10_sum.l0 k l0 a1 a2 0 0) = some r := h;clear h;have H' := zN H;clear H;go_enter Tryz.func39, Tryz.ntmps39;go_wp2;go_loopg [7, 8] k (fun kq v7 v8 w' => ∃ (x7_1 : Nat) (x8_1 : Int), v7 = .float .f64 x7_1 ∧ v8 = .int .i64 x8_1 ∧ Aside0 (tollgateref10_sum.l0 kq l0 a1 a2 x7_1 x8_1 = some r) ∧ Aside0 (kq ≤ k) ∧ Drawn0 w w')
  case atStart => exact ⟨(0), (0), zI, zI, H', ⟨zh _⟩, zD⟩
  case round =>
    clear H'
    try clear p2
    try clear c3
    obtain ⟨x7_1, x8_1, rfl, rfl, HA, HK1, ⟨m1, rfl⟩⟩ := hrel;cases gk with
    | zero => exact absurd HA.out (by simp [tollgateref10_sum.l0])
    | succ k1 =>
      have H := HA.out;clear HA;simp only [tollgateref10_sum.l0] at H;by_cases c4 : x8_1 < a1;rotate_left
      · rw [zn c4] at H;have c4b0 := zf c4;clear c4;obtain rfl := zo H;go_wp2;go_ret;exact ⟨zI, zD⟩
      rw [zp c4] at H;have c4b0 := zt c4;clear c4;by_cases c5 : 0 ≤ x8_1;rotate_left
      · rw [zn c5] at H;exact absurd H (by simp)
      rw [zp c5] at H;have c5b0 := zt c5;clear c5;by_cases c6 : x8_1 < (l0.length : Int);rotate_left
      · rw [zn c6] at H;exact absurd H (by simp)
      rw [zp c6] at H;have c6b0 := zt c6;clear c6;obtain ⟨t217, A7, H⟩ := zA H;(try dsimp only at H);by_cases c8 : (fmulOk t217 a2) = true;rotate_left
      · rw [zn c8] at H;exact absurd H (by simp)
      rw [zp c8] at H;have c8b0 := zu c8;have c8b1 := zt c8;clear c8;by_cases c9 : (faddOk x7_1 (fmul t217 a2)) = true;rotate_left
      · rw [zn c9] at H;exact absurd H (by simp)
      rw [zp c9] at H;have c9b0 := zu c9;have c9b1 := zt c9;clear c9;have H' := zN H;clear H;have p216 : 0 ≤ (x8_1 : Int) := zd zS;have q216 : x8_1 < (l0.length : Int) := zd zS;obtain ⟨ad216, e216, hx216_0, hx216_1⟩ := at_T41 HR0.out x8_1 p216 q216;cases e216;replace p216 := zu p216;replace q216 := zu q216;go_wp2_with (first | ((with_reducible refine gate_callee (f := 40) rfl ?_); refine zg (some 20) Tryz.func40 #[.float .f64 ((rd_T41 l0 x8_1).f1)] ?_; (with_reducible refine (tollgateref10_counts.calls ((rd_T41 l0 x8_1).f1) t217 _ A7.out).mono ?_); rintro e w' ⟨rfl, ⟨nd, rfl⟩⟩; refine ⟨_, rfl, ?_⟩));go_roundg k1
      case measure => have := HK1.out; omega
      case rel => exact ⟨(fadd x7_1 (fmul t217 a2)), (wrap64 (x8_1 + 1)), zI, zI, H', ⟨by have := HK1.out; omega⟩, zD⟩

def fsubN (a : Nat) : Bool := if fsubOk a a = true then fneq (fsub a a) 0 else true
theorem fneq_nan (s f : Nat) (hs : s < 2) (hf : f < 4503599627370495) : fneq (s * 9223372036854775808 + 9218868437227405312 + 1 + f) 0 = true := by
 have h1 : Ieee.double.signWeight = 9223372036854775808 := rfl;have h2 : Ieee.double.binade = 4503599627370496 := rfl;have h3 : Ieee.double.infRung = 9218868437227405312 := rfl;have hr : ∃ b fr, Ieee.double.read (s * 9223372036854775808 + 9218868437227405312 + 1 + f) = .nan b fr := by
  unfold Ieee.Format.read;simp only [h1, h2, h3];have e2 : (s * 9223372036854775808 + 9218868437227405312 + 1 + f) % 9223372036854775808 = 9218868437227405312 + 1 + f := by omega
  rw [e2, zn zO, zn zO, zn zO];exact ⟨_, _, rfl⟩
 obtain ⟨b, fr, hr⟩ := hr;unfold fneq Ieee.Format.order;rw [hr];rfl
theorem fsub_run {P : Program} (a : Nat) : ∃ (vS : World → Nat) (nS : Nat), (∀ (t : TypeId) (w : World), (binOp .sub t (.float .f64 a) (.float .f64 a)).run P w = .ok (.float .f64 (vS w)) (w.drewN nS)) ∧ ∀ w, fneq (vS w) 0 = fsubN a := by
 by_cases h : fsubOk a a = true
 ·exact ⟨fun _ => fsub a a, 0, fun t w => frun_sub w t a a h, fun w => by unfold fsubN; rw [zp h]⟩
 refine ⟨fun w => (w.tape w.drawn (.nanBits .f64 a a) % 2) * 9223372036854775808 + 9218868437227405312 + 1 + (w.tape w.drawn (.nanBits .f64 a a) / 2) % 4503599627370495, 1, fun t w => ?_, fun w => ?_⟩
 ·have hn : Ieee.double.sub a a = none := by
   unfold fsubOk at h;cases hx : Ieee.double.sub a a
   ·rfl
   rw [hx] at h;exact absurd rfl h
  simp [binOp, Op.floatArith, FloatKind.format, hn, Question.forced, Question.cut];rfl
 unfold fsubN;rw [zn h];exact fneq_nan _ _ (Nat.mod_lt _ (by decide)) (Nat.mod_lt _ (by decide))
mutual
def tollgateref10_Weigh.j0 : Nat → List (S41) → Nat → Nat → Nat → Option (Int × Bool)
 | 0, _, _, _, _ => none
 | k + 1, x0, x1, x6, x7 => if ((fgtr x7 0) = true) then (tollgateref10_Weigh.l0 k x0 x1 x6 x7 0 0) else (some (0, false))
def tollgateref10_Weigh.l0 : Nat → List (S41) → Nat → Nat → Nat → Int → Int → Option (Int × Bool)
 | 0, _, _, _, _, _, _ => none
 | k + 1, x0, x1, x6, x7, x8, x9 => if x9 < (x0.length : Int) then (if 0 ≤ x9 then ((tollgateref10_counts.f ((rd_T41 x0 x9).f1)).bind fun t221 => (if (fmulOk t221 x6) = true then (if (fgtr (fmul t221 x6) 0) = true then (tollgateref10_Weigh.l0 k x0 x1 x6 x7 x9 (wrap64 (x9 + 1))) else (tollgateref10_Weigh.l0 k x0 x1 x6 x7 x8 (wrap64 (x9 + 1)))) else (none))) else (none)) else (if (fgeq x1 4607182418800017408) = true then (some (x8, true)) else (if (fneq x1 x1) = true then (tollgateref10_Weigh.j2 k x0 x1 x6 x7 x8 true) else (tollgateref10_Weigh.j2 k x0 x1 x6 x7 x8 (flss x1 0))))
def tollgateref10_Weigh.j2 : Nat → List (S41) → Nat → Nat → Nat → Int → Bool → Option (Int × Bool)
 | 0, _, _, _, _, _, _ => none
 | k + 1, x0, x1, x6, x7, x8, x55 => if x55 = true then (tollgateref10_Weigh.j3 k x0 0 x6 x7 x8) else (tollgateref10_Weigh.j3 k x0 x1 x6 x7 x8)
def tollgateref10_Weigh.j3 : Nat → List (S41) → Nat → Nat → Nat → Int → Option (Int × Bool)
 | 0, _, _, _, _, _ => none
 | k + 1, x0, x1, x6, x7, x8 => if (fmulOk x1 x7) = true then (tollgateref10_Weigh.l1 k x0 x6 x8 (fmul x1 x7) 0) else (none)
def tollgateref10_Weigh.l1 : Nat → List (S41) → Nat → Int → Nat → Int → Option (Int × Bool)
 | 0, _, _, _, _, _ => none
 | k + 1, x0, x6, x8, x10, x11 => if x11 < (x0.length : Int) then (if 0 ≤ x11 then ((tollgateref10_counts.f ((rd_T41 x0 x11).f1)).bind fun t223 => (if (fmulOk t223 x6) = true then (if (fgtr (fmul t223 x6) 0) = true then ((tollgateref10_sum.f k x0 (wrap64 (x11 + 1)) x6).bind fun t224 => (if (flss x10 t224) = true then (some (x11, true)) else (tollgateref10_Weigh.l1 k x0 x6 x8 x10 (wrap64 (x11 + 1))))) else (tollgateref10_Weigh.l1 k x0 x6 x8 x10 (wrap64 (x11 + 1)))) else (none))) else (none)) else (some (x8, true))
end
def tollgateref10_Weigh.f (k : Nat) (l0 : List (S41)) (a1 : Nat) : Option (Int × Bool) := (tollgateref10_sum.f k l0 (l0.length : Int) 4607182418800017408).bind fun t218 => (if (fsubN t218) = true then ((tollgateref10_sum.f k l0 (l0.length : Int) 4562146422526312448).bind fun t219 => (tollgateref10_Weigh.j0 k l0 a1 4562146422526312448 t219)) else (tollgateref10_Weigh.j0 k l0 a1 4607182418800017408 t218))
theorem tollgateref10_Weigh.mono_l : ∀ k, (∀ y0 y1 y2 y3, LeO (tollgateref10_Weigh.j0 k y0 y1 y2 y3) (tollgateref10_Weigh.j0 (k + 1) y0 y1 y2 y3)) ∧ (∀ y0 y1 y2 y3 y4 y5, LeO (tollgateref10_Weigh.l0 k y0 y1 y2 y3 y4 y5) (tollgateref10_Weigh.l0 (k + 1) y0 y1 y2 y3 y4 y5)) ∧ (∀ y0 y1 y2 y3 y4 y5, LeO (tollgateref10_Weigh.j2 k y0 y1 y2 y3 y4 y5) (tollgateref10_Weigh.j2 (k + 1) y0 y1 y2 y3 y4 y5)) ∧ (∀ y0 y1 y2 y3 y4, LeO (tollgateref10_Weigh.j3 k y0 y1 y2 y3 y4) (tollgateref10_Weigh.j3 (k + 1) y0 y1 y2 y3 y4)) ∧ (∀ y0 y1 y2 y3 y4, LeO (tollgateref10_Weigh.l1 k y0 y1 y2 y3 y4) (tollgateref10_Weigh.l1 (k + 1) y0 y1 y2 y3 y4))
 | 0 => ⟨fun _ _ _ _ r h => by simp [tollgateref10_Weigh.j0] at h, fun _ _ _ _ _ _ r h => by simp [tollgateref10_Weigh.l0] at h, fun _ _ _ _ _ _ r h => by simp [tollgateref10_Weigh.j2] at h, fun _ _ _ _ _ r h => by simp [tollgateref10_Weigh.j3] at h, fun _ _ _ _ _ r h => by simp [tollgateref10_Weigh.l1] at h⟩
 | k + 1 => by
  obtain ⟨ih0, ih1, ih2, ih3, ih4⟩ := tollgateref10_Weigh.mono_l k;refine ⟨?_, ?_, ?_, ?_, ?_⟩
  ·intro y0 y1 y2 y3;unfold tollgateref10_Weigh.j0
   repeat' with_reducible first | exact ih0 _ _ _ _ | exact ih1 _ _ _ _ _ _ | exact ih2 _ _ _ _ _ _ | exact ih3 _ _ _ _ _ | exact ih4 _ _ _ _ _ | exact tollgateref10_sum.mono _ _ _ _ | exact LeO.refl _ | exact LeO.none _ | refine LeO.ite ?_ ?_ | refine LeO.bind ?_ (fun _ => ?_)
  ·intro y0 y1 y2 y3 y4 y5;unfold tollgateref10_Weigh.l0
   repeat' with_reducible first | exact ih0 _ _ _ _ | exact ih1 _ _ _ _ _ _ | exact ih2 _ _ _ _ _ _ | exact ih3 _ _ _ _ _ | exact ih4 _ _ _ _ _ | exact tollgateref10_sum.mono _ _ _ _ | exact LeO.refl _ | exact LeO.none _ | refine LeO.ite ?_ ?_ | refine LeO.bind ?_ (fun _ => ?_)
  ·intro y0 y1 y2 y3 y4 y5;unfold tollgateref10_Weigh.j2
   repeat' with_reducible first | exact ih0 _ _ _ _ | exact ih1 _ _ _ _ _ _ | exact ih2 _ _ _ _ _ _ | exact ih3 _ _ _ _ _ | exact ih4 _ _ _ _ _ | exact tollgateref10_sum.mono _ _ _ _ | exact LeO.refl _ | exact LeO.none _ | refine LeO.ite ?_ ?_ | refine LeO.bind ?_ (fun _ => ?_)
  ·intro y0 y1 y2 y3 y4;unfold tollgateref10_Weigh.j3
   repeat' with_reducible first | exact ih0 _ _ _ _ | exact ih1 _ _ _ _ _ _ | exact ih2 _ _ _ _ _ _ | exact ih3 _ _ _ _ _ | exact ih4 _ _ _ _ _ | exact tollgateref10_sum.mono _ _ _ _ | exact LeO.refl _ | exact LeO.none _ | refine LeO.ite ?_ ?_ | refine LeO.bind ?_ (fun _ => ?_)
  intro y0 y1 y2 y3 y4;unfold tollgateref10_Weigh.l1
  repeat' with_reducible first | exact ih0 _ _ _ _ | exact ih1 _ _ _ _ _ _ | exact ih2 _ _ _ _ _ _ | exact ih3 _ _ _ _ _ | exact ih4 _ _ _ _ _ | exact tollgateref10_sum.mono _ _ _ _ | exact LeO.refl _ | exact LeO.none _ | refine LeO.ite ?_ ?_ | refine LeO.bind ?_ (fun _ => ?_)
theorem tollgateref10_Weigh.mono : ∀ a0 a1 k, LeO (tollgateref10_Weigh.f k a0 a1) (tollgateref10_Weigh.f (k + 1) a0 a1) := by
 intro a0 a1 k;obtain ⟨ih0, ih1, ih2, ih3, ih4⟩ := tollgateref10_Weigh.mono_l k;unfold tollgateref10_Weigh.f
 repeat' with_reducible first | exact ih0 _ _ _ _ | exact ih1 _ _ _ _ _ _ | exact ih2 _ _ _ _ _ _ | exact ih3 _ _ _ _ _ | exact ih4 _ _ _ _ _ | exact tollgateref10_sum.mono _ _ _ _ | exact LeO.refl _ | exact LeO.none _ | refine LeO.ite ?_ ?_ | refine LeO.bind ?_ (fun _ => ?_)
set_option maxHeartbeats 8000000 in
set_option maxRecDepth 100000 in
theorem tollgateref10_Weigh.calls (k : Nat) (A0 : Option Addr) (c0 : Nat) (l0 : List (S41)) (a1 : Nat) (r1 : Int) (r2 : Bool) (w : World) (hr0 : Kd.C k41 w A0 l0.length l0) (hc0 : l0.length ≤ c0) (h : tollgateref10_Weigh.f k l0 a1 = some (r1, r2)) :
  Calls Tryz.prog 20 #[.slice A0 l0.length c0, .float .f64 a1] w fun e w' => e = .returned (.tuple #[.int .i64 r1, .bool r2]) ∧ Drawn0 w w' := by
 have HR0 := zN hr0;have HC0 := zN hc0;clear hr0 hc0;have H : ((tollgateref10_sum.f k l0 (l0.length : Int) 4607182418800017408).bind fun t218 => (if (fsubN t218) = true then ((tollgateref10_sum.f k l0 (l0.length : Int) 4562146422526312448).bind fun t219 => (tollgateref10_Weigh.j0 k l0 a1 4562146422526312448 t219)) else (tollgateref10_Weigh.j0 k l0 a1 4607182418800017408 t218))) = some (r1, r2) := h;clear h;obtain ⟨t218, A3, H⟩ := zA H;(try dsimp only at H);obtain ⟨vS, nS, hsub, hneq⟩ := fsub_run (P := Tryz.prog) t218
 skip
 have HC5 := zN H;clear H;go_enter Tryz.func20, Tryz.ntmps20;go_upto_if 21 with (first | ((with_reducible refine gate_callee (f := 39) rfl ?_); refine zg (some 17) Tryz.func39 #[.slice A0 l0.length c0, .int .i64 (l0.length : Int), .float .f64 4607182418800017408] ?_; (with_reducible refine (tollgateref10_sum.calls k _ _ l0 (l0.length : Int) 4607182418800017408 t218 _ ?side1 ?side2 A3.out).mono ?_); (case side1 => exact zs HR0.out); (case side2 => exact HC0.out); rintro e w' ⟨rfl, ⟨nd, rfl⟩⟩; refine ⟨_, rfl, ?_⟩))
 (try simp only [Act.put, List.setIfInBounds_toArray, List.set_cons_zero, List.set_cons_succ])
 try clear hsub hneq
 go_cut [6, 7] (fun v6 v7 wc => ∃ (kq : Nat) (x6_4 : Nat) (x7_4 : Nat), v6 = .float .f64 x6_4 ∧ v7 = .float .f64 x7_4 ∧ Aside0 (tollgateref10_Weigh.j0 kq l0 a1 x6_4 x7_4 = some (r1, r2)) ∧ Aside0 (kq ≤ k) ∧ Drawn0 w wc)
 case first =>
  have H := HC5.out;clear HC5;by_cases c6 : (fsubN t218) = true
  ·rw [zp c6] at H;have c6b0 : (fsubN t218) = true := c6;clear c6;(first | rw [c6b0] | (simp only [i64_w, i32_w]; rw [c6b0]) | skip);obtain ⟨t219, A7, H⟩ := zA H;(try dsimp only at H);have H' := zN H;clear H;go_wp2_with (first | ((with_reducible refine gate_callee (f := 39) rfl ?_); refine zg (some 26) Tryz.func39 #[.slice A0 l0.length c0, .int .i64 (l0.length : Int), .float .f64 4562146422526312448] ?_; (with_reducible refine (tollgateref10_sum.calls k _ _ l0 (l0.length : Int) 4562146422526312448 t219 _ ?side1 ?side2 A7.out).mono ?_); (case side1 => exact zs HR0.out); (case side2 => exact HC0.out); rintro e w' ⟨rfl, ⟨nd, rfl⟩⟩; refine ⟨_, rfl, ?_⟩));go_meet
   case rel => exact ⟨_, (4562146422526312448), (t219), zI, zI, H', ⟨by first | omega | exact zh _⟩, zD⟩
  rw [zn c6] at H;have c6b0 : (fsubN t218) = false := by simpa using c6
  clear c6;(first | rw [c6b0] | (simp only [i64_w, i32_w]; rw [c6b0]) | skip);have H' := zN H;clear H;go_wp2;go_meet
  case rel => exact ⟨_, (4607182418800017408), (t218), zI, zI, H', ⟨by first | omega | exact zh _⟩, zD⟩
 case rest =>
  clear HC5;obtain ⟨kq, x6_4, x7_4, rfl, rfl, HA, HJ4, ⟨mc4, rfl⟩⟩ := hcut;cases kq with
  | zero => exact absurd HA.out (by simp [tollgateref10_Weigh.j0])
  | succ kj4 =>
   have H := HA.out;clear HA;simp only [tollgateref10_Weigh.j0] at H;by_cases c8 : ((fgtr x7_4 0) = true);rotate_left
   ·rw [zn c8] at H;have c8b0 : (fgtr x7_4 0) = false := by simpa using c8
    clear c8;simp only [Option.some.injEq, Prod.mk.injEq] at H;obtain ⟨rfl, rfl⟩ := H;go_wp2;go_ret2;exact ⟨zI, zD⟩
   rw [zp c8] at H;have c8b0 : (fgtr x7_4 0) = true := c8;clear c8;have H' := zN H;clear H;go_wp2;go_loopg [8, 9] kj4 (fun kq v8 v9 w' => ∃ (x8_2 : Int) (x9_2 : Int), v8 = .int .i64 x8_2 ∧ v9 = .int .i64 x9_2 ∧ Aside0 (tollgateref10_Weigh.l0 kq l0 a1 x6_4 x7_4 x8_2 x9_2 = some (r1, r2)) ∧ Aside0 (kq ≤ kj4) ∧ Drawn0 w w')
   case atStart => exact ⟨(0), (0), zI, zI, H', ⟨zh _⟩, zD⟩
   case round =>
    clear H'
    try clear c8
    try clear c8b0
    obtain ⟨x8_2, x9_2, rfl, rfl, HA, HK2, ⟨m2, rfl⟩⟩ := hrel;cases gk with
    | zero => exact absurd HA.out (by simp [tollgateref10_Weigh.l0])
    | succ k2 =>
     have H := HA.out;clear HA;simp only [tollgateref10_Weigh.l0] at H;by_cases c9 : x9_2 < (l0.length : Int)
     ·rw [zp c9] at H;have c9b0 := zt c9;clear c9;by_cases c10 : 0 ≤ x9_2;rotate_left
      ·rw [zn c10] at H;exact absurd H (by simp)
      rw [zp c10] at H;have c10b0 := zt c10;clear c10;obtain ⟨t221, A11, H⟩ := zA H;(try dsimp only at H);by_cases c12 : (fmulOk t221 x6_4) = true;rotate_left
      ·rw [zn c12] at H;exact absurd H (by simp)
      rw [zp c12] at H;have c12b0 := zu c12;have c12b1 := zt c12;clear c12;by_cases c13 : (fgtr (fmul t221 x6_4) 0) = true
      ·rw [zp c13] at H;have c13b0 : (fgtr (fmul t221 x6_4) 0) = true := c13;clear c13;have H' := zN H;clear H;have p220 : 0 ≤ (x9_2 : Int) := zd zS;have q220 : x9_2 < (l0.length : Int) := zd zS;obtain ⟨ad220, e220, hx220_0, hx220_1⟩ := at_T41 HR0.out x9_2 p220 q220;cases e220;replace p220 := zu p220;replace q220 := zu q220;go_wp2_with (first | ((with_reducible refine gate_callee (f := 40) rfl ?_); refine zg (some 41) Tryz.func40 #[.float .f64 ((rd_T41 l0 x9_2).f1)] ?_; (with_reducible refine (tollgateref10_counts.calls ((rd_T41 l0 x9_2).f1) t221 _ A11.out).mono ?_); rintro e w' ⟨rfl, ⟨nd, rfl⟩⟩; refine ⟨_, rfl, ?_⟩));go_roundg k2
       case measure => have := HJ4.out; have := HK2.out; omega
       case rel => exact ⟨(x9_2), (wrap64 (x9_2 + 1)), zI, zI, H', ⟨by have := HJ4.out; have := HK2.out; omega⟩, zD⟩
      rw [zn c13] at H;have c13b0 : (fgtr (fmul t221 x6_4) 0) = false := by simpa using c13
      clear c13;have H' := zN H;clear H;have p220 : 0 ≤ (x9_2 : Int) := zd zS;have q220 : x9_2 < (l0.length : Int) := zd zS;obtain ⟨ad220, e220, hx220_0, hx220_1⟩ := at_T41 HR0.out x9_2 p220 q220;cases e220;replace p220 := zu p220;replace q220 := zu q220;go_wp2_with (first | ((with_reducible refine gate_callee (f := 40) rfl ?_); refine zg (some 41) Tryz.func40 #[.float .f64 ((rd_T41 l0 x9_2).f1)] ?_; (with_reducible refine (tollgateref10_counts.calls ((rd_T41 l0 x9_2).f1) t221 _ A11.out).mono ?_); rintro e w' ⟨rfl, ⟨nd, rfl⟩⟩; refine ⟨_, rfl, ?_⟩));go_roundg k2
      case measure => have := HJ4.out; have := HK2.out; omega
      case rel => exact ⟨(x8_2), (wrap64 (x9_2 + 1)), zI, zI, H', ⟨by have := HJ4.out; have := HK2.out; omega⟩, zD⟩
     rw [zn c9] at H;have c9b0 := zf c9;clear c9;by_cases c14 : (fgeq a1 4607182418800017408) = true
     ·rw [zp c14] at H;have c14b0 : (fgeq a1 4607182418800017408) = true := c14;clear c14;simp only [Option.some.injEq, Prod.mk.injEq] at H;obtain ⟨rfl, rfl⟩ := H;go_wp2;go_ret2;exact ⟨zI, zD⟩
     rw [zn c14] at H;have c14b0 : (fgeq a1 4607182418800017408) = false := by simpa using c14
     clear c14;have HC15 := zN H;clear H;go_upto_region 16 with (fail)
     go_cut [55] (fun v55 wc => ∃ (kq : Nat) (x55_14 : Bool), v55 = .bool x55_14 ∧ Aside0 (tollgateref10_Weigh.j2 kq l0 a1 x6_4 x7_4 x8_2 x55_14 = some (r1, r2)) ∧ Aside0 (kq ≤ k2) ∧ Drawn0 w wc)
     case first =>
      have H := HC15.out;clear HC15;by_cases c16 : (fneq a1 a1) = true
      ·rw [zp c16] at H;have c16b0 : (fneq a1 a1) = true := c16;clear c16;(first | rw [c16b0] | (simp only [i64_w, i32_w]; rw [c16b0]) | skip);have H' := zN H;clear H;go_wp2;go_meet
       case rel => exact ⟨_, (true), zI, H', ⟨by have := HJ4.out; have := HK2.out; first | omega | exact zh _⟩, zD⟩
      rw [zn c16] at H;have c16b0 : (fneq a1 a1) = false := by simpa using c16
      clear c16;(first | rw [c16b0] | (simp only [i64_w, i32_w]; rw [c16b0]) | skip);have H' := zN H;clear H;go_wp2;go_meet
      case rel => exact ⟨_, ((flss a1 0)), zI, H', ⟨by have := HJ4.out; have := HK2.out; first | omega | exact zh _⟩, zD⟩
     case rest =>
      clear HC15
      try clear c8
      try clear c8b0
      try clear c9
      try clear c9b0
      try clear c14
      try clear c14b0
      obtain ⟨kq, x55_14, rfl, HA, HJ14, ⟨mc14, rfl⟩⟩ := hcut;cases kq with
      | zero => exact absurd HA.out (by simp [tollgateref10_Weigh.j2])
      | succ kj14 =>
       have H := HA.out;clear HA;simp only [tollgateref10_Weigh.j2] at H;have HC17 := zN H;clear H;go_upto_if 55 with (fail)
       go_cut [1] (fun v1 wc => ∃ (kq : Nat) (x1_16 : Nat), v1 = .float .f64 x1_16 ∧ Aside0 (tollgateref10_Weigh.j3 kq l0 x1_16 x6_4 x7_4 x8_2 = some (r1, r2)) ∧ Aside0 (kq ≤ kj14) ∧ Drawn0 w wc)
       case first =>
        have H := HC17.out;clear HC17;by_cases c18 : x55_14 = true
        ·subst c18;have H1 := H; rw [zp rfl] at H1;clear H;have H := H1;clear H1;have H' := zN H;clear H;go_wp2;go_meet
         case rel => exact ⟨_, (0), zI, H', ⟨by have := HJ4.out; have := HK2.out; have := HJ14.out; first | omega | exact zh _⟩, zD⟩
        replace c18 := zq.mpr c18;subst c18;have H1 := H; rw [zn (show ¬ (false = true) by decide)] at H1;clear H;have H := H1;clear H1;have H' := zN H;clear H;go_wp2;go_meet
        case rel => exact ⟨_, (a1), zI, H', ⟨by have := HJ4.out; have := HK2.out; have := HJ14.out; first | omega | exact zh _⟩, zD⟩
       case rest =>
        clear HC17
        try clear c8
        try clear c8b0
        try clear c9
        try clear c9b0
        try clear c14
        try clear c14b0
        obtain ⟨kq, x1_16, rfl, HA, HJ16, ⟨mc16, rfl⟩⟩ := hcut;cases kq with
        | zero => exact absurd HA.out (by simp [tollgateref10_Weigh.j3])
        | succ kj16 =>
         have H := HA.out;clear HA;simp only [tollgateref10_Weigh.j3] at H;by_cases c19 : (fmulOk x1_16 x7_4) = true;rotate_left
         ·rw [zn c19] at H;exact absurd H (by simp)
         rw [zp c19] at H;have c19b0 := zu c19;have c19b1 := zt c19;clear c19;have H' := zN H;clear H;go_wp2;go_loopg [11] kj16 (fun kq v11 w' => ∃ (x11_5 : Int), v11 = .int .i64 x11_5 ∧ Aside0 (tollgateref10_Weigh.l1 kq l0 x6_4 x8_2 (fmul x1_16 x7_4) x11_5 = some (r1, r2)) ∧ Aside0 (kq ≤ kj16) ∧ Drawn0 w w')
         case atStart => exact ⟨(0), zI, H', ⟨zh _⟩, zD⟩
         case round =>
          clear H'
          try clear c8
          try clear c8b0
          try clear c9
          try clear c9b0
          try clear c14
          try clear c14b0
          try clear c19
          try clear c19b0
          try clear c19b1
          obtain ⟨x11_5, rfl, HA, HK5, ⟨m5, rfl⟩⟩ := hrel;cases gk with
          | zero => exact absurd HA.out (by simp [tollgateref10_Weigh.l1])
          | succ k5 =>
           have H := HA.out;clear HA;simp only [tollgateref10_Weigh.l1] at H;by_cases c20 : x11_5 < (l0.length : Int);rotate_left
           ·rw [zn c20] at H;have c20b0 := zf c20;clear c20;simp only [Option.some.injEq, Prod.mk.injEq] at H;obtain ⟨rfl, rfl⟩ := H;go_wp2;go_ret2;exact ⟨zI, zD⟩
           rw [zp c20] at H;have c20b0 := zt c20;clear c20;by_cases c21 : 0 ≤ x11_5;rotate_left
           ·rw [zn c21] at H;exact absurd H (by simp)
           rw [zp c21] at H;have c21b0 := zt c21;clear c21;obtain ⟨t223, A22, H⟩ := zA H;(try dsimp only at H);by_cases c23 : (fmulOk t223 x6_4) = true;rotate_left
           ·rw [zn c23] at H;exact absurd H (by simp)
           rw [zp c23] at H;have c23b0 := zu c23;have c23b1 := zt c23;clear c23;by_cases c24 : (fgtr (fmul t223 x6_4) 0) = true;rotate_left
           ·rw [zn c24] at H;have c24b0 : (fgtr (fmul t223 x6_4) 0) = false := by simpa using c24
            clear c24;have H' := zN H;clear H;have p222 : 0 ≤ (x11_5 : Int) := zd zS;have q222 : x11_5 < (l0.length : Int) := zd zS;obtain ⟨ad222, e222, hx222_0, hx222_1⟩ := at_T41 HR0.out x11_5 p222 q222;cases e222;replace p222 := zu p222;replace q222 := zu q222;go_wp2_with (first | ((with_reducible refine gate_callee (f := 40) rfl ?_); refine zg (some 70) Tryz.func40 #[.float .f64 ((rd_T41 l0 x11_5).f1)] ?_; (with_reducible refine (tollgateref10_counts.calls ((rd_T41 l0 x11_5).f1) t223 _ A22.out).mono ?_); rintro e w' ⟨rfl, ⟨nd, rfl⟩⟩; refine ⟨_, rfl, ?_⟩));go_roundg k5
            case measure => have := HJ4.out; have := HK2.out; have := HJ14.out; have := HJ16.out; have := HK5.out; omega
            case rel => exact ⟨(wrap64 (x11_5 + 1)), zI, H', ⟨by have := HJ4.out; have := HK2.out; have := HJ14.out; have := HJ16.out; have := HK5.out; omega⟩, zD⟩
           rw [zp c24] at H;have c24b0 : (fgtr (fmul t223 x6_4) 0) = true := c24;clear c24;obtain ⟨t224, A25, H⟩ := zA H;(try dsimp only at H);by_cases c26 : (flss (fmul x1_16 x7_4) t224) = true
           ·rw [zp c26] at H;have c26b0 : (flss (fmul x1_16 x7_4) t224) = true := c26;clear c26;simp only [Option.some.injEq, Prod.mk.injEq] at H;obtain ⟨rfl, rfl⟩ := H;have p222 : 0 ≤ (x11_5 : Int) := zd zS;have q222 : x11_5 < (l0.length : Int) := zd zS;obtain ⟨ad222, e222, hx222_0, hx222_1⟩ := at_T41 HR0.out x11_5 p222 q222;cases e222;replace p222 := zu p222;replace q222 := zu q222;go_wp2_with (first | ((with_reducible refine gate_callee (f := 40) rfl ?_); refine zg (some 70) Tryz.func40 #[.float .f64 ((rd_T41 l0 x11_5).f1)] ?_; (with_reducible refine (tollgateref10_counts.calls ((rd_T41 l0 x11_5).f1) t223 _ A22.out).mono ?_); rintro e w' ⟨rfl, ⟨nd, rfl⟩⟩; refine ⟨_, rfl, ?_⟩) | (go_at_call 39; (with_reducible refine (tollgateref10_sum.calls k5 _ _ l0 (wrap64 (x11_5 + 1)) x6_4 t224 _ ?side1 ?side2 A25.out).mono ?_); (case side1 => exact zs HR0.out); (case side2 => exact HC0.out); rintro e w' ⟨rfl, ⟨nd, rfl⟩⟩));go_ret2;exact ⟨zI, zD⟩
           rw [zn c26] at H;have c26b0 : (flss (fmul x1_16 x7_4) t224) = false := by simpa using c26
           clear c26;have H' := zN H;clear H;have p222 : 0 ≤ (x11_5 : Int) := zd zS;have q222 : x11_5 < (l0.length : Int) := zd zS;obtain ⟨ad222, e222, hx222_0, hx222_1⟩ := at_T41 HR0.out x11_5 p222 q222;cases e222;replace p222 := zu p222;replace q222 := zu q222;go_wp2_with (first | ((with_reducible refine gate_callee (f := 40) rfl ?_); refine zg (some 70) Tryz.func40 #[.float .f64 ((rd_T41 l0 x11_5).f1)] ?_; (with_reducible refine (tollgateref10_counts.calls ((rd_T41 l0 x11_5).f1) t223 _ A22.out).mono ?_); rintro e w' ⟨rfl, ⟨nd, rfl⟩⟩; refine ⟨_, rfl, ?_⟩) | (go_at_call 39; (with_reducible refine (tollgateref10_sum.calls k5 _ _ l0 (wrap64 (x11_5 + 1)) x6_4 t224 _ ?side1 ?side2 A25.out).mono ?_); (case side1 => exact zs HR0.out); (case side2 => exact HC0.out); rintro e w' ⟨rfl, ⟨nd, rfl⟩⟩));go_roundg k5
           case measure => have := HJ4.out; have := HK2.out; have := HJ14.out; have := HJ16.out; have := HK5.out; omega
           case rel => exact ⟨(wrap64 (x11_5 + 1)), zI, H', ⟨by have := HJ4.out; have := HK2.out; have := HJ14.out; have := HJ16.out; have := HK5.out; omega⟩, zD⟩

end Go.Proofs.YtahaihnlkohhgaaGreatDoor.S
end
