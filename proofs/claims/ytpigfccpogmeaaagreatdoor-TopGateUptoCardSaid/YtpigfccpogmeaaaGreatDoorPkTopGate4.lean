/- Walks and plain facts, joined out of several texts: what the row of TopGate leads to. -/
import Derived.Test.YtpigfccpogmeaaaGreatDoorPkTopGate3
section
namespace Go.Proofs.YtpigfccpogmeaaaGreatDoor.S
open Go.RowKit Go.Proofs.YtpigfccpogmeaaaGreatDoorW.PrintWords Go.Proofs.YtpigfccpogmeaaaGreatDoorW.PrintLast Go.Proofs.YtpigfccpogmeaaaGreatDoorW.PrintMore
attribute [local go_sem] max2_int min2_int max_two min_two max_three min_three max_four min_four
attribute [local go_sem] fbin_eql fbin_neq fbin_lss fbin_leq fbin_gtr fbin_geq frun_add frun_sub frun_mul frun_quo frun_store fun_neg fcv_int fcv_same fb88 fb89
set_option linter.unusedVariables false
set_option linter.unusedSimpArgs false
def plane_Find.l0 : Nat → ByteArray → ByteArray → Bool → List (S54) → Int → Int → ByteArray → ByteArray → ByteArray → Option (ByteArray × ByteArray × ByteArray × Bool)
 | 0, _, _, _, _, _, _, _, _, _ => none
 | k + 1, x1, x2, x9, x14, x15, x16, x341000, x341001, x341002 => if x16 < x15 then (if 0 ≤ x16 then (if x16 < (x14.length : Int) then (if ((rd_T54 x14 x16).f0).toList = x1.toList then ((plane_fits.f ((rd_T54 x14 x16).f1) x2).bind fun t343 => (if t343 = true then (if x9 = true then (if (((rd_T54 x14 x16).f1).size : Int) > (x341001.size : Int) then (plane_Find.l0 k x1 x2 true x14 x15 (wrap64 (x16 + 1)) ((rd_T54 x14 x16).f0) ((rd_T54 x14 x16).f1) ((rd_T54 x14 x16).f2)) else (plane_Find.l0 k x1 x2 x9 x14 x15 (wrap64 (x16 + 1)) x341000 x341001 x341002)) else (plane_Find.l0 k x1 x2 true x14 x15 (wrap64 (x16 + 1)) ((rd_T54 x14 x16).f0) ((rd_T54 x14 x16).f1) ((rd_T54 x14 x16).f2))) else (plane_Find.l0 k x1 x2 x9 x14 x15 (wrap64 (x16 + 1)) x341000 x341001 x341002))) else (plane_Find.l0 k x1 x2 x9 x14 x15 (wrap64 (x16 + 1)) x341000 x341001 x341002)) else (none)) else (none)) else (some (x341000, x341001, x341002, x9))
def plane_Find.f (k : Nat) (a0_0 : Int) (l0_1 : List (S54)) (l0_2 : List (S58)) (a1 : ByteArray) (a2 : ByteArray) : Option (ByteArray × ByteArray × ByteArray × Bool) := plane_Find.l0 k a1 a2 false l0_1 (l0_1.length : Int) 0 (⟨#[]⟩ : ByteArray) (⟨#[]⟩ : ByteArray) (⟨#[]⟩ : ByteArray)
theorem plane_Find.mono_l : ∀ k, (∀ y0 y1 y2 y3 y4 y5 y6 y7 y8, LeO (plane_Find.l0 k y0 y1 y2 y3 y4 y5 y6 y7 y8) (plane_Find.l0 (k + 1) y0 y1 y2 y3 y4 y5 y6 y7 y8))
 | 0 => fun _ _ _ _ _ _ _ _ _ r h => by simp [plane_Find.l0] at h
 | k + 1 => by
  have ih0 := plane_Find.mono_l k;intro y0 y1 y2 y3 y4 y5 y6 y7 y8;unfold plane_Find.l0
  repeat' with_reducible first | exact ih0 _ _ _ _ _ _ _ _ _ | exact LeO.refl _ | exact LeO.none _ | refine LeO.ite ?_ ?_ | refine LeO.bind ?_ (fun _ => ?_)
theorem plane_Find.mono : ∀ a0 a1 a2 a3 a4 k, LeO (plane_Find.f k a0 a1 a2 a3 a4) (plane_Find.f (k + 1) a0 a1 a2 a3 a4) := by
 intro a0 a1 a2 a3 a4 k;have ih0 := plane_Find.mono_l k;unfold plane_Find.f
 repeat' with_reducible first | exact ih0 _ _ _ _ _ _ _ _ _ | exact LeO.refl _ | exact LeO.none _ | refine LeO.ite ?_ ?_ | refine LeO.bind ?_ (fun _ => ?_)
set_option maxHeartbeats 8000000 in
set_option maxRecDepth 100000 in
theorem plane_Find.calls (k : Nat) (a0_0 : Int) (A0_1 : Option Addr) (c0_1 : Nat) (l0_1 : List (S54)) (A0_2 : Option Addr) (c0_2 : Nat) (l0_2 : List (S58)) (a1 : ByteArray) (a2 : ByteArray) (r1 : ByteArray) (r2 : ByteArray) (r3 : ByteArray) (r4 : Bool) (w : World) (hr0_1 : Kd.C k54 w A0_1 l0_1.length l0_1) (hc0_1 : l0_1.length ≤ c0_1) (hr0_2 : Kd.C k58 w A0_2 l0_2.length l0_2) (hc0_2 : l0_2.length ≤ c0_2) (h : plane_Find.f k a0_0 l0_1 l0_2 a1 a2 = some (r1, r2, r3, r4)) :
  Calls Tryz.prog 13 #[.agg #[.int .i64 a0_0, .slice A0_1 l0_1.length c0_1, .slice A0_2 l0_2.length c0_2], .string a1, .string a2] w fun e w' => e = .returned (.tuple #[.agg #[.string r1, .string r2, .string r3], .bool r4]) ∧ Below w.heap.size w w' := by
 have hu44 := Tryz.underlying44;have hu54 := Tryz.underlying54;have HR0_1 := zN hr0_1;have HC0_1 := zN hc0_1;clear hr0_1 hc0_1;have HR0_2 := zN hr0_2;have HC0_2 := zN hc0_2;clear hr0_2 hc0_2;have HB := zN (Below.refl w.heap.size w);have H : (plane_Find.l0 k a1 a2 false l0_1 (l0_1.length : Int) 0 (⟨#[]⟩ : ByteArray) (⟨#[]⟩ : ByteArray) (⟨#[]⟩ : ByteArray)) = some (r1, r2, r3, r4) := h;clear h;have H' := zN H;clear H;go_enter Tryz.func13, Tryz.ntmps13;go_wp2_with (first | ((with_reducible refine gate_dst (N := 3) rfl ?_); (try (refine gate_guard (by rfl) ?_; dsimp only)); refine zX #[.int .i64 a0_0, .slice A0_1 l0_1.length c0_1, .slice A0_2 l0_2.length c0_2] 44 rfl ?_; intro gb338 hg w4 hbox hb; have BK338 := zN hbox; have GW338 := zY w (zB HB) hg; have GE338 := zY w (zB HB) hg; replace HB := zk HB hb; clear hb hbox hg) | ((with_reducible refine gate_dst (N := 6) rfl ?_); (try (refine gate_guard (by rfl) ?_; dsimp only)); refine zX #[.string (⟨#[]⟩ : ByteArray), .string (⟨#[]⟩ : ByteArray), .string (⟨#[]⟩ : ByteArray)] 54 rfl ?_; intro gb339 hg w5 hbox hb; have BK339 := zN hbox; have GW339 := zY w (zB1 HB GE338) hg; have GE339 := zY w (zB1 HB GE338) hg; replace HB := zk1 HB GE338 hb; have NB338_339 := zl BK338 hg; have NB339_338 := zl' BK338 hg; replace BK338 := zj BK338 hb; clear hb hbox hg) | ((with_reducible refine gate_dst (N := 8) rfl ?_); (try (refine gate_guard (by rfl) ?_; dsimp only)); refine zX #[.string (⟨#[]⟩ : ByteArray), .string (⟨#[]⟩ : ByteArray), .string (⟨#[]⟩ : ByteArray)] 54 rfl ?_; intro gb340 hg w6 hbox hb; have BK340 := zN hbox; have GW340 := zY w (zB2 HB GE338 GE339) hg; have GE340 := zY w (zB2 HB GE338 GE339) hg; replace HB := zk2 HB GE338 GE339 hb; have NB338_340 := zl BK338 hg; have NB340_338 := zl' BK338 hg; replace BK338 := zj BK338 hb; have NB339_340 := zl BK339 hg; have NB340_339 := zl' BK339 hg; replace BK339 := zj BK339 hb; clear hb hbox hg; have hnb7 := NB340_338.out; have hnc7 := NB338_340.out; have hnb8 := NB340_339.out; have hnc8 := NB339_340.out; obtain ⟨hcz9_0, hcz9_1, hcz9_2, hfz9_0, hfz9_1, hfz9_2⟩ := zC3 BK340; have hnb10 := NB338_339.out; have hnc10 := NB339_338.out; obtain ⟨hcz11_0, hcz11_1, hcz11_2, hfz11_0, hfz11_1, hfz11_2⟩ := zC3 BK338));go_loopg [9, 16] k (fun kq v9 v16 w' => ∃ (x9_1 : Bool) (x16_1 : Int) (x341000_1 : ByteArray) (x341001_1 : ByteArray) (x341002_1 : ByteArray), v9 = .bool x9_1 ∧ v16 = .int .i64 x16_1 ∧ Aside0 (plane_Find.l0 kq a1 a2 x9_1 l0_1 (l0_1.length : Int) x16_1 x341000_1 x341001_1 x341002_1 = some (r1, r2, r3, r4)) ∧ Aside0 (kq ≤ k) ∧ Aside0 (w'.heap[gb338]? = some (.cells #[.int .i64 a0_0, (.slice A0_1 l0_1.length c0_1), (.slice A0_2 l0_2.length c0_2)] 44 (0, 0))) ∧ Aside0 (w'.heap[gb339]? = some (.cells #[.string (⟨#[]⟩ : ByteArray), .string (⟨#[]⟩ : ByteArray), .string (⟨#[]⟩ : ByteArray)] 54 (0, 0))) ∧ Aside0 (w'.heap[gb340]? = some (.cells #[.string x341000_1, .string x341001_1, .string x341002_1] 54 (0, 0))) ∧ Aside0 (Below w.heap.size w w'))
 case atStart => exact ⟨(false), (0), ((⟨#[]⟩ : ByteArray)), ((⟨#[]⟩ : ByteArray)), ((⟨#[]⟩ : ByteArray)), zI, zI, H', ⟨zh _⟩, ⟨zF1 BK338 NB338_340⟩, ⟨zF1 BK339 NB339_340⟩, ⟨zF BK340⟩, ⟨zB3 HB GE338 GE339 GE340⟩⟩
 case round =>
  clear H'
  try clear hcz11_0
  try clear hcz11_1
  try clear hcz11_2
  try clear hcz9_0
  try clear hcz9_1
  try clear hcz9_2
  try clear hfz11_0
  try clear hfz11_1
  try clear hfz11_2
  try clear hfz9_0
  try clear hfz9_1
  try clear hfz9_2
  obtain ⟨x9_1, x16_1, x341000_1, x341001_1, x341002_1, rfl, rfl, HA, HK1, BK338, BK339, BK340, HB⟩ := hrel;cases gk with
  | zero => exact absurd HA.out (by simp [plane_Find.l0])
  | succ k1 =>
   have H := HA.out;clear HA;simp only [plane_Find.l0] at H;by_cases c12 : x16_1 < (l0_1.length : Int);rotate_left
   ·rw [zn c12] at H;have c12b0 := zf c12;clear c12;simp only [Option.some.injEq, Prod.mk.injEq] at H;obtain ⟨rfl, rfl, rfl, rfl⟩ := H;have hnb54 := NB340_338.out;have hnc54 := NB338_340.out;have hnb55 := NB340_339.out;have hnc55 := NB339_340.out;obtain ⟨hcz56_0, hcz56_1, hcz56_2, hfz56_0, hfz56_1, hfz56_2⟩ := zC3 BK340;have hnb57 := NB339_338.out;have hnc57 := NB338_339.out;obtain ⟨hcz58_0, hcz58_1, hcz58_2, hfz58_0, hfz58_1, hfz58_2⟩ := zC3 BK339;go_wp2;refine bodyPost_ret (results_ct rfl _ _ gb339 54 #[.string x341000_1, .string x341001_1, .string x341002_1] (0, 0) _ rfl (zF BK339) Tryz.underlying54 rfl zQ) rfl ?_;exact ⟨zE, zB3 HB GE338 GE339 GE340⟩
   rw [zp c12] at H;have c12b0 := zt c12;clear c12;by_cases c13 : 0 ≤ x16_1;rotate_left
   ·rw [zn c13] at H;exact absurd H (by simp)
   rw [zp c13] at H;have c13b0 := zt c13;clear c13;by_cases c14 : x16_1 < (l0_1.length : Int);rotate_left
   ·rw [zn c14] at H;exact absurd H (by simp)
   rw [zp c14] at H;have c14b0 := zt c14;clear c14;by_cases c15 : ((rd_T54 l0_1 x16_1).f0).toList = a1.toList;rotate_left
   ·rw [zn c15] at H;have c15b0 := zb.mpr c15;have c15b1 := bne_iff_ne.mpr c15;have H' := zN H;clear H;have p341 : 0 ≤ (x16_1 : Int) := zd zS;have q341 : x16_1 < (l0_1.length : Int) := zd zS;obtain ⟨ad341, e341, hx341_0, hx341_1, hx341_2⟩ := at_T54 HR0_1.out x16_1 p341 q341;cases e341;replace hx341_0 := (HB.out.cell (zw w _ hx341_0)).trans hx341_0;replace hx341_1 := (HB.out.cell (zw w _ hx341_1)).trans hx341_1;replace hx341_2 := (HB.out.cell (zw w _ hx341_2)).trans hx341_2;replace p341 := zu p341;replace q341 := zu q341;go_wp2_with (first | ((with_reducible refine gate_dst (N := 11) rfl ?_); (try (refine gate_guard (by rfl) ?_; dsimp only)); refine zX #[.string (⟨#[]⟩ : ByteArray), .string (⟨#[]⟩ : ByteArray), .string (⟨#[]⟩ : ByteArray)] 54 rfl ?_; intro gb342 hg w49 hbox hb; have BK342 := zN hbox; have GW342 := zY w (zB3 HB GE338 GE339 GE340) hg; have GE342 := zY w (zB3 HB GE338 GE339 GE340) hg; replace HB := zk3 HB GE338 GE339 GE340 hb; have NB338_342 := zl BK338 hg; have NB342_338 := zl' BK338 hg; replace BK338 := zj BK338 hb; have NB339_342 := zl BK339 hg; have NB342_339 := zl' BK339 hg; replace BK339 := zj BK339 hb; have NB340_342 := zl BK340 hg; have NB342_340 := zl' BK340 hg; replace BK340 := zj BK340 hb; clear hb hbox hg; have hnb50 := NB342_338.out; have hnc50 := NB338_342.out; have hnb51 := NB342_339.out; have hnc51 := NB339_342.out; have hnb52 := NB342_340.out; have hnc52 := NB340_342.out; obtain ⟨hcz53_0, hcz53_1, hcz53_2, hfz53_0, hfz53_1, hfz53_2⟩ := zC3 BK342));go_roundg k1
    case measure => have := HK1.out; omega
    case rel => exact ⟨(x9_1), (wrap64 (x16_1 + 1)), (x341000_1), (x341001_1), (x341002_1), zI, zI, H', ⟨by have := HK1.out; omega⟩, ⟨zF1 BK338 NB338_342⟩, ⟨zF1 BK339 NB339_342⟩, ⟨zF1 BK340 NB340_342⟩, ⟨zB4 HB GE338 GE339 GE340 GE342⟩⟩
   rw [zp c15] at H;have c15b0 := beq_iff_eq.mpr c15;have c15b1 := zc.mpr c15;clear c15;obtain ⟨t343, A16, H⟩ := zA H;(try dsimp only at H);by_cases c17 : t343 = true;rotate_left
   ·replace c17 := zq.mpr c17;subst c17;have H1 := H; rw [zn (show ¬ (false = true) by decide)] at H1;clear H;have H := H1;clear H1;have H' := zN H;clear H;have p341 : 0 ≤ (x16_1 : Int) := zd zS;have q341 : x16_1 < (l0_1.length : Int) := zd zS;obtain ⟨ad341, e341, hx341_0, hx341_1, hx341_2⟩ := at_T54 HR0_1.out x16_1 p341 q341;cases e341;replace hx341_0 := (HB.out.cell (zw w _ hx341_0)).trans hx341_0;replace hx341_1 := (HB.out.cell (zw w _ hx341_1)).trans hx341_1;replace hx341_2 := (HB.out.cell (zw w _ hx341_2)).trans hx341_2;replace p341 := zu p341;replace q341 := zu q341;go_wp2_with (first | ((with_reducible refine gate_dst (N := 11) rfl ?_); (try (refine gate_guard (by rfl) ?_; dsimp only)); refine zX #[.string (⟨#[]⟩ : ByteArray), .string (⟨#[]⟩ : ByteArray), .string (⟨#[]⟩ : ByteArray)] 54 rfl ?_; intro gb342 hg w44 hbox hb; have BK342 := zN hbox; have GW342 := zY w (zB3 HB GE338 GE339 GE340) hg; have GE342 := zY w (zB3 HB GE338 GE339 GE340) hg; replace HB := zk3 HB GE338 GE339 GE340 hb; have NB338_342 := zl BK338 hg; have NB342_338 := zl' BK338 hg; replace BK338 := zj BK338 hb; have NB339_342 := zl BK339 hg; have NB342_339 := zl' BK339 hg; replace BK339 := zj BK339 hb; have NB340_342 := zl BK340 hg; have NB342_340 := zl' BK340 hg; replace BK340 := zj BK340 hb; clear hb hbox hg; have hnb45 := NB342_338.out; have hnc45 := NB338_342.out; have hnb46 := NB342_339.out; have hnc46 := NB339_342.out; have hnb47 := NB342_340.out; have hnc47 := NB340_342.out; obtain ⟨hcz48_0, hcz48_1, hcz48_2, hfz48_0, hfz48_1, hfz48_2⟩ := zC3 BK342) | (go_at_call 31; (with_reducible refine (plane_fits.calls ((rd_T54 l0_1 x16_1).f1) a2 false _ A16.out).mono ?_); rintro e w' ⟨rfl, ⟨nd, rfl⟩⟩));go_roundg k1
    case measure => have := HK1.out; omega
    case rel => exact ⟨(x9_1), (wrap64 (x16_1 + 1)), (x341000_1), (x341001_1), (x341002_1), zI, zI, H', ⟨by have := HK1.out; omega⟩, ⟨zF1 BK338 NB338_342⟩, ⟨zF1 BK339 NB339_342⟩, ⟨zF1 BK340 NB340_342⟩, ⟨zB4 HB GE338 GE339 GE340 GE342⟩⟩
   subst c17;have H1 := H; rw [zp rfl] at H1;clear H;have H := H1;clear H1;by_cases c18 : x9_1 = true;rotate_left
   ·replace c18 := zq.mpr c18;subst c18;have H1 := H; rw [zn (show ¬ (false = true) by decide)] at H1;clear H;have H := H1;clear H1;have H' := zN H;clear H;have p341 : 0 ≤ (x16_1 : Int) := zd zS;have q341 : x16_1 < (l0_1.length : Int) := zd zS;obtain ⟨ad341, e341, hx341_0, hx341_1, hx341_2⟩ := at_T54 HR0_1.out x16_1 p341 q341;cases e341;replace hx341_0 := (HB.out.cell (zw w _ hx341_0)).trans hx341_0;replace hx341_1 := (HB.out.cell (zw w _ hx341_1)).trans hx341_1;replace hx341_2 := (HB.out.cell (zw w _ hx341_2)).trans hx341_2;replace p341 := zu p341;replace q341 := zu q341;go_wp2_with (first | ((with_reducible refine gate_dst (N := 11) rfl ?_); (try (refine gate_guard (by rfl) ?_; dsimp only)); refine zX #[.string (⟨#[]⟩ : ByteArray), .string (⟨#[]⟩ : ByteArray), .string (⟨#[]⟩ : ByteArray)] 54 rfl ?_; intro gb342 hg w36 hbox hb; have BK342 := zN hbox; have GW342 := zY w (zB3 HB GE338 GE339 GE340) hg; have GE342 := zY w (zB3 HB GE338 GE339 GE340) hg; replace HB := zk3 HB GE338 GE339 GE340 hb; have NB338_342 := zl BK338 hg; have NB342_338 := zl' BK338 hg; replace BK338 := zj BK338 hb; have NB339_342 := zl BK339 hg; have NB342_339 := zl' BK339 hg; replace BK339 := zj BK339 hb; have NB340_342 := zl BK340 hg; have NB342_340 := zl' BK340 hg; replace BK340 := zj BK340 hb; clear hb hbox hg; have hnb37 := NB342_338.out; have hnc37 := NB338_342.out; have hnb38 := NB342_339.out; have hnc38 := NB339_342.out; have hnb39 := NB342_340.out; have hnc39 := NB340_342.out; obtain ⟨hcz40_0, hcz40_1, hcz40_2, hfz40_0, hfz40_1, hfz40_2⟩ := zC3 BK342) | (go_at_call 31; (with_reducible refine (plane_fits.calls ((rd_T54 l0_1 x16_1).f1) a2 true _ A16.out).mono ?_); rintro e w' ⟨rfl, ⟨nd, rfl⟩⟩; have hnb41 := NB340_338.out; have hnc41 := NB338_340.out; have hnb42 := NB340_339.out; have hnc42 := NB339_340.out; obtain ⟨hcz43_0, hcz43_1, hcz43_2, hfz43_0, hfz43_1, hfz43_2⟩ := zC3 BK340));go_roundg k1
    case measure => have := HK1.out; omega
    case rel => exact ⟨(true), (wrap64 (x16_1 + 1)), ((rd_T54 l0_1 x16_1).f0), ((rd_T54 l0_1 x16_1).f1), ((rd_T54 l0_1 x16_1).f2), zI, zI, H', ⟨by have := HK1.out; omega⟩, ⟨zF2 BK338 NB338_340 NB338_342⟩, ⟨zF2 BK339 NB339_340 NB339_342⟩, ⟨by (with_reducible repeat (first | refine blk_drewN ?_ _ | refine blk_drew ?_ | refine blk_alloc ?_ _)); refine blk_put (cs := #[.string ((rd_T54 l0_1 x16_1).f0), .string ((rd_T54 l0_1 x16_1).f1), .string x341002_1]) ?_ 2 _ rfl; (with_reducible repeat (first | refine blk_drewN ?_ _ | refine blk_drew ?_ | refine blk_alloc ?_ _)); refine blk_put (cs := #[.string ((rd_T54 l0_1 x16_1).f0), .string x341001_1, .string x341002_1]) ?_ 1 _ rfl; (with_reducible repeat (first | refine blk_drewN ?_ _ | refine blk_drew ?_ | refine blk_alloc ?_ _)); refine blk_put (cs := #[.string x341000_1, .string x341001_1, .string x341002_1]) ?_ 0 _ rfl; (with_reducible repeat (first | refine blk_drewN ?_ _ | refine blk_drew ?_ | refine blk_alloc ?_ _)); refine blk_far ?_ NB340_342.out _; (with_reducible repeat (first | refine blk_drewN ?_ _ | refine blk_drew ?_ | refine blk_alloc ?_ _)); refine blk_far ?_ NB340_342.out _; (with_reducible repeat (first | refine blk_drewN ?_ _ | refine blk_drew ?_ | refine blk_alloc ?_ _)); refine blk_far ?_ NB340_342.out _; (with_reducible repeat (first | refine blk_drewN ?_ _ | refine blk_drew ?_ | refine blk_alloc ?_ _)); exact BK340.out⟩, ⟨zB4 HB GE338 GE339 GE340 GE342⟩⟩
   subst c18;have H1 := H; rw [zp rfl] at H1;clear H;have H := H1;clear H1;by_cases c19 : (((rd_T54 l0_1 x16_1).f1).size : Int) > (x341001_1.size : Int)
   ·rw [zp c19] at H;have c19b0 : decide ((x341001_1.size : Int) < (((rd_T54 l0_1 x16_1).f1).size : Int)) = true := zt c19;have c19b1 : decide (x341001_1.size < ((rd_T54 l0_1 x16_1).f1).size) = true := zt (Int.ofNat_lt.mp c19);clear c19;have H' := zN H;clear H;have p341 : 0 ≤ (x16_1 : Int) := zd zS;have q341 : x16_1 < (l0_1.length : Int) := zd zS;obtain ⟨ad341, e341, hx341_0, hx341_1, hx341_2⟩ := at_T54 HR0_1.out x16_1 p341 q341;cases e341;replace hx341_0 := (HB.out.cell (zw w _ hx341_0)).trans hx341_0;replace hx341_1 := (HB.out.cell (zw w _ hx341_1)).trans hx341_1;replace hx341_2 := (HB.out.cell (zw w _ hx341_2)).trans hx341_2;replace p341 := zu p341;replace q341 := zu q341;go_wp2_with (first | ((with_reducible refine gate_dst (N := 11) rfl ?_); (try (refine gate_guard (by rfl) ?_; dsimp only)); refine zX #[.string (⟨#[]⟩ : ByteArray), .string (⟨#[]⟩ : ByteArray), .string (⟨#[]⟩ : ByteArray)] 54 rfl ?_; intro gb342 hg w20 hbox hb; have BK342 := zN hbox; have GW342 := zY w (zB3 HB GE338 GE339 GE340) hg; have GE342 := zY w (zB3 HB GE338 GE339 GE340) hg; replace HB := zk3 HB GE338 GE339 GE340 hb; have NB338_342 := zl BK338 hg; have NB342_338 := zl' BK338 hg; replace BK338 := zj BK338 hb; have NB339_342 := zl BK339 hg; have NB342_339 := zl' BK339 hg; replace BK339 := zj BK339 hb; have NB340_342 := zl BK340 hg; have NB342_340 := zl' BK340 hg; replace BK340 := zj BK340 hb; clear hb hbox hg; have hnb21 := NB342_338.out; have hnc21 := NB338_342.out; have hnb22 := NB342_339.out; have hnc22 := NB339_342.out; have hnb23 := NB342_340.out; have hnc23 := NB340_342.out; obtain ⟨hcz24_0, hcz24_1, hcz24_2, hfz24_0, hfz24_1, hfz24_2⟩ := zC3 BK342) | (go_at_call 31; (with_reducible refine (plane_fits.calls ((rd_T54 l0_1 x16_1).f1) a2 true _ A16.out).mono ?_); rintro e w' ⟨rfl, ⟨nd, rfl⟩⟩; have hnb25 := NB340_338.out; have hnc25 := NB338_340.out; have hnb26 := NB340_339.out; have hnc26 := NB339_340.out; obtain ⟨hcz27_0, hcz27_1, hcz27_2, hfz27_0, hfz27_1, hfz27_2⟩ := zC3 BK340));go_roundg k1
    case measure => have := HK1.out; omega
    case rel => exact ⟨(true), (wrap64 (x16_1 + 1)), ((rd_T54 l0_1 x16_1).f0), ((rd_T54 l0_1 x16_1).f1), ((rd_T54 l0_1 x16_1).f2), zI, zI, H', ⟨by have := HK1.out; omega⟩, ⟨zF2 BK338 NB338_340 NB338_342⟩, ⟨zF2 BK339 NB339_340 NB339_342⟩, ⟨by (with_reducible repeat (first | refine blk_drewN ?_ _ | refine blk_drew ?_ | refine blk_alloc ?_ _)); refine blk_put (cs := #[.string ((rd_T54 l0_1 x16_1).f0), .string ((rd_T54 l0_1 x16_1).f1), .string x341002_1]) ?_ 2 _ rfl; (with_reducible repeat (first | refine blk_drewN ?_ _ | refine blk_drew ?_ | refine blk_alloc ?_ _)); refine blk_put (cs := #[.string ((rd_T54 l0_1 x16_1).f0), .string x341001_1, .string x341002_1]) ?_ 1 _ rfl; (with_reducible repeat (first | refine blk_drewN ?_ _ | refine blk_drew ?_ | refine blk_alloc ?_ _)); refine blk_put (cs := #[.string x341000_1, .string x341001_1, .string x341002_1]) ?_ 0 _ rfl; (with_reducible repeat (first | refine blk_drewN ?_ _ | refine blk_drew ?_ | refine blk_alloc ?_ _)); refine blk_far ?_ NB340_342.out _; (with_reducible repeat (first | refine blk_drewN ?_ _ | refine blk_drew ?_ | refine blk_alloc ?_ _)); refine blk_far ?_ NB340_342.out _; (with_reducible repeat (first | refine blk_drewN ?_ _ | refine blk_drew ?_ | refine blk_alloc ?_ _)); refine blk_far ?_ NB340_342.out _; (with_reducible repeat (first | refine blk_drewN ?_ _ | refine blk_drew ?_ | refine blk_alloc ?_ _)); exact BK340.out⟩, ⟨zB4 HB GE338 GE339 GE340 GE342⟩⟩
   rw [zn c19] at H;have c19b0 : decide ((x341001_1.size : Int) < (((rd_T54 l0_1 x16_1).f1).size : Int)) = false := zf c19;have c19b1 : decide (x341001_1.size < ((rd_T54 l0_1 x16_1).f1).size) = false := zf (fun h => c19 (Int.ofNat_lt.mpr h));clear c19;have H' := zN H;clear H;have p341 : 0 ≤ (x16_1 : Int) := zd zS;have q341 : x16_1 < (l0_1.length : Int) := zd zS;obtain ⟨ad341, e341, hx341_0, hx341_1, hx341_2⟩ := at_T54 HR0_1.out x16_1 p341 q341;cases e341;replace hx341_0 := (HB.out.cell (zw w _ hx341_0)).trans hx341_0;replace hx341_1 := (HB.out.cell (zw w _ hx341_1)).trans hx341_1;replace hx341_2 := (HB.out.cell (zw w _ hx341_2)).trans hx341_2;replace p341 := zu p341;replace q341 := zu q341;go_wp2_with (first | ((with_reducible refine gate_dst (N := 11) rfl ?_); (try (refine gate_guard (by rfl) ?_; dsimp only)); refine zX #[.string (⟨#[]⟩ : ByteArray), .string (⟨#[]⟩ : ByteArray), .string (⟨#[]⟩ : ByteArray)] 54 rfl ?_; intro gb342 hg w28 hbox hb; have BK342 := zN hbox; have GW342 := zY w (zB3 HB GE338 GE339 GE340) hg; have GE342 := zY w (zB3 HB GE338 GE339 GE340) hg; replace HB := zk3 HB GE338 GE339 GE340 hb; have NB338_342 := zl BK338 hg; have NB342_338 := zl' BK338 hg; replace BK338 := zj BK338 hb; have NB339_342 := zl BK339 hg; have NB342_339 := zl' BK339 hg; replace BK339 := zj BK339 hb; have NB340_342 := zl BK340 hg; have NB342_340 := zl' BK340 hg; replace BK340 := zj BK340 hb; clear hb hbox hg; have hnb29 := NB342_338.out; have hnc29 := NB338_342.out; have hnb30 := NB342_339.out; have hnc30 := NB339_342.out; have hnb31 := NB342_340.out; have hnc31 := NB340_342.out; obtain ⟨hcz32_0, hcz32_1, hcz32_2, hfz32_0, hfz32_1, hfz32_2⟩ := zC3 BK342) | (go_at_call 31; (with_reducible refine (plane_fits.calls ((rd_T54 l0_1 x16_1).f1) a2 true _ A16.out).mono ?_); rintro e w' ⟨rfl, ⟨nd, rfl⟩⟩; have hnb33 := NB340_338.out; have hnc33 := NB338_340.out; have hnb34 := NB340_339.out; have hnc34 := NB339_340.out; obtain ⟨hcz35_0, hcz35_1, hcz35_2, hfz35_0, hfz35_1, hfz35_2⟩ := zC3 BK340));go_roundg k1
   case measure => have := HK1.out; omega
   case rel => exact ⟨(true), (wrap64 (x16_1 + 1)), (x341000_1), (x341001_1), (x341002_1), zI, zI, H', ⟨by have := HK1.out; omega⟩, ⟨zF1 BK338 NB338_342⟩, ⟨zF1 BK339 NB339_342⟩, ⟨zF1 BK340 NB340_342⟩, ⟨zB4 HB GE338 GE339 GE340 GE342⟩⟩

end Go.Proofs.YtpigfccpogmeaaaGreatDoor.S
end
section
namespace Go.Proofs.YtpigfccpogmeaaaGreatDoor.PP
open Go.RowKit Go.Proofs.YtpigfccpogmeaaaGreatDoor.S Go.Proofs.YtpigfccpogmeaaaGreatDoorW.PrintWords Go.Proofs.YtpigfccpogmeaaaGreatDoorW.PrintLast Go.Proofs.YtpigfccpogmeaaaGreatDoorW.PrintMore
theorem Ev.pos {α : Type} {c : Prop} [Decidable c] {a b : Nat → Option α} {r : α} (hc : c) (h : Ev a r) : Ev (fun k => if c then a k else b k) r := Ev.congr (fun _ => zp hc) h
theorem Ev.neg {α : Type} {c : Prop} [Decidable c] {a b : Nat → Option α} {r : α} (hc : ¬ c) (h : Ev b r) : Ev (fun k => if c then a k else b k) r := Ev.congr (fun _ => zn hc) h
theorem Ev.put {α β : Type} {x : β} {f : Nat → β → Option α} {r : α} (h : Ev (fun k => f k x) r) : Ev (fun k => (some x).bind (f k)) r := h
theorem Ev.call {α β : Type} {g : Option β} {x : β} {f : Nat → β → Option α} {r : α} (hg : g = some x) (h : Ev (fun k => f k x) r) : Ev (fun k => g.bind (f k)) r := by rw [hg]; exact h
theorem Ev.ret {α : Type} {a r : α} (h : a = r) : Ev (fun _ => some a) r := by rw [h]; exact Ev.now _
theorem toList_nil (s : ByteArray) : s.toList = [] ↔ s.size = 0 := by
  rw [ByteArray.toList_eq, ← List.length_eq_zero_iff, Array.length_toList];rfl
theorem bt_extract (s : ByteArray) (a : Nat) : bt (s.extract a s.size) 0 = bt s (a : Int) := by
  unfold bt;simp only [Int.toNat_natCast, show (0 : Int).toNat = 0 from rfl];by_cases h : a < s.size
  · rw [dif_pos (by rw [ByteArray.size_extract]; omega), dif_pos h];simp [ByteArray.getElem_extract]
  rw [dif_neg (by rw [ByteArray.size_extract]; omega), dif_neg h]
theorem last_is (p : ByteArray) (h : 1 ≤ p.size) (c : UInt8) : ((p.extract (p.size - 1) p.size).toList == [c]) = (bt p ((p.size - 1 : Nat) : Int) == (c.toNat : Int)) := by
  have e : (p.extract (p.size - 1) p.size).toList = [p[p.size - 1]'zO] := by
    rw [ByteArray.toList_eq];apply List.ext_getElem?;intro i;rw [ByteArray.data_extract, Array.getElem?_toList];by_cases hi : i = 0
    · subst hi;rw [Array.getElem?_eq_getElem (by simp; have : p.size = p.data.size := rfl; omega)];simp;rfl
    rw [Array.getElem?_eq_none (by simp; have : p.size = p.data.size := rfl; omega), List.getElem?_eq_none (by simp; omega)]
  have e2 : bt p ((p.size - 1 : Nat) : Int) = ((p[p.size - 1]'zO).toNat : Int) := by
    unfold bt;rw [dif_pos (by simp only [Int.toNat_natCast]; omega)];simp
  rw [e, e2, Bool.eq_iff_iff];simp only [beq_iff_eq, List.cons.injEq, and_true]
  constructor
  · intro h; rw [h]
  intro h; exact UInt8.toNat_inj.1 zO
def fitsB (p s : ByteArray) : Bool := if p.size ≤ s.size then (if (s.extract 0 p.size).toList = p.toList then (decide (s.size = p.size) || (bt s (p.size : Int) == 47 || (decide (1 ≤ p.size) && bt p ((p.size - 1 : Nat) : Int) == 47))) else false) else false
theorem ext_list (s : ByteArray) (i j : Nat) : (s.extract i j).toList = (s.data.toList.drop i).take (j - i) := by
  have h : s = HP.B s.data.toList := (HP.B_of s).symm;rw [show s.extract i j = (HP.B s.data.toList).extract i j from by rw [← h], HP.B_extract, HP.B_toList]
theorem cutP_is (p s : ByteArray) : strings_CutPrefix.f s p = some (if p.size ≤ s.size ∧ (s.extract 0 p.size).toList = p.toList then (s.extract p.size s.size, true) else (s, false)) := by
  have hs : s.data.toList.length = s.size := by simp
  have hp : p.data.toList.length = p.size := by simp
  have hx : Lib.hasPrefix s.data.toList p.data.toList = true ↔ (p.size ≤ s.size ∧ (s.extract 0 p.size).toList = p.toList) := by
    unfold Lib.hasPrefix;rw [List.isPrefixOf_iff_prefix, List.prefix_iff_eq_take, ext_list, Lib.toList_data, hp];simp only [List.drop_zero, Nat.sub_zero]
    constructor
    · intro h;refine ⟨?_, h.symm⟩;have := congrArg List.length h;rw [List.length_take, hs, hp] at this;omega
    intro h;exact h.2.symm
  unfold strings_CutPrefix.f;by_cases h : p.size ≤ s.size ∧ (s.extract 0 p.size).toList = p.toList
  · rw [zp h, hx.2 h];unfold Lib.trimPrefix;rw [zp (hx.2 h)];have he : s.extract p.size s.size = HP.B (s.data.toList.drop p.data.toList.length) := by
      have h0 : s = HP.B s.data.toList := (HP.B_of s).symm;rw [show s.extract p.size s.size = (HP.B s.data.toList).extract p.size s.size from by rw [← h0], HP.B_extract, hp, List.take_of_length_le (by rw [List.length_drop, hs]; omega)]
    rw [he];rfl
  have hf : Lib.hasPrefix s.data.toList p.data.toList = false := by
    cases hb : Lib.hasPrefix s.data.toList p.data.toList
    · rfl
    exact absurd (hx.1 hb) h
  rw [zn h, hf];unfold Lib.trimPrefix;rw [hf];simp
theorem fits_is (p s : ByteArray) (hs : s.size ≤ 4611686018427387904) : plane_fits.f p s = some (fitsB p s) := by
  unfold plane_fits.f fitsB;rw [cutP_is];by_cases h1 : p.size ≤ s.size;rotate_left
  · have e : (if p.size ≤ s.size ∧ (s.extract 0 p.size).toList = p.toList then (s.extract p.size s.size, true) else (s, false)) = (s, false) := zn (fun h => h1 h.1);rw [e, zn h1];simp
  rw [zp h1];by_cases h2 : (s.extract 0 p.size).toList = p.toList;rotate_left
  · have e : (if p.size ≤ s.size ∧ (s.extract 0 p.size).toList = p.toList then (s.extract p.size s.size, true) else (s, false)) = (s, false) := zn (fun h => h2 h.2);rw [e, zn h2];simp
  have e : (if p.size ≤ s.size ∧ (s.extract 0 p.size).toList = p.toList then (s.extract p.size s.size, true) else (s, false)) = (s.extract p.size s.size, true) := zp ⟨h1, h2⟩;rw [e, zp h2];simp only [Option.bind_some, if_true];have hsz : (s.extract p.size s.size).size = s.size - p.size := by rw [ByteArray.size_extract]; omega
  by_cases h3 : s.size = p.size
  · rw [zp ((toList_nil _).2 zO)];simp [h3]
  rw [zn (fun h => h3 (by have := (toList_nil _).1 h; omega))];unfold strings_HasSuffix.f stringslite_HasSuffix.f;have hsl : (⟨#[47]⟩ : ByteArray).size = 1 := rfl;have hw : wrap64 ((p.size : Int) - ((⟨#[47]⟩ : ByteArray).size : Int)) = (p.size : Int) - 1 := by rw [hsl]; unfold wrap64; omega
  by_cases h4 : 1 ≤ p.size
  · rw [zp (by rw [hsl]; omega), hw, zp zO, zp zO];have ht : ((p.size : Int) - 1).toNat = p.size - 1 := by omega
    rw [ht];simp only [Option.bind_some];have hl := last_is p h4 47;rw [show (⟨#[47]⟩ : ByteArray).toList = [47] from by rw [ByteArray.toList_eq], hl, bt_extract];rw [zp (show 0 < ((s.extract p.size s.size).size : Int) by omega)];simp only [h3, h4, decide_false, decide_true, Bool.false_or, Bool.true_and];rw [show ((47 : UInt8).toNat : Int) = 47 from rfl];cases bt p ((p.size - 1 : Nat) : Int) == 47 <;> simp
  rw [zn (by rw [hsl]; omega)];simp only [Option.bind_some, Bool.false_eq_true, if_false];rw [zp (show 0 < ((s.extract p.size s.size).size : Int) by omega), bt_extract];simp [h3, h4]
abbrev Found := ByteArray × ByteArray × ByteArray × Bool
def nofound : Found := (⟨#[]⟩, ⟨#[]⟩, ⟨#[]⟩, false)
def may (h s : ByteArray) (r : S54) : Bool := r.f0.toList == h.toList && fitsB r.f1 s
def findStep (h s : ByteArray) (a : Found) (r : S54) : Found := if may h s r = true then (if a.2.2.2 = true then (if (r.f1.size : Int) > (a.2.1.size : Int) then (r.f0, r.f1, r.f2, true) else a) else (r.f0, r.f1, r.f2, true)) else a
def findF (h s : ByteArray) (l : List S54) : Found := l.foldl (findStep h s) nofound
theorem rd_drop {l : List S54} {i : Nat} (h : i < l.length) : l.drop i = rd_T54 l (i : Int) :: l.drop (i + 1) := by
  rw [List.drop_eq_getElem_cons h];simp [rd_T54, List.getD_eq_getElem?_getD, zr h]
theorem Find_loop (h s : ByteArray) (hs : s.size ≤ 4611686018427387904) (l : List S54) (hl : l.length ≤ 9223372036854775806) : ∀ (d i : Nat), i + d = l.length → ∀ a : Found,
    Ev (fun k => plane_Find.l0 k h s a.2.2.2 l (l.length : Int) (i : Int) a.1 a.2.1 a.2.2.1) ((l.drop i).foldl (findStep h s) a) := by
  intro d
  induction d with
  | zero =>
    intro i hi a;refine Ev.step (fun k => by simp only [plane_Find.l0]; rfl) (Ev.neg zO (Ev.ret ?_));rw [List.drop_eq_nil_of_le zO];rfl
  | succ d ih =>
    intro i hi a;have hlt : i < l.length := by omega
    have hw : wrap64 ((i : Int) + 1) = ((i + 1 : Nat) : Int) := by unfold wrap64; omega
    rw [rd_drop hlt, List.foldl_cons];generalize hr : rd_T54 l (i : Int) = r;refine Ev.step (fun k => by simp only [plane_Find.l0]; rw [hr]) (Ev.pos zO (Ev.pos zO (Ev.pos zO ?_)));rw [hw];have hn := ih (i + 1) zO (findStep h s a r);by_cases h1 : r.f0.toList = h.toList;rotate_left
    · have hm : may h s r = false := by unfold may; simp [h1]
      have e : findStep h s a r = a := by unfold findStep; rw [zn (by simp [hm])]
      rw [e] at hn ⊢;exact Ev.neg h1 hn
    refine Ev.pos h1 (Ev.call (fits_is r.f1 s hs) ?_);by_cases h2 : fitsB r.f1 s = true;rotate_left
    · have hm : may h s r = false := by unfold may; simp [h2]
      have e : findStep h s a r = a := by unfold findStep; rw [zn (by simp [hm])]
      rw [e] at hn ⊢;exact Ev.neg h2 hn
    have hm : may h s r = true := by unfold may; rw [h1, h2]; simp
    refine Ev.pos h2 ?_;by_cases h3 : a.2.2.2 = true
    · refine Ev.pos h3 ?_;by_cases h4 : (r.f1.size : Int) > (a.2.1.size : Int)
      · have e : findStep h s a r = (r.f0, r.f1, r.f2, true) := by unfold findStep; rw [zp hm, zp h3, zp h4]
        rw [e] at hn ⊢;exact Ev.pos h4 hn
      have e : findStep h s a r = a := by unfold findStep; rw [zp hm, zp h3, zn h4]
      rw [e] at hn ⊢;exact Ev.neg h4 hn
    have e : findStep h s a r = (r.f0, r.f1, r.f2, true) := by unfold findStep; rw [zp hm, zn h3]
    rw [e] at hn ⊢;exact Ev.neg h3 hn
theorem Find_is (v : Int) (l : List S54) (ps : List S58) (h s : ByteArray) (hs : s.size ≤ 4611686018427387904) (hl : l.length ≤ 9223372036854775806) : Ev (fun k => plane_Find.f k v l ps h s) (findF h s l) := by
  unfold plane_Find.f;exact Find_loop h s hs l hl l.length 0 zO nofound
end Go.Proofs.YtpigfccpogmeaaaGreatDoor.PP
end
section
namespace Go.Proofs.YtpigfccpogmeaaaGreatDoor.S
open Go.RowKit Go.Proofs.YtpigfccpogmeaaaGreatDoorW.PrintWords Go.Proofs.YtpigfccpogmeaaaGreatDoorW.PrintLast Go.Proofs.YtpigfccpogmeaaaGreatDoorW.PrintMore
attribute [local go_sem] max2_int min2_int max_two min_two max_three min_three max_four min_four
attribute [local go_sem] fbin_eql fbin_neq fbin_lss fbin_leq fbin_gtr fbin_geq frun_add frun_sub frun_mul frun_quo frun_store fun_neg fcv_int fcv_same fb88 fb89
set_option linter.unusedVariables false
set_option linter.unusedSimpArgs false
def plane_counts.f (a0 : Nat) (a1 : Nat) : Option (Nat) := if (fgtr a0 0) = true then ((math_IsInf.f a0 1).bind fun t344 => (if t344 = true then (some 0) else (if (fmulOk a0 a1) = true then (some (fmul a0 a1)) else (none)))) else (some 0)
set_option maxHeartbeats 8000000 in
set_option maxRecDepth 100000 in
theorem plane_counts.calls (a0 : Nat) (a1 : Nat) (r : Nat) (w : World) (h : plane_counts.f a0 a1 = some r) :
    Calls Tryz.prog 34 #[.float .f64 a0, .float .f64 a1] w fun e w' => e = .returned (.float .f64 r) ∧ Drawn0 w w' := by
  have H : (if (fgtr a0 0) = true then ((math_IsInf.f a0 1).bind fun t344 => (if t344 = true then (some 0) else (if (fmulOk a0 a1) = true then (some (fmul a0 a1)) else (none)))) else (some 0)) = some r := h;clear h;by_cases c3 : (fgtr a0 0) = true;rotate_left
  · rw [zn c3] at H;have c3b0 : (fgtr a0 0) = false := by simpa using c3
    clear c3;obtain rfl := zo H;go_enter Tryz.func34, Tryz.ntmps34;go_wp2;go_ret;exact ⟨zI, zD⟩
  rw [zp c3] at H;have c3b0 : (fgtr a0 0) = true := c3;clear c3;obtain ⟨t344, A4, H⟩ := zA H;(try dsimp only at H);by_cases c5 : t344 = true
  · subst c5;have H1 := H; rw [zp rfl] at H1;clear H;have H := H1;clear H1;obtain rfl := zo H;go_enter Tryz.func34, Tryz.ntmps34;go_wp2_with (first | (go_at_call 33; (with_reducible refine (math_IsInf.calls a0 1 true _ A4.out).mono ?_); rintro e w' ⟨rfl, ⟨nd, rfl⟩⟩));go_ret;exact ⟨zI, zD⟩
  replace c5 := zq.mpr c5;subst c5;have H1 := H; rw [zn (show ¬ (false = true) by decide)] at H1;clear H;have H := H1;clear H1;by_cases c6 : (fmulOk a0 a1) = true
  · rw [zp c6] at H;have c6b0 := zu c6;have c6b1 := zt c6;clear c6;obtain rfl := zo H;go_enter Tryz.func34, Tryz.ntmps34;go_wp2_with (first | (go_at_call 33; (with_reducible refine (math_IsInf.calls a0 1 false _ A4.out).mono ?_); rintro e w' ⟨rfl, ⟨nd, rfl⟩⟩));go_ret;exact ⟨zI, zD⟩
  rw [zn c6] at H;exact absurd H (by simp)

def plane_sums.l0 : Nat → Nat → List Nat → Nat → List (S62) → Int → Int → Option (List Nat)
 | 0, _, _, _, _, _, _ => none
 | k + 1, x1, x5, x6, x12, x13, x14 => if x14 < x13 then (if 0 ≤ x14 then (if x14 < (x12.length : Int) then ((plane_counts.f ((rd_T62 x12 x14).f1) x1).bind fun t350 => (if (faddOk x6 t350) = true then (if x14 < (x5.length : Int) then (plane_sums.l0 k x1 (x5.set (x14 : Int).toNat (fadd x6 t350)) (fadd x6 t350) x12 x13 (wrap64 (x14 + 1))) else (none)) else (none))) else (none)) else (none)) else (some x5)
def plane_sums.f (k : Nat) (l0 : List (S62)) (a1 : Nat) : Option (List Nat) := if 0 ≤ (l0.length : Int) then (if ((l0.length : Int) : Int).toNat ≤ 35184372088832 then (plane_sums.l0 k a1 (List.replicate ((l0.length : Int) : Int).toNat 0) 0 l0 (l0.length : Int) 0) else (none)) else (none)
theorem plane_sums.mono_l : ∀ k, (∀ y0 y1 y2 y3 y4 y5, LeO (plane_sums.l0 k y0 y1 y2 y3 y4 y5) (plane_sums.l0 (k + 1) y0 y1 y2 y3 y4 y5))
 | 0 => fun _ _ _ _ _ _ r h => by simp [plane_sums.l0] at h
 | k + 1 => by
  have ih0 := plane_sums.mono_l k;intro y0 y1 y2 y3 y4 y5;unfold plane_sums.l0
  repeat' with_reducible first | exact ih0 _ _ _ _ _ _ | exact LeO.refl _ | exact LeO.none _ | refine LeO.ite ?_ ?_ | refine LeO.bind ?_ (fun _ => ?_)
theorem plane_sums.mono : ∀ a0 a1 k, LeO (plane_sums.f k a0 a1) (plane_sums.f (k + 1) a0 a1) := by
 intro a0 a1 k;have ih0 := plane_sums.mono_l k;unfold plane_sums.f
 repeat' with_reducible first | exact ih0 _ _ _ _ _ _ | exact LeO.refl _ | exact LeO.none _ | refine LeO.ite ?_ ?_ | refine LeO.bind ?_ (fun _ => ?_)
set_option maxHeartbeats 8000000 in
set_option maxRecDepth 100000 in
theorem plane_sums.calls (k : Nat) (A0 : Option Addr) (c0 : Nat) (l0 : List (S62)) (a1 : Nat) (r : List Nat) (w : World) (hr0 : Kd.C k62 w A0 l0.length l0) (hc0 : l0.length ≤ c0) (h : plane_sums.f k l0 a1 = some r) :
  Calls Tryz.prog 32 #[.slice A0 l0.length c0, .float .f64 a1] w fun e w' => ∃ v0_ : Value, e = .returned (v0_) ∧ Kd.R Kd.float 26 w' w.heap.size (fun _ => True) v0_ r ∧ Below w.heap.size w w' := by
 have hu62 := Tryz.underlying62;have HR0 := zN hr0;have HC0 := zN hc0;clear hr0 hc0;have HB := zN (Below.refl w.heap.size w);have H : (if 0 ≤ (l0.length : Int) then (if ((l0.length : Int) : Int).toNat ≤ 35184372088832 then (plane_sums.l0 k a1 (List.replicate ((l0.length : Int) : Int).toNat 0) 0 l0 (l0.length : Int) 0) else (none)) else (none)) = some r := h;clear h;by_cases c3 : 0 ≤ (l0.length : Int);rotate_left
 ·rw [zn c3] at H;exact absurd H (by simp)
 rw [zp c3] at H;have c3b0 := zu c3;have c3b1 := zt c3;clear c3;by_cases c4 : ((l0.length : Int) : Int).toNat ≤ 35184372088832;rotate_left
 ·rw [zn c4] at H;exact absurd H (by simp)
 rw [zp c4] at H;have c4b0 := zu c4;have c4b1 := zt c4;clear c4;obtain ⟨y345, hy345⟩ : ∃ y_ : List Nat, y_ = (List.replicate ((l0.length : Int) : Int).toNat 0) := ⟨_, rfl⟩;replace H : (plane_sums.l0 k a1 y345 0 l0 (l0.length : Int) 0) = some r := by first | (rw [hy345]; with_reducible exact H) | (have H2_ := (Option.bind_some _ _).symm.trans H; rw [hy345]; with_reducible exact H2_) | (have H2_ := (Option.bind_some _ _).symm.trans H; with_reducible exact H2_) | with_reducible exact H | (rw [hy345]; exact H) | exact H
 have Ny345 := zN hy345;clear hy345;have H' := zN H;clear H;go_enter Tryz.func32, Tryz.ntmps32;go_wp2_with (first | ((with_reducible refine gate_dst (N := 11) rfl ?_); refine Kd.R_make Kd.float _ 26 rfl (N := 11) rfl 99 _ _ rfl (l0.length : Int) rfl rfl Tryz.underlying99 (.float .f64 0) 8 info26 rfl (by decide) zO 0 (ok := fun _ => True) (okp := fun _ => True) rfl (fun _ hk => hk) trivial (zd zS) (Nat.le_trans (Nat.mul_le_mul_right _ (zd zS : (l0.length : Int).toNat ≤ 35184372088832)) zO) (Below.refl _ _) (zh _) ?_; intro v346 w5 ho6 hb hg_ hnew_; clear hg_ hnew_; (first | rw [← Ny345.out] at ho6 | (simp only [Int.reduceToNat] at ho6; rw [← Ny345.out] at ho6)); have HO347 := zN (Kd.R_lower ho6 (below_size (zB HB))); replace HB := zk HB hb; clear hb ho6));go_loopg [6, 14] k (fun kq v6 v14 w' => ∃ (x5_1 : List Nat) (x6_1 : Nat) (x14_1 : Int), v6 = .float .f64 x6_1 ∧ v14 = .int .i64 x14_1 ∧ Aside0 (plane_sums.l0 kq a1 x5_1 x6_1 l0 (l0.length : Int) x14_1 = some r) ∧ Aside0 (kq ≤ k) ∧ Aside0 (Kd.R Kd.float 26 w' w.heap.size (fun _ => True) v346 x5_1) ∧ Aside0 (Below w.heap.size w w'))
 case atStart => exact ⟨(y345), (0), (0), zI, zI, H', ⟨zh _⟩, ⟨zR HO347⟩, ⟨zB HB⟩⟩
 case round =>
  clear H'
  try clear c3
  try clear c3b0
  try clear c3b1
  try clear c4
  try clear c4b0
  try clear c4b1
  obtain ⟨x5_1, x6_1, x14_1, rfl, rfl, HA, HK1, HO_5, HB⟩ := hrel;cases gk with
  | zero => exact absurd HA.out (by simp [plane_sums.l0])
  | succ k1 =>
   have H := HA.out;clear HA;simp only [plane_sums.l0] at H;by_cases c7 : x14_1 < (l0.length : Int);rotate_left
   ·rw [zn c7] at H;have c7b0 := zf c7;clear c7;obtain rfl := zo H;go_wp2;go_ret;exact ⟨_, zE, zR HO_5, zB HB⟩
   rw [zp c7] at H;have c7b0 := zt c7;clear c7;by_cases c8 : 0 ≤ x14_1;rotate_left
   ·rw [zn c8] at H;exact absurd H (by simp)
   rw [zp c8] at H;have c8b0 := zt c8;clear c8;by_cases c9 : x14_1 < (l0.length : Int);rotate_left
   ·rw [zn c9] at H;exact absurd H (by simp)
   rw [zp c9] at H;have c9b0 := zt c9;clear c9;obtain ⟨t350, A10, H⟩ := zA H;(try dsimp only at H);by_cases c11 : (faddOk x6_1 t350) = true;rotate_left
   ·rw [zn c11] at H;exact absurd H (by simp)
   rw [zp c11] at H;have c11b0 := zu c11;have c11b1 := zt c11;clear c11;by_cases c12 : x14_1 < (x5_1.length : Int);rotate_left
   ·rw [zn c12] at H;exact absurd H (by simp)
   rw [zp c12] at H;have c12b0 := zt c12;clear c12;obtain ⟨y351, hy351⟩ : ∃ y_ : List Nat, y_ = (x5_1.set (x14_1 : Int).toNat (fadd x6_1 t350)) := ⟨_, rfl⟩;replace H : (plane_sums.l0 k1 a1 y351 (fadd x6_1 t350) l0 (l0.length : Int) (wrap64 (x14_1 + 1))) = some r := by first | (rw [hy351]; with_reducible exact H) | (have H2_ := (Option.bind_some _ _).symm.trans H; rw [hy351]; with_reducible exact H2_) | (have H2_ := (Option.bind_some _ _).symm.trans H; with_reducible exact H2_) | with_reducible exact H | (rw [hy351]; exact H) | exact H
   have Ny351 := zN hy351;clear hy351;have H' := zN H;clear H;have p348 : 0 ≤ (x14_1 : Int) := zd zS;have q348 : x14_1 < (l0.length : Int) := zd zS;obtain ⟨ad348, e348, hx348_0, hx348_1⟩ := at_T62 HR0.out x14_1 p348 q348;cases e348;replace hx348_0 := (HB.out.cell (zw w _ hx348_0)).trans hx348_0;replace hx348_1 := (HB.out.cell (zw w _ hx348_1)).trans hx348_1;replace p348 := zu p348;replace q348 := zu q348;go_wp2_with (first | ((with_reducible refine gate_dst (N := 8) rfl ?_); refine zX #[.string (⟨#[]⟩ : ByteArray), .float .f64 0] 62 rfl ?_; intro gb349 hg w14 hbox hb; replace HO_5 := zN (Kd.R_below (zR HO_5) hb); have BK349 := zN hbox; have GW349 := zY w (zB HB) hg; have GE349 := zY w (zB HB) hg; replace HB := zk HB hb; clear hb hbox hg; obtain ⟨hcz15_0, hcz15_1, hfz15_0, hfz15_1⟩ := zC2 BK349) | ((with_reducible refine gate_store (t := 62) (p := 8) rfl ?_); refine store_event (t := 62) (p := 8) (v := ?vo_w16) (w1 := ((w14.setCell ⟨gb349, 0, none⟩ (.string ((rd_T62 l0 x14_1).f0))).setCell ⟨gb349, 1, none⟩ (.float .f64 ((rd_T62 l0 x14_1).f1)))) ?hg ?ho ?hn ?hr ?_; (case ho => rfl); (case hg => rfl); (case hn => rfl); (case hr => first | (go_simp; done) | (go_simp; rfl)); intro w16 hw; replace HO_5 : Aside0 (Kd.R Kd.float 26 w16 w.heap.size (fun _ => True) v346 x5_1) := ⟨(by rw [hw]; exact (by (with_reducible repeat (first | apply Kd.R_alloc | apply Kd.R_drewN | apply Kd.R_drew)); exact Kd.R_mono (Kd.R_far (p := ⟨gb349, 1, none⟩) (Kd.R_far (p := ⟨gb349, 0, none⟩) (Kd.R_types HO_5.out BK349.out (by decide)) (fun _ hk => hk.2) (.string ((rd_T62 l0 x14_1).f0))) (fun _ hk => hk.2) (.float .f64 ((rd_T62 l0 x14_1).f1))) (fun _ hk => trivial)))⟩; replace BK349 : Aside0 (w16.heap[gb349]? = some (.cells #[.string ((rd_T62 l0 x14_1).f0), .float .f64 ((rd_T62 l0 x14_1).f1)] 62 (0, 0))) := ⟨(by rw [hw]; exact (zF BK349))⟩; replace HB : Aside0 (Below w.heap.size w w16) := ⟨(by rw [hw]; exact (zB1 HB GE349))⟩; clear hw; obtain ⟨hcz17_0, hcz17_1, hfz17_0, hfz17_1⟩ := zC2 BK349) | ((with_reducible refine gate_callee (f := 34) rfl ?_); refine zg (some 23) Tryz.func34 #[.float .f64 ((rd_T62 l0 x14_1).f1), .float .f64 a1] ?_; (with_reducible refine (plane_counts.calls ((rd_T62 l0 x14_1).f1) a1 t350 _ A10.out).mono ?_); rintro e w' ⟨rfl, ⟨nd, rfl⟩⟩; refine ⟨_, rfl, ?_⟩; (try (rw [drewN_self w16]; generalize hq_ : World.drewN w16 _ = w16; replace HO_5 : Aside0 (Kd.R Kd.float 26 w16 w.heap.size (fun _ => True) v346 x5_1) := ⟨by rw [← hq_]; exact (zR HO_5)⟩; replace BK349 : Aside0 (w16.heap[gb349]? = some (.cells #[.string ((rd_T62 l0 x14_1).f0), .float .f64 ((rd_T62 l0 x14_1).f1)] 62 (0, 0))) := ⟨by rw [← hq_]; exact (zK BK349)⟩; replace HB : Aside0 (Below w.heap.size w w16) := ⟨by rw [← hq_]; exact (zB1 HB GE349)⟩; clear hq_)); have p13 : 0 ≤ (x14_1 : Int) := zd zS; have q13 : (x14_1 : Int) < ((x5_1.length : Int) : Int) := zd zS; obtain ⟨go13, co13, eo13, gb13, gl13, cl13, HG13⟩ := Kd.R_form HO_5.out zO; (first | cases eo13 | (injection eo13 with ea_ en_ ec_; (first | subst ea_ | (injection ea_ with ea_; subst ea_)); subst ec_; clear en_)); have GB13 := zN gb13; have GG13 := zN HG13; clear gb13 gl13 HG13; obtain ⟨hx13_0, hf13_0⟩ := Kd.R_celln 0 HO_5.out (x14_1 : Int) p13 q13; replace p13 := zu p13; replace q13 := zu q13; obtain ⟨hy18_, hz18_⟩ := Kd.R_celln 0 HO_5.out (x14_1 : Int) (zd zS) (zd zS); have HP18 := Kd.R_putg HO_5.out (x14_1 : Int) (fadd x6_1 t350)) | ((with_reducible refine gate_store (t := 26) (p := 28) rfl ?_); refine store_event (t := 26) (p := 28) (v := ?vo_w19) (w1 := (w16.setCell ⟨go13, (x14_1 : Int).toNat, none⟩ (.float .f64 (fadd x6_1 t350)))) ?hg ?ho ?hn ?hr ?_; (case ho => rfl); (case hg => rfl); (case hn => rfl); (case hr => first | (go_simp; done) | (go_simp; rfl)); intro w19 hw; have hg : w16.grownBy w19 (some go13) := (by rw [hw]; exact HP18.2); have hp_ : Kd.R Kd.float 26 w19 w.heap.size (fun _ => True) (.slice (some ⟨go13, 0, none⟩) x5_1.length co13) y351 := (by rw [hw, Ny351.out]; exact HP18.1); clear HP18; replace BK349 := zN (blk_grown (g := gb349) (o := .cells #[.string ((rd_T62 l0 x14_1).f0), .float .f64 ((rd_T62 l0 x14_1).f1)] 62 (0, 0)) (zK BK349) hg (Kd.R_ne HO_5.out BK349.out (by decide))); replace HO_5 := zN hp_; replace HB := zN (by rw [hw]; exact below_set (HB.out) GB13.out : Below w.heap.size w w19); clear hg hw hp_))
   go_roundg k1
   case measure => have := HK1.out; omega
   case rel => exact ⟨(y351), (fadd x6_1 t350), (wrap64 (x14_1 + 1)), zI, zI, H', ⟨by have := HK1.out; omega⟩, ⟨zR HO_5⟩, ⟨zB1 HB GE349⟩⟩

mutual
def plane_Weigh.j0 : Nat → List (S62) → Nat → List Nat → Nat → Option (Int × Bool)
 | 0, _, _, _, _ => none
 | k + 1, x0, x1, x6, x7 => if 0 ≤ (wrap64 ((x6.length : Int) - 1)) then (if (wrap64 ((x6.length : Int) - 1)) < (x6.length : Int) then (if ((fgtr (rdOf 0 x6 (wrap64 ((x6.length : Int) - 1))) 0) = true) then (if ((fgeq x1 0) = true) then (plane_Weigh.j1 k x0 x1 x6 x7 (rdOf 0 x6 (wrap64 ((x6.length : Int) - 1)))) else (plane_Weigh.j1 k x0 0 x6 x7 (rdOf 0 x6 (wrap64 ((x6.length : Int) - 1))))) else (some (0, false))) else (none)) else (none)
def plane_Weigh.j1 : Nat → List (S62) → Nat → List Nat → Nat → Nat → Option (Int × Bool)
 | 0, _, _, _, _, _ => none
 | k + 1, x0, x1, x6, x7, x8 => if (fmulOk x1 x8) = true then (plane_Weigh.l0 k x1 x6 x7 0 (fmul x1 x8) x0 (x0.length : Int) 0) else (none)
def plane_Weigh.l0 : Nat → Nat → List Nat → Nat → Int → Nat → List (S62) → Int → Int → Option (Int × Bool)
 | 0, _, _, _, _, _, _, _, _ => none
 | k + 1, x1, x6, x7, x9, x10, x43, x44, x45 => if x45 < x44 then (if 0 ≤ x45 then (if x45 < (x43.length : Int) then ((plane_counts.f ((rd_T62 x43 x45).f1) x7).bind fun t363 => (if ((fgtr t363 0) = true) then (if (flss x1 4607182418800017408) = true then (if x45 < (x6.length : Int) then (if (flss x10 (rdOf 0 x6 x45)) = true then (some (x45, true)) else (plane_Weigh.l0 k x1 x6 x7 x45 x10 x43 x44 (wrap64 (x45 + 1)))) else (none)) else (plane_Weigh.l0 k x1 x6 x7 x45 x10 x43 x44 (wrap64 (x45 + 1)))) else (plane_Weigh.l0 k x1 x6 x7 x9 x10 x43 x44 (wrap64 (x45 + 1))))) else (none)) else (none)) else (some (x9, true))
end
def plane_Weigh.f (k : Nat) (l0 : List (S62)) (a1 : Nat) : Option (Int × Bool) := if (l0.length : Int) = 0 then (some (0, false)) else ((plane_sums.f k l0 4607182418800017408).bind fun t352 => (if 0 ≤ (wrap64 ((t352.length : Int) - 1)) then (if (wrap64 ((t352.length : Int) - 1)) < (t352.length : Int) then ((math_IsInf.f (rdOf 0 t352 (wrap64 ((t352.length : Int) - 1))) 1).bind fun t356 => (if t356 = true then ((plane_sums.f k l0 4562146422526312448).bind fun t357 => (plane_Weigh.j0 k l0 a1 t357 4562146422526312448)) else (plane_Weigh.j0 k l0 a1 t352 4607182418800017408))) else (none)) else (none)))
theorem plane_Weigh.mono_l : ∀ k, (∀ y0 y1 y2 y3, LeO (plane_Weigh.j0 k y0 y1 y2 y3) (plane_Weigh.j0 (k + 1) y0 y1 y2 y3)) ∧ (∀ y0 y1 y2 y3 y4, LeO (plane_Weigh.j1 k y0 y1 y2 y3 y4) (plane_Weigh.j1 (k + 1) y0 y1 y2 y3 y4)) ∧ (∀ y0 y1 y2 y3 y4 y5 y6 y7, LeO (plane_Weigh.l0 k y0 y1 y2 y3 y4 y5 y6 y7) (plane_Weigh.l0 (k + 1) y0 y1 y2 y3 y4 y5 y6 y7))
 | 0 => ⟨fun _ _ _ _ r h => by simp [plane_Weigh.j0] at h, fun _ _ _ _ _ r h => by simp [plane_Weigh.j1] at h, fun _ _ _ _ _ _ _ _ r h => by simp [plane_Weigh.l0] at h⟩
 | k + 1 => by
  obtain ⟨ih0, ih1, ih2⟩ := plane_Weigh.mono_l k;refine ⟨?_, ?_, ?_⟩
  ·intro y0 y1 y2 y3;unfold plane_Weigh.j0
   repeat' with_reducible first | exact ih0 _ _ _ _ | exact ih1 _ _ _ _ _ | exact ih2 _ _ _ _ _ _ _ _ | exact plane_sums.mono _ _ _ | exact LeO.refl _ | exact LeO.none _ | refine LeO.ite ?_ ?_ | refine LeO.bind ?_ (fun _ => ?_)
  ·intro y0 y1 y2 y3 y4;unfold plane_Weigh.j1
   repeat' with_reducible first | exact ih0 _ _ _ _ | exact ih1 _ _ _ _ _ | exact ih2 _ _ _ _ _ _ _ _ | exact plane_sums.mono _ _ _ | exact LeO.refl _ | exact LeO.none _ | refine LeO.ite ?_ ?_ | refine LeO.bind ?_ (fun _ => ?_)
  intro y0 y1 y2 y3 y4 y5 y6 y7;unfold plane_Weigh.l0
  repeat' with_reducible first | exact ih0 _ _ _ _ | exact ih1 _ _ _ _ _ | exact ih2 _ _ _ _ _ _ _ _ | exact plane_sums.mono _ _ _ | exact LeO.refl _ | exact LeO.none _ | refine LeO.ite ?_ ?_ | refine LeO.bind ?_ (fun _ => ?_)
theorem plane_Weigh.mono : ∀ a0 a1 k, LeO (plane_Weigh.f k a0 a1) (plane_Weigh.f (k + 1) a0 a1) := by
 intro a0 a1 k;obtain ⟨ih0, ih1, ih2⟩ := plane_Weigh.mono_l k;unfold plane_Weigh.f
 repeat' with_reducible first | exact ih0 _ _ _ _ | exact ih1 _ _ _ _ _ | exact ih2 _ _ _ _ _ _ _ _ | exact plane_sums.mono _ _ _ | exact LeO.refl _ | exact LeO.none _ | refine LeO.ite ?_ ?_ | refine LeO.bind ?_ (fun _ => ?_)
set_option maxHeartbeats 8000000 in
set_option maxRecDepth 100000 in
theorem plane_Weigh.calls (k : Nat) (A0 : Option Addr) (c0 : Nat) (l0 : List (S62)) (a1 : Nat) (r1 : Int) (r2 : Bool) (w : World) (hr0 : Kd.C k62 w A0 l0.length l0) (hc0 : l0.length ≤ c0) (h : plane_Weigh.f k l0 a1 = some (r1, r2)) :
  Calls Tryz.prog 14 #[.slice A0 l0.length c0, .float .f64 a1] w fun e w' => e = .returned (.tuple #[.int .i64 r1, .bool r2]) ∧ Below w.heap.size w w' := by
 have hu62 := Tryz.underlying62;have HR0 := zN hr0;have HC0 := zN hc0;clear hr0 hc0;have HB := zN (Below.refl w.heap.size w);have H : (if (l0.length : Int) = 0 then (some (0, false)) else ((plane_sums.f k l0 4607182418800017408).bind fun t352 => (if 0 ≤ (wrap64 ((t352.length : Int) - 1)) then (if (wrap64 ((t352.length : Int) - 1)) < (t352.length : Int) then ((math_IsInf.f (rdOf 0 t352 (wrap64 ((t352.length : Int) - 1))) 1).bind fun t356 => (if t356 = true then ((plane_sums.f k l0 4562146422526312448).bind fun t357 => (plane_Weigh.j0 k l0 a1 t357 4562146422526312448)) else (plane_Weigh.j0 k l0 a1 t352 4607182418800017408))) else (none)) else (none)))) = some (r1, r2) := h;clear h;by_cases c3 : (l0.length : Int) = 0
 ·rw [zp c3] at H;have c3b0 := beq_iff_eq.mpr c3;have c3b1 := zc.mpr c3;clear c3;simp only [Option.some.injEq, Prod.mk.injEq] at H;obtain ⟨rfl, rfl⟩ := H;go_enter Tryz.func14, Tryz.ntmps14;go_wp2;go_ret2;exact ⟨zE, zB HB⟩
 rw [zn c3] at H;have c3b0 := zb.mpr c3;have c3b1 := bne_iff_ne.mpr c3;have c3b2 : ¬ (l0 = []) := fun h_ => c3 (by rw [h_]; rfl)
 obtain ⟨t352, A4, H⟩ := zA H;(try dsimp only at H);obtain ⟨ji5, hji5⟩ : ∃ j_ : Int, (wrap64 ((t352.length : Int) - 1)) = j_ := ⟨_, rfl⟩;replace H : (if 0 ≤ (ji5) then (if (ji5) < (t352.length : Int) then ((math_IsInf.f (rdOf 0 t352 (ji5)) 1).bind fun t356 => (if t356 = true then ((plane_sums.f k l0 4562146422526312448).bind fun t357 => (plane_Weigh.j0 k l0 a1 t357 4562146422526312448)) else (plane_Weigh.j0 k l0 a1 t352 4607182418800017408))) else (none)) else (none)) = some (r1, r2) := by first | (rw [hji5] at H; exact H) | (simp only [hji5] at H ⊢; exact H)
 (try rw [hji5] at A4);have hji5w : (IntKind.i64.wrap ((t352.length : Int) - 1)) = ji5 := (i64_w _).trans hji5;by_cases c6 : 0 ≤ (ji5);rotate_left
 ·rw [zn c6] at H;exact absurd H (by simp)
 rw [zp c6] at H;have c6b0 := zt c6;clear c6;by_cases c7 : (ji5) < (t352.length : Int);rotate_left
 ·rw [zn c7] at H;exact absurd H (by simp)
 rw [zp c7] at H;have c7b0 := zt c7;clear c7;obtain ⟨t356, A8, H⟩ := zA H;(try dsimp only at H);have HC9 := zN H;clear H;go_enter Tryz.func14, Tryz.ntmps14;go_upto_if 24 with (first | ((with_reducible refine gate_callee (f := 32) rfl ?_); refine zg (some 17) Tryz.func32 #[.slice A0 l0.length c0, .float .f64 4607182418800017408] ?_; (with_reducible refine (plane_sums.calls k _ _ l0 4607182418800017408 t352 _ ?side1 ?side2 A4.out).mono ?_); (case side1 => exact zs HR0.out); (case side2 => exact HC0.out); rintro e w10 ⟨v353, rfl, ho0, hb⟩; refine ⟨_, rfl, ?_⟩; have HO354 := zN (Kd.R_lower ho0 (below_size (zB HB))); replace HB := zk HB hb; (try clear hb); (try clear hb2); (try clear hk); (try clear hi); (try clear ho0); obtain ⟨Ao11, co11, eo11⟩ := Kd.R_slice HO354.out; subst eo11; have p355 : 0 ≤ ((ji5) : Int) := zd zS; have q355 : (ji5) < (t352.length : Int) := zd zS; obtain ⟨ad355, e355, hx355_0⟩ := Kd.at_float (Kd.R_reads' HO354.out).2.2 (ji5) p355 q355; cases e355; replace p355 := zu p355; replace q355 := zu q355) | ((with_reducible refine gate_callee (f := 33) rfl ?_); refine goesL_ (some 24) rfl rfl Tryz.func33 zQ rfl #[.float .f64 (rdOf 0 t352 (ji5)), .int .i64 1] rfl (by (try simp only [List.map_toArray, List.map_cons, List.map_nil]); first | done | (simp only [hji5]; rfl) | rfl | (simp only [List.length_drop, List.length_take]; rfl)) ?_; (with_reducible refine (math_IsInf.calls (rdOf 0 t352 (ji5)) 1 t356 _ A8.out).mono ?_); rintro e w' ⟨rfl, ⟨nd, rfl⟩⟩; refine ⟨_, rfl, ?_⟩))
 (try simp only [Act.put, List.setIfInBounds_toArray, List.set_cons_zero, List.set_cons_succ]);go_cut [6, 7] (fun v6 v7 wc => ∃ (kq : Nat) (x6_8 : List Nat) (x7_8 : Nat), v7 = .float .f64 x7_8 ∧ Aside0 (plane_Weigh.j0 kq l0 a1 x6_8 x7_8 = some (r1, r2)) ∧ Aside0 (kq ≤ k) ∧ Aside0 (Kd.R Kd.float 26 wc w.heap.size (fun _ => True) v6 x6_8) ∧ Aside0 (Below w.heap.size w wc))
 case first =>
  have H := HC9.out;clear HC9;by_cases c12 : t356 = true
  ·subst c12;have H1 := H; rw [zp rfl] at H1;clear H;have H := H1;clear H1;obtain ⟨t357, A13, H⟩ := zA H;(try dsimp only at H);have H' := zN H;clear H;go_wp2_with (first | ((with_reducible refine gate_callee (f := 32) rfl ?_); refine zg (some 27) Tryz.func32 #[.slice A0 l0.length c0, .float .f64 4562146422526312448] ?_; (with_reducible refine (plane_sums.calls k _ _ l0 4562146422526312448 t357 _ ?side1 ?side2 A13.out).mono ?_); (case side1 => exact zs (Kd.C_below HR0.out HB.out)); (case side2 => exact HC0.out); rintro e w14 ⟨v358, rfl, ho0, hb⟩; refine ⟨_, rfl, ?_⟩; have HO359 := zN (Kd.R_lower (Kd.R_new' ho0 (Kd.R_lt (zR HO354))) (below_size (zB HB))); replace HO354 := zN (Kd.R_elder' (zR HO354) (Kd.R_base ho0) hb); replace HB := zk HB hb; (try clear hb); (try clear hb2); (try clear hk); (try clear hi); (try clear ho0)));go_meet
   case rel => exact ⟨_, (t357), (4562146422526312448), zI, H', ⟨by first | omega | exact zh _⟩, ⟨by (with_reducible repeat (first | apply Kd.R_alloc | apply Kd.R_drewN | apply Kd.R_drew)); exact Kd.R_mono HO359.out (fun _ hk => trivial)⟩, ⟨zB HB⟩⟩
  replace c12 := zq.mpr c12;subst c12;have H1 := H; rw [zn (show ¬ (false = true) by decide)] at H1;clear H;have H := H1;clear H1;have H' := zN H;clear H;go_wp2;go_meet
  case rel => exact ⟨_, (t352), (4607182418800017408), zI, H', ⟨by first | omega | exact zh _⟩, ⟨zR HO354⟩, ⟨zB HB⟩⟩
 case rest =>
  clear HC9
  try clear c3
  try clear c3b0
  try clear c3b1
  try clear c3b2
  try clear c6
  try clear c6b0
  try clear c7
  try clear c7b0
  try clear hx355_0
  try clear p355
  try clear q355
  obtain ⟨kq, x6_8, x7_8, rfl, HA, HJ8, HO_6, HB⟩ := hcut;cases kq with
  | zero => exact absurd HA.out (by simp [plane_Weigh.j0])
  | succ kj8 =>
   have H := HA.out;clear HA;simp only [plane_Weigh.j0] at H;obtain ⟨ji15, hji15⟩ : ∃ j_ : Int, (wrap64 ((x6_8.length : Int) - 1)) = j_ := ⟨_, rfl⟩;replace H : (if 0 ≤ (ji15) then (if (ji15) < (x6_8.length : Int) then (if ((fgtr (rdOf 0 x6_8 (ji15)) 0) = true) then (if ((fgeq a1 0) = true) then (plane_Weigh.j1 kj8 l0 a1 x6_8 x7_8 (rdOf 0 x6_8 (ji15))) else (plane_Weigh.j1 kj8 l0 0 x6_8 x7_8 (rdOf 0 x6_8 (ji15)))) else (some (0, false))) else (none)) else (none)) = some (r1, r2) := by first | (rw [hji15] at H; exact H) | (simp only [hji15] at H ⊢; exact H)
   have hji15w : (IntKind.i64.wrap ((x6_8.length : Int) - 1)) = ji15 := (i64_w _).trans hji15;by_cases c16 : 0 ≤ (ji15);rotate_left
   ·rw [zn c16] at H;exact absurd H (by simp)
   rw [zp c16] at H;have c16b0 := zt c16;clear c16;by_cases c17 : (ji15) < (x6_8.length : Int);rotate_left
   ·rw [zn c17] at H;exact absurd H (by simp)
   rw [zp c17] at H;have c17b0 := zt c17;clear c17;by_cases c18 : ((fgtr (rdOf 0 x6_8 (ji15)) 0) = true);rotate_left
   ·rw [zn c18] at H;have c18b0 : (fgtr (rdOf 0 x6_8 (ji15)) 0) = false := by simpa using c18
    clear c18;simp only [Option.some.injEq, Prod.mk.injEq] at H;obtain ⟨rfl, rfl⟩ := H;obtain ⟨Ao39, co39, eo39⟩ := Kd.R_slice HO_6.out;subst eo39;have p360 : 0 ≤ ((ji15) : Int) := zd zS;have q360 : (ji15) < (x6_8.length : Int) := zd zS;obtain ⟨ad360, e360, hx360_0⟩ := Kd.at_float (Kd.R_reads' HO_6.out).2.2 (ji15) p360 q360;cases e360;replace p360 := zu p360;replace q360 := zu q360;go_wp2;go_ret2;exact ⟨by first | rfl | (simp [errW_none, errW_some] <;> rfl) | (simp only [← hji5, ← hji15]; first | rfl | (simp [errW_none, errW_some] <;> rfl)) | (simp [*, errW_none, errW_some] <;> rfl), zB HB⟩
   rw [zp c18] at H;have c18b0 : (fgtr (rdOf 0 x6_8 (ji15)) 0) = true := c18;clear c18;have HC19 := zN H;clear H;obtain ⟨Ao20, co20, eo20⟩ := Kd.R_slice HO_6.out;subst eo20;have p360 : 0 ≤ ((ji15) : Int) := zd zS;have q360 : (ji15) < (x6_8.length : Int) := zd zS;obtain ⟨ad360, e360, hx360_0⟩ := Kd.at_float (Kd.R_reads' HO_6.out).2.2 (ji15) p360 q360;cases e360;replace p360 := zu p360;replace q360 := zu q360;go_upto_if 39 with (fail)
   go_cut [1] (fun v1 wc => ∃ (kq : Nat) (x1_18 : Nat), v1 = .float .f64 x1_18 ∧ Aside0 (plane_Weigh.j1 kq l0 x1_18 x6_8 x7_8 (rdOf 0 x6_8 (ji15)) = some (r1, r2)) ∧ Aside0 (kq ≤ kj8) ∧ Aside0 (Kd.R Kd.float 26 wc w.heap.size (fun _ => True) (.slice (some ad360) x6_8.length co20) x6_8) ∧ Aside0 (Below w.heap.size w wc))
   case first =>
    have H := HC19.out;clear HC19;by_cases c21 : ((fgeq a1 0) = true)
    ·rw [zp c21] at H;have c21b0 : (fgeq a1 0) = true := c21;clear c21;(first | rw [c21b0] | (simp only [i64_w, i32_w]; rw [c21b0]) | skip);have H' := zN H;clear H;go_wp2;go_meet
     case rel => exact ⟨_, (a1), zI, H', ⟨by have := HJ8.out; first | omega | exact zh _⟩, ⟨zR HO_6⟩, ⟨zB HB⟩⟩
    rw [zn c21] at H;have c21b0 : (fgeq a1 0) = false := by simpa using c21
    clear c21;(first | rw [c21b0] | (simp only [i64_w, i32_w]; rw [c21b0]) | skip);have H' := zN H;clear H;go_wp2;go_meet
    case rel => exact ⟨_, (0), zI, H', ⟨by have := HJ8.out; first | omega | exact zh _⟩, ⟨zR HO_6⟩, ⟨zB HB⟩⟩
   case rest =>
    clear HC19
    try clear c3
    try clear c3b0
    try clear c3b1
    try clear c3b2
    try clear c6
    try clear c6b0
    try clear c7
    try clear c7b0
    try clear c16
    try clear c16b0
    try clear c17
    try clear c17b0
    try clear c18
    try clear c18b0
    try clear hx355_0
    try clear hx360_0
    try clear p355
    try clear p360
    try clear q355
    try clear q360
    obtain ⟨kq, x1_18, rfl, HA, HJ18, HO_6, HB⟩ := hcut;cases kq with
    | zero => exact absurd HA.out (by simp [plane_Weigh.j1])
    | succ kj18 =>
     have H := HA.out;clear HA;simp only [plane_Weigh.j1] at H;by_cases c22 : (fmulOk x1_18 (rdOf 0 x6_8 (ji15))) = true;rotate_left
     ·rw [zn c22] at H;exact absurd H (by simp)
     rw [zp c22] at H;have c22b0 := zu c22;have c22b1 := zt c22;clear c22;have H' := zN H;clear H;go_wp2;go_loopg [9, 45] kj18 (fun kq v9 v45 w' => ∃ (x9_3 : Int) (x45_3 : Int), v9 = .int .i64 x9_3 ∧ v45 = .int .i64 x45_3 ∧ Aside0 (plane_Weigh.l0 kq x1_18 x6_8 x7_8 x9_3 (fmul x1_18 (rdOf 0 x6_8 (ji15))) l0 (l0.length : Int) x45_3 = some (r1, r2)) ∧ Aside0 (kq ≤ kj18) ∧ Aside0 (Kd.R Kd.float 26 w' w.heap.size (fun _ => True) (.slice (some ad360) x6_8.length co20) x6_8) ∧ Aside0 (Below w.heap.size w w'))
     case atStart => exact ⟨(0), (0), zI, zI, H', ⟨zh _⟩, ⟨zR HO_6⟩, ⟨zB HB⟩⟩
     case round =>
      clear H'
      try clear c3
      try clear c3b0
      try clear c3b1
      try clear c3b2
      try clear c6
      try clear c6b0
      try clear c7
      try clear c7b0
      try clear c16
      try clear c16b0
      try clear c17
      try clear c17b0
      try clear c18
      try clear c18b0
      try clear c22
      try clear c22b0
      try clear c22b1
      try clear hx355_0
      try clear hx360_0
      try clear p355
      try clear p360
      try clear q355
      try clear q360
      obtain ⟨x9_3, x45_3, rfl, rfl, HA, HK3, HO_6, HB⟩ := hrel;cases gk with
      | zero => exact absurd HA.out (by simp [plane_Weigh.l0])
      | succ k3 =>
       have H := HA.out;clear HA;simp only [plane_Weigh.l0] at H;by_cases c23 : x45_3 < (l0.length : Int);rotate_left
       ·rw [zn c23] at H;have c23b0 := zf c23;clear c23;simp only [Option.some.injEq, Prod.mk.injEq] at H;obtain ⟨rfl, rfl⟩ := H;go_wp2;go_ret2;exact ⟨by first | rfl | (simp [errW_none, errW_some] <;> rfl) | (simp only [← hji5, ← hji15]; first | rfl | (simp [errW_none, errW_some] <;> rfl)) | (simp [*, errW_none, errW_some] <;> rfl), zB HB⟩
       rw [zp c23] at H;have c23b0 := zt c23;clear c23;by_cases c24 : 0 ≤ x45_3;rotate_left
       ·rw [zn c24] at H;exact absurd H (by simp)
       rw [zp c24] at H;have c24b0 := zt c24;clear c24;by_cases c25 : x45_3 < (l0.length : Int);rotate_left
       ·rw [zn c25] at H;exact absurd H (by simp)
       rw [zp c25] at H;have c25b0 := zt c25;clear c25;obtain ⟨t363, A26, H⟩ := zA H;(try dsimp only at H);by_cases c27 : ((fgtr t363 0) = true);rotate_left
       ·rw [zn c27] at H;have c27b0 : (fgtr t363 0) = false := by simpa using c27
        clear c27;have H' := zN H;clear H;have p361 : 0 ≤ (x45_3 : Int) := zd zS;have q361 : x45_3 < (l0.length : Int) := zd zS;obtain ⟨ad361, e361, hx361_0, hx361_1⟩ := at_T62 HR0.out x45_3 p361 q361;cases e361;replace hx361_0 := (HB.out.cell (zw w _ hx361_0)).trans hx361_0;replace hx361_1 := (HB.out.cell (zw w _ hx361_1)).trans hx361_1;replace p361 := zu p361;replace q361 := zu q361;go_wp2_with (first | ((with_reducible refine gate_dst (N := 12) rfl ?_); refine zX #[.string (⟨#[]⟩ : ByteArray), .float .f64 0] 62 rfl ?_; intro gb362 hg w37 hbox hb; replace HO_6 := zN (Kd.R_below (zR HO_6) hb); have BK362 := zN hbox; have GW362 := zY w (zB HB) hg; have GE362 := zY w (zB HB) hg; replace HB := zk HB hb; clear hb hbox hg; obtain ⟨hcz38_0, hcz38_1, hfz38_0, hfz38_1⟩ := zC2 BK362) | ((with_reducible refine gate_callee (f := 34) rfl ?_); refine zg (some 53) Tryz.func34 #[.float .f64 ((rd_T62 l0 x45_3).f1), .float .f64 x7_8] ?_; (with_reducible refine (plane_counts.calls ((rd_T62 l0 x45_3).f1) x7_8 t363 _ A26.out).mono ?_); rintro e w' ⟨rfl, ⟨nd, rfl⟩⟩; refine ⟨_, rfl, ?_⟩));go_roundg k3
        case measure => have := HJ8.out; have := HJ18.out; have := HK3.out; omega
        case rel => exact ⟨(x9_3), (wrap64 (x45_3 + 1)), zI, zI, H', ⟨by have := HJ8.out; have := HJ18.out; have := HK3.out; omega⟩, ⟨by (with_reducible repeat (first | apply Kd.R_alloc | apply Kd.R_drewN | apply Kd.R_drew)); exact Kd.R_mono (Kd.R_far (p := ⟨gb362, 1, none⟩) (Kd.R_far (p := ⟨gb362, 0, none⟩) (Kd.R_types HO_6.out BK362.out (by decide)) (fun _ hk => hk.2) (.string ((rd_T62 l0 x45_3).f0))) (fun _ hk => hk.2) (.float .f64 ((rd_T62 l0 x45_3).f1))) (fun _ hk => trivial)⟩, ⟨zB1 HB GE362⟩⟩
       rw [zp c27] at H;have c27b0 : (fgtr t363 0) = true := c27;clear c27;by_cases c28 : (flss x1_18 4607182418800017408) = true;rotate_left
       ·rw [zn c28] at H;have c28b0 : (flss x1_18 4607182418800017408) = false := by simpa using c28
        clear c28;have H' := zN H;clear H;have p361 : 0 ≤ (x45_3 : Int) := zd zS;have q361 : x45_3 < (l0.length : Int) := zd zS;obtain ⟨ad361, e361, hx361_0, hx361_1⟩ := at_T62 HR0.out x45_3 p361 q361;cases e361;replace hx361_0 := (HB.out.cell (zw w _ hx361_0)).trans hx361_0;replace hx361_1 := (HB.out.cell (zw w _ hx361_1)).trans hx361_1;replace p361 := zu p361;replace q361 := zu q361;go_wp2_with (first | ((with_reducible refine gate_dst (N := 12) rfl ?_); refine zX #[.string (⟨#[]⟩ : ByteArray), .float .f64 0] 62 rfl ?_; intro gb362 hg w35 hbox hb; replace HO_6 := zN (Kd.R_below (zR HO_6) hb); have BK362 := zN hbox; have GW362 := zY w (zB HB) hg; have GE362 := zY w (zB HB) hg; replace HB := zk HB hb; clear hb hbox hg; obtain ⟨hcz36_0, hcz36_1, hfz36_0, hfz36_1⟩ := zC2 BK362) | ((with_reducible refine gate_callee (f := 34) rfl ?_); refine zg (some 53) Tryz.func34 #[.float .f64 ((rd_T62 l0 x45_3).f1), .float .f64 x7_8] ?_; (with_reducible refine (plane_counts.calls ((rd_T62 l0 x45_3).f1) x7_8 t363 _ A26.out).mono ?_); rintro e w' ⟨rfl, ⟨nd, rfl⟩⟩; refine ⟨_, rfl, ?_⟩));go_roundg k3
        case measure => have := HJ8.out; have := HJ18.out; have := HK3.out; omega
        case rel => exact ⟨(x45_3), (wrap64 (x45_3 + 1)), zI, zI, H', ⟨by have := HJ8.out; have := HJ18.out; have := HK3.out; omega⟩, ⟨by (with_reducible repeat (first | apply Kd.R_alloc | apply Kd.R_drewN | apply Kd.R_drew)); exact Kd.R_mono (Kd.R_far (p := ⟨gb362, 1, none⟩) (Kd.R_far (p := ⟨gb362, 0, none⟩) (Kd.R_types HO_6.out BK362.out (by decide)) (fun _ hk => hk.2) (.string ((rd_T62 l0 x45_3).f0))) (fun _ hk => hk.2) (.float .f64 ((rd_T62 l0 x45_3).f1))) (fun _ hk => trivial)⟩, ⟨zB1 HB GE362⟩⟩
       rw [zp c28] at H;have c28b0 : (flss x1_18 4607182418800017408) = true := c28;clear c28;by_cases c29 : x45_3 < (x6_8.length : Int);rotate_left
       ·rw [zn c29] at H;exact absurd H (by simp)
       rw [zp c29] at H;have c29b0 := zt c29;clear c29;by_cases c30 : (flss (fmul x1_18 (rdOf 0 x6_8 (ji15))) (rdOf 0 x6_8 x45_3)) = true
       ·rw [zp c30] at H;have c30b0 : (flss (fmul x1_18 (rdOf 0 x6_8 (ji15))) (rdOf 0 x6_8 x45_3)) = true := c30;clear c30;simp only [Option.some.injEq, Prod.mk.injEq] at H;obtain ⟨rfl, rfl⟩ := H;have p361 : 0 ≤ (x45_3 : Int) := zd zS;have q361 : x45_3 < (l0.length : Int) := zd zS;obtain ⟨ad361, e361, hx361_0, hx361_1⟩ := at_T62 HR0.out x45_3 p361 q361;cases e361;replace hx361_0 := (HB.out.cell (zw w _ hx361_0)).trans hx361_0;replace hx361_1 := (HB.out.cell (zw w _ hx361_1)).trans hx361_1;replace p361 := zu p361;replace q361 := zu q361;go_wp2_with (first | ((with_reducible refine gate_dst (N := 12) rfl ?_); refine zX #[.string (⟨#[]⟩ : ByteArray), .float .f64 0] 62 rfl ?_; intro gb362 hg w31 hbox hb; replace HO_6 := zN (Kd.R_below (zR HO_6) hb); have BK362 := zN hbox; have GW362 := zY w (zB HB) hg; have GE362 := zY w (zB HB) hg; replace HB := zk HB hb; clear hb hbox hg; obtain ⟨hcz32_0, hcz32_1, hfz32_0, hfz32_1⟩ := zC2 BK362) | ((with_reducible refine gate_callee (f := 34) rfl ?_); refine zg (some 53) Tryz.func34 #[.float .f64 ((rd_T62 l0 x45_3).f1), .float .f64 x7_8] ?_; (with_reducible refine (plane_counts.calls ((rd_T62 l0 x45_3).f1) x7_8 t363 _ A26.out).mono ?_); rintro e w' ⟨rfl, ⟨nd, rfl⟩⟩; refine ⟨_, rfl, ?_⟩; have p364 : 0 ≤ (x45_3 : Int) := zd zS; have q364 : x45_3 < (x6_8.length : Int) := zd zS; obtain ⟨ad364, e364, hx364_0⟩ := Kd.at_float (Kd.R_reads' HO_6.out).2.2 x45_3 p364 q364; obtain rfl : ad360 = ad364 := (by injection e364); have hn364_0 : ad360.block ≠ gb362 := Kd.own_blk (Kd.R_ne HO_6.out BK362.out (by decide)); have hn364_1 : ad360.block ≠ gb362 := Kd.own_blk (Kd.R_ne HO_6.out BK362.out (by decide)); replace hx364_0 := (cell_far (p := ⟨gb362, 0, none⟩) (by first | (rw [add_block]; exact hn364_0) | (show (Addr.add _ _).block ≠ _; rw [add_block]; exact hn364_0) | exact hn364_0) (.string ((rd_T62 l0 x45_3).f0))).trans hx364_0; replace hx364_0 := (cell_far (p := ⟨gb362, 1, none⟩) (by first | (rw [add_block]; exact hn364_1) | (show (Addr.add _ _).block ≠ _; rw [add_block]; exact hn364_1) | exact hn364_1) (.float .f64 ((rd_T62 l0 x45_3).f1))).trans hx364_0; clear hn364_0; clear hn364_1; replace p364 := zu p364; replace q364 := zu q364));go_ret2;exact ⟨by first | rfl | (simp [errW_none, errW_some] <;> rfl) | (simp only [← hji5, ← hji15]; first | rfl | (simp [errW_none, errW_some] <;> rfl)) | (simp [*, errW_none, errW_some] <;> rfl), zB1 HB GE362⟩
       rw [zn c30] at H;have c30b0 : (flss (fmul x1_18 (rdOf 0 x6_8 (ji15))) (rdOf 0 x6_8 x45_3)) = false := by simpa using c30
       clear c30;have H' := zN H;clear H;have p361 : 0 ≤ (x45_3 : Int) := zd zS;have q361 : x45_3 < (l0.length : Int) := zd zS;obtain ⟨ad361, e361, hx361_0, hx361_1⟩ := at_T62 HR0.out x45_3 p361 q361;cases e361;replace hx361_0 := (HB.out.cell (zw w _ hx361_0)).trans hx361_0;replace hx361_1 := (HB.out.cell (zw w _ hx361_1)).trans hx361_1;replace p361 := zu p361;replace q361 := zu q361;go_wp2_with (first | ((with_reducible refine gate_dst (N := 12) rfl ?_); refine zX #[.string (⟨#[]⟩ : ByteArray), .float .f64 0] 62 rfl ?_; intro gb362 hg w33 hbox hb; replace HO_6 := zN (Kd.R_below (zR HO_6) hb); have BK362 := zN hbox; have GW362 := zY w (zB HB) hg; have GE362 := zY w (zB HB) hg; replace HB := zk HB hb; clear hb hbox hg; obtain ⟨hcz34_0, hcz34_1, hfz34_0, hfz34_1⟩ := zC2 BK362) | ((with_reducible refine gate_callee (f := 34) rfl ?_); refine zg (some 53) Tryz.func34 #[.float .f64 ((rd_T62 l0 x45_3).f1), .float .f64 x7_8] ?_; (with_reducible refine (plane_counts.calls ((rd_T62 l0 x45_3).f1) x7_8 t363 _ A26.out).mono ?_); rintro e w' ⟨rfl, ⟨nd, rfl⟩⟩; refine ⟨_, rfl, ?_⟩; have p364 : 0 ≤ (x45_3 : Int) := zd zS; have q364 : x45_3 < (x6_8.length : Int) := zd zS; obtain ⟨ad364, e364, hx364_0⟩ := Kd.at_float (Kd.R_reads' HO_6.out).2.2 x45_3 p364 q364; obtain rfl : ad360 = ad364 := (by injection e364); have hn364_0 : ad360.block ≠ gb362 := Kd.own_blk (Kd.R_ne HO_6.out BK362.out (by decide)); have hn364_1 : ad360.block ≠ gb362 := Kd.own_blk (Kd.R_ne HO_6.out BK362.out (by decide)); replace hx364_0 := (cell_far (p := ⟨gb362, 0, none⟩) (by first | (rw [add_block]; exact hn364_0) | (show (Addr.add _ _).block ≠ _; rw [add_block]; exact hn364_0) | exact hn364_0) (.string ((rd_T62 l0 x45_3).f0))).trans hx364_0; replace hx364_0 := (cell_far (p := ⟨gb362, 1, none⟩) (by first | (rw [add_block]; exact hn364_1) | (show (Addr.add _ _).block ≠ _; rw [add_block]; exact hn364_1) | exact hn364_1) (.float .f64 ((rd_T62 l0 x45_3).f1))).trans hx364_0; clear hn364_0; clear hn364_1; replace p364 := zu p364; replace q364 := zu q364));go_roundg k3
       case measure => have := HJ8.out; have := HJ18.out; have := HK3.out; omega
       case rel => exact ⟨(x45_3), (wrap64 (x45_3 + 1)), zI, zI, H', ⟨by have := HJ8.out; have := HJ18.out; have := HK3.out; omega⟩, ⟨by (with_reducible repeat (first | apply Kd.R_alloc | apply Kd.R_drewN | apply Kd.R_drew)); exact Kd.R_mono (Kd.R_far (p := ⟨gb362, 1, none⟩) (Kd.R_far (p := ⟨gb362, 0, none⟩) (Kd.R_types HO_6.out BK362.out (by decide)) (fun _ hk => hk.2) (.string ((rd_T62 l0 x45_3).f0))) (fun _ hk => hk.2) (.float .f64 ((rd_T62 l0 x45_3).f1))) (fun _ hk => trivial)⟩, ⟨zB1 HB GE362⟩⟩

end Go.Proofs.YtpigfccpogmeaaaGreatDoor.S
end
section
namespace Go.Proofs.YtpigfccpogmeaaaGreatDoor.PP
open Go.RowKit Go.Proofs.YtpigfccpogmeaaaGreatDoor.S Go.Proofs.YtpigfccpogmeaaaGreatDoorW.PrintWords Go.Proofs.YtpigfccpogmeaaaGreatDoorW.PrintLast Go.Proofs.YtpigfccpogmeaaaGreatDoorW.PrintMore Go.Proofs.YtpigfccpogmeaaaGreatDoor.FL
abbrev ONE : Nat := 4607182418800017408
abbrev TH : Nat := 4562146422526312448
theorem one_lt : ONE < INF := by decide
theorem th_lt : TH < INF := by decide
def addS (s c : Nat) : Nat := if s < INF then (if c < INF then rnd (val s + val c) else INF) else INF
def prodS (d a : Nat) : Nat := if d < INF then rnd2 (val d * val a) else INF
theorem addS_is {s c : Nat} (hs : s ≤ INF) (hc : c ≤ INF) : faddOk s c = true ∧ fadd s c = addS s c := by
  unfold faddOk fadd addS;by_cases h1 : s < INF
  · by_cases h2 : c < INF
    · rw [add_fin h1 h2, zp h1, zp h2]; exact ⟨rfl, rfl⟩
    obtain rfl : c = INF := by omega
    rw [add_inf_r hs, zp h1, zn h2]; exact ⟨rfl, rfl⟩
  obtain rfl : s = INF := by omega
  rw [add_inf_l hc, zn h1]; exact ⟨rfl, rfl⟩
theorem addS_le (s c : Nat) : addS s c ≤ INF := by
  unfold addS
  split
  · split
    · exact rnd_le _
    exact zh _
  exact zh _
theorem addS_mono {s s' c c' : Nat} (h : s ≤ s') (h' : c ≤ c') : addS s c ≤ addS s' c' := by
  by_cases h1 : s' < INF
  · by_cases h2 : c' < INF
    · unfold addS;rw [zp zO, zp zO, zp h1, zp h2];exact add_mono h h' h1 h2
    have : addS s' c' = INF := by unfold addS; rw [zp h1, zn h2]
    rw [this]; exact addS_le _ _
  have : addS s' c' = INF := by unfold addS; rw [zn h1]
  rw [this]; exact addS_le _ _
theorem addS_zero {s : Nat} (hs : s ≤ INF) : addS s 0 = s := by
  unfold addS;by_cases h : s < INF
  · rw [zp h, zp (by decide), val_zero, Nat.add_zero, rnd_val h]
  rw [zn h]; omega
theorem zero_addS {s : Nat} (hs : s ≤ INF) : addS 0 s = s := by
  unfold addS;by_cases h : s < INF
  · rw [zp (by decide), zp h, val_zero, Nat.zero_add, rnd_val h]
  rw [zp (by decide), zn h]; omega
theorem le_addS_l {s : Nat} (c : Nat) (hs : s ≤ INF) : s ≤ addS s c := by
  have := addS_mono (zh s) (Nat.zero_le c);rw [addS_zero hs] at this;exact this
theorem le_addS_r (s : Nat) {c : Nat} (hc : c ≤ INF) : c ≤ addS s c := by
  have := addS_mono (Nat.zero_le s) (zh c);rw [zero_addS hc] at this;exact this
theorem prodS_is {d a : Nat} (hd : d ≤ INF) (ha : a < INF) (h0 : 0 < a) : fmulOk d a = true ∧ fmul d a = prodS d a := by
  unfold fmulOk fmul prodS;by_cases h1 : d < INF
  · rw [mul_fin h1 ha, zp h1]; exact ⟨rfl, rfl⟩
  obtain rfl : d = INF := by omega
  rw [mul_inf_l ha h0, zn h1]; exact ⟨rfl, rfl⟩
theorem prodS_le (d a : Nat) : prodS d a ≤ INF := by
  unfold prodS
  split
  · exact near_le _ _
  exact zh _
theorem fgtr_is {w : Nat} (h : w < 18446744073709551616) : fgtr w 0 = decide (0 < w ∧ w ≤ INF) := by
  unfold fgtr;rw [Bool.eq_iff_iff, beq_iff_eq, decide_eq_true_eq];exact gt0 h
theorem flss_is {a b : Nat} (ha : a ≤ INF) (hb : b ≤ INF) : flss a b = decide (a < b) := by
  unfold flss;rw [Bool.eq_iff_iff, beq_iff_eq, decide_eq_true_eq, order_nn ha hb]
  constructor
  · intro h; injection h with h; exact Nat.compare_eq_lt.1 h
  intro h; rw [Nat.compare_eq_lt.2 h]
theorem fgtr_nn {a b : Nat} (ha : a ≤ INF) (hb : b ≤ INF) : fgtr a b = decide (b < a) := by
  unfold fgtr;rw [Bool.eq_iff_iff, beq_iff_eq, decide_eq_true_eq, order_nn ha hb]
  constructor
  · intro h; injection h with h; exact Nat.compare_eq_gt.1 h
  intro h; rw [Nat.compare_eq_gt.2 h]
theorem isInf_is {s : Nat} (hs : s ≤ INF) : math_IsInf.f s 1 = some (decide (s = INF)) := by
  unfold math_IsInf.f;rw [zn zO, zn zO, fgtr_nn hs (by decide)]
  congr 1
  rw [decide_eq_decide];unfold INF at *;omega
def cntW (t w : Nat) : Nat := if 0 < w ∧ w < INF then rnd2 (val w * val t) else 0
theorem cntW_le (t w : Nat) : cntW t w ≤ INF := by
  unfold cntW
  split
  · exact near_le _ _
  exact Nat.zero_le _
theorem counts_is {t w : Nat} (ht : t < INF) (hw : w < 18446744073709551616) : plane_counts.f w t = some (cntW t w) := by
  unfold plane_counts.f cntW;rw [fgtr_is hw];by_cases h1 : 0 < w ∧ w ≤ INF
  · rw [zt h1, zp rfl, isInf_is h1.2];by_cases h2 : w = INF
    · have e : ¬ (0 < w ∧ w < INF) := by omega
      rw [zt h2, zn e];rfl
    have e : 0 < w ∧ w < INF := by omega
    rw [zf h2, zp e];unfold fmulOk fmul;rw [mul_fin e.2 ht];rfl
  have e : ¬ (0 < w ∧ w < INF) := by omega
  rw [zf h1, zn e];rfl
def sumAt (t : Nat) (l : List S62) : Nat := l.foldl (fun s x => addS s (cntW t x.f1)) 0
theorem sumAt_le (t : Nat) (l : List S62) : sumAt t l ≤ INF := by
  unfold sumAt;have : ∀ (l : List S62) (s : Nat), s ≤ INF → l.foldl (fun s x => addS s (cntW t x.f1)) s ≤ INF := by
    intro l
    induction l with
    | nil => intro s hs; exact hs
    | cons x l ih => intro s _; exact ih _ (addS_le _ _)
  exact this l 0 (Nat.zero_le _)
def sumsL (t : Nat) (l : List S62) : List Nat := (List.range l.length).map (fun i => sumAt t (l.take (i + 1)))
theorem rd44_drop {l : List S62} {i : Nat} (h : i < l.length) : l.drop i = rd_T62 l (i : Int) :: l.drop (i + 1) := by
  rw [List.drop_eq_getElem_cons h];simp [rd_T62, List.getD_eq_getElem?_getD, zr h]
theorem rd44_take {l : List S62} {i : Nat} (h : i < l.length) : l.take (i + 1) = l.take i ++ [rd_T62 l (i : Int)] := by
  rw [List.take_add_one, zr h];simp [rd_T62, List.getD_eq_getElem?_getD, zr h]
theorem rd44_mem {l : List S62} {i : Nat} (h : i < l.length) : rd_T62 l (i : Int) ∈ l := List.mem_of_mem_drop (i := i) (by rw [rd44_drop h]; exact List.mem_cons_self)
theorem sumAt_step (t : Nat) {l : List S62} {i : Nat} (h : i < l.length) : sumAt t (l.take (i + 1)) = addS (sumAt t (l.take i)) (cntW t (rd_T62 l (i : Int)).f1) := by
  rw [rd44_take h];unfold sumAt;rw [List.foldl_append];rfl
theorem sums_is {t : Nat} (ht : t < INF) (l : List S62) (hl : l.length ≤ 200) (hw : ∀ y ∈ l, y.f1 < 18446744073709551616) : Ev (fun k => plane_sums.f k l t) (sumsL t l) := by
  unfold plane_sums.f;refine Ev.pos zO (Ev.pos (by rw [Int.toNat_natCast]; omega) ?_);rw [Int.toNat_natCast];have loop : ∀ (d i : Nat), i + d = l.length → Ev (fun k => plane_sums.l0 k t ((sumsL t l).take i ++ List.replicate d 0) (sumAt t (l.take i)) l (l.length : Int) (i : Int)) (sumsL t l) := by
    intro d
    induction d with
    | zero =>
      intro i hi;refine Ev.step (fun k => by simp only [plane_sums.l0]; rfl) (Ev.neg zO (Ev.ret ?_));rw [List.take_of_length_le (by unfold sumsL; rw [List.length_map, List.length_range]; omega)];simp
    | succ d ih =>
      intro i hi;have h1 : i < l.length := by omega
      obtain ⟨a1, a2⟩ := addS_is (sumAt_le t (l.take i)) (cntW_le t (rd_T62 l (i : Int)).f1);have hsl : (sumsL t l).length = l.length := by unfold sumsL; rw [List.length_map, List.length_range]
      have hlen : ((sumsL t l).take i ++ List.replicate (d + 1) 0).length = l.length := by
        rw [List.length_append, List.length_take, List.length_replicate]; omega
      refine Ev.step (fun k => by simp only [plane_sums.l0]; rfl) (Ev.pos zO (Ev.pos zO (Ev.pos zO (Ev.call (counts_is ht (hw _ (rd44_mem h1))) (Ev.pos a1 ?_)))));refine Ev.pos (by rw [hlen]; omega) ?_;have hw : wrap64 ((i : Int) + 1) = ((i + 1 : Nat) : Int) := by unfold wrap64; omega
      rw [a2, ← sumAt_step t h1, hw, Int.toNat_natCast];have e : ((sumsL t l).take i ++ List.replicate (d + 1) 0).set i (sumAt t (l.take (i + 1))) = (sumsL t l).take (i + 1) ++ List.replicate d 0 := by
        have h2 : (sumsL t l)[i]? = some (sumAt t (l.take (i + 1))) := by
          unfold sumsL;rw [List.getElem?_map, List.getElem?_range h1];rfl
        have h3 : (sumsL t l).take (i + 1) = (sumsL t l).take i ++ [sumAt t (l.take (i + 1))] := by
          rw [List.take_add_one (l := sumsL t l), h2];rfl
        rw [List.set_append_right _ _ (by rw [List.length_take]; omega), h3];rw [show i - ((sumsL t l).take i).length = 0 by rw [List.length_take]; omega];simp [List.replicate_succ]
      rw [e];exact ih (i + 1) zO
  exact loop l.length 0 zO
def pick (t : Nat) (S : Nat → Nat) (d x : Nat) : List S62 → Nat → Nat → Nat
  | [], _, last => last
  | y :: l, i, last => if 0 < cntW t y.f1 then (if d < ONE ∧ x < S i then i else pick t S d x l (i + 1) i) else pick t S d x l (i + 1) last
theorem pick_is {t : Nat} (ht : t < INF) (l : List S62) (hl : l.length ≤ 200) (hw : ∀ y ∈ l, y.f1 < 18446744073709551616) {D X d x : Nat} (hD : flss D ONE = decide (d < ONE)) (hX : ∀ s, s ≤ INF → flss X s = decide (x < s)) : ∀ (n i : Nat), i + n = l.length → ∀ last : Nat,
    Ev (fun k => plane_Weigh.l0 k D (sumsL t l) t (last : Int) X l (l.length : Int) (i : Int)) ((pick t (fun i => sumAt t (l.take (i + 1))) d x (l.drop i) i last : Int), true) := by
  intro n
  induction n with
  | zero =>
    intro i hi last;refine Ev.step (fun k => by simp only [plane_Weigh.l0]; rfl) (Ev.neg zO (Ev.ret ?_));rw [List.drop_eq_nil_of_le zO];rfl
  | succ n ih =>
    intro i hi last;have h1 : i < l.length := by omega
    have hst : wrap64 ((i : Int) + 1) = ((i + 1 : Nat) : Int) := by unfold wrap64; omega
    have hsl : (sumsL t l).length = l.length := by unfold sumsL; rw [List.length_map, List.length_range]
    have hrd : rdOf 0 (sumsL t l) (i : Int) = sumAt t (l.take (i + 1)) := by
      unfold rdOf sumsL;rw [Int.toNat_natCast, List.getD_eq_getElem?_getD, List.getElem?_map, List.getElem?_range h1];rfl
    refine Ev.step (fun k => by simp only [plane_Weigh.l0]; rfl) (Ev.pos zO (Ev.pos zO (Ev.pos zO (Ev.call (counts_is ht (hw _ (rd44_mem h1))) ?_))));rw [hst, hrd, rd44_drop h1, hD, hX _ (sumAt_le _ _)];generalize hc : cntW t (rd_T62 l (i : Int)).f1 = c;have hcl : c ≤ INF := by rw [← hc]; exact cntW_le _ _
    rw [fgtr_nn hcl (Nat.zero_le _)];simp only [pick, hc];by_cases h2 : 0 < c;rotate_left
    · rw [zn h2];exact Ev.neg (by simp only [decide_eq_true_eq]; exact h2) (ih (i + 1) zO last)
    rw [zp h2];refine Ev.pos (zt h2) ?_;by_cases h3 : d < ONE
    · refine Ev.pos (zt h3) (Ev.pos (by rw [hsl]; omega) ?_);by_cases h4 : x < sumAt t (l.take (i + 1))
      · rw [zp ⟨h3, h4⟩];exact Ev.pos (zt h4) (Ev.ret rfl)
      rw [zn (fun h => h4 h.2)];exact Ev.neg (by simp [h4]) (ih (i + 1) zO i)
    rw [zn (fun h => h3 h.1)];exact Ev.neg (by simp only [decide_eq_true_eq]; exact h3) (ih (i + 1) zO i)
def TT (l : List S62) : Nat := if sumAt ONE l = INF then TH else ONE
def allW (l : List S62) : Nat := sumAt (TT l) l
theorem TT_lt (l : List S62) : TT l < INF := by unfold TT; split; exact th_lt; exact one_lt
theorem fold_bound (t B : Nat) : ∀ (l : List S62) (s s' : Nat), s ≤ s' → (∀ y ∈ l, cntW t y.f1 ≤ B) → ∀ n, l.length ≤ n → s' ≤ INF → l.foldl (fun s x => addS s (cntW t x.f1)) s ≤ (List.range n).foldl (fun s _ => addS s B) s'
  | [], s, s', h, _, n, _, h' => by
    have : ∀ (l : List Nat) (s' : Nat), s ≤ s' → s' ≤ INF → s ≤ l.foldl (fun s _ => addS s B) s' := by
      intro l
      induction l with
      | nil => intro s' h _; exact h
      | cons x l ih => intro s' h h'; exact ih _ (Nat.le_trans h (le_addS_l B h')) (addS_le _ _)
    exact this _ _ h h'
  | y :: l, s, s', h, hB, n, hn, h' => by
    obtain ⟨m, rfl⟩ : ∃ m, n = m + 1 := ⟨n - 1, by simp at hn; omega⟩;rw [List.range_succ_eq_map, List.foldl_cons, List.foldl_cons, List.foldl_map];exact fold_bound t B l _ _ (addS_mono h (hB y List.mem_cons_self)) (fun z hz => hB z (List.mem_cons_of_mem _ hz)) m (by simpa using hn) (addS_le _ _)
theorem great_sum : (List.range 200).foldl (fun s _ => addS s (cntW TH 9218868437227405311)) 0 < INF := by decide +kernel
theorem small_sum : (List.range 200).foldl (fun s _ => addS s 103582791429521408) 0 < INF := by decide +kernel
theorem small_pos : 0 < rnd2 (val 103582791429521408 * val TH) := by decide +kernel
theorem cntW_great (w : Nat) : cntW TH w ≤ cntW TH 9218868437227405311 := by
  have e : cntW TH 9218868437227405311 = rnd2 (val 9218868437227405311 * val TH) := zp (by decide);rw [e];unfold cntW
  split
  · rename_i h
    unfold INF at h;exact mul_mono zO (by decide)
  exact Nat.zero_le _
theorem allW_lt (l : List S62) (hl : l.length ≤ 200) : allW l < INF := by
  unfold allW TT
  split
  · exact Nat.lt_of_le_of_lt (fold_bound TH _ l 0 0 (zh _) (fun y _ => cntW_great y.f1) 200 hl (Nat.zero_le _)) great_sum
  rename_i h
  have := sumAt_le ONE l;omega
theorem fold_ge (t : Nat) : ∀ (l : List S62) (s : Nat), s ≤ INF → s ≤ l.foldl (fun s x => addS s (cntW t x.f1)) s ∧ ∀ y ∈ l, cntW t y.f1 ≤ l.foldl (fun s x => addS s (cntW t x.f1)) s
  | [], s, _ => ⟨zh _, by simp⟩
  | y :: l, s, hs => by
    obtain ⟨i1, i2⟩ := fold_ge t l (addS s (cntW t y.f1)) (addS_le _ _);rw [List.foldl_cons];refine ⟨Nat.le_trans (le_addS_l _ hs) i1, fun z hz => ?_⟩
    rcases List.mem_cons.1 hz with rfl | hz
    · exact Nat.le_trans (le_addS_r _ (cntW_le _ _)) i1
    exact i2 z hz
theorem sum_ge (t : Nat) (l : List S62) {y : S62} (hy : y ∈ l) : cntW t y.f1 ≤ sumAt t l := (fold_ge t l 0 (Nat.zero_le _)).2 y hy
theorem sum_zero (t : Nat) : ∀ (l : List S62), (∀ y ∈ l, cntW t y.f1 = 0) → sumAt t l = 0 := by
  unfold sumAt;intro l
  induction l with
  | nil => intro _; rfl
  | cons y l ih =>
    intro h;rw [List.foldl_cons, h y List.mem_cons_self, addS_zero (Nat.zero_le _)];exact ih (fun z hz => h z (List.mem_cons_of_mem _ hz))
theorem cntW_one {w : Nat} (h0 : 0 < w) (h : w < INF) : cntW ONE w = w := by
  unfold cntW;rw [zp ⟨h0, h⟩];exact FL.mul_one h
theorem cntW_pos {t w : Nat} (h : 0 < cntW t w) : 0 < w ∧ w < INF := by
  unfold cntW at h
  split at h
  · assumption
  omega
theorem all_pos (l : List S62) (hl : l.length ≤ 200) : 0 < allW l ↔ ∃ y ∈ l, 0 < y.f1 ∧ y.f1 < INF := by
  constructor
  · intro h
    rcases Classical.em (∃ y ∈ l, 0 < cntW (TT l) y.f1) with ⟨y, hy, hc⟩ | hn
    · exact ⟨y, hy, cntW_pos hc⟩
    exfalso
    have : allW l = 0 := sum_zero _ l (fun y hy => by
      rcases Nat.eq_zero_or_pos (cntW (TT l) y.f1) with e | e
      · exact e
      exact absurd ⟨y, hy, e⟩ hn)
    omega
  rintro ⟨y, hy, h0, h1⟩;unfold allW TT
  split
  rotate_left
  · have := sum_ge ONE l hy;rw [cntW_one h0 h1] at this;omega
  rename_i hI
  rcases Nat.eq_zero_or_pos (sumAt TH l) with e | e
  rotate_left
  · exact e
  exfalso
  have hb : ∀ z ∈ l, cntW ONE z.f1 ≤ 103582791429521408 := by
    intro z hz;have h3 := sum_ge TH l hz;by_cases h4 : 0 < z.f1 ∧ z.f1 < INF
    · rw [cntW_one h4.1 h4.2]
      rcases Nat.lt_or_ge z.f1 103582791429521408 with h5 | h5
      · omega
      exfalso
      have h6 : rnd2 (val 103582791429521408 * val TH) ≤ rnd2 (val z.f1 * val TH) := mul_mono h5 h4.2;have h7 : cntW TH z.f1 = rnd2 (val z.f1 * val TH) := zp h4;have := small_pos;omega
    have : cntW ONE z.f1 = 0 := zn h4;omega
  have := fold_bound ONE _ l 0 0 (zh _) hb 200 hl (Nat.zero_le _);have h2 := small_sum;have h3 : sumAt ONE l = l.foldl (fun s x => addS s (cntW ONE x.f1)) 0 := rfl;omega
def weighF (l : List S62) (d : Nat) : Int × Bool := if 0 < allW l then ((pick (TT l) (fun i => sumAt (TT l) (l.take (i + 1))) (eff d) (prodS (eff d) (allW l)) l 0 0 : Int), true) else (0, false)
theorem last_is' (t : Nat) (l : List S62) (h : 0 < l.length) : rdOf 0 (sumsL t l) (((l.length - 1 : Nat) : Int)) = sumAt t l := by
  unfold rdOf sumsL;rw [Int.toNat_natCast, List.getD_eq_getElem?_getD, List.getElem?_map, List.getElem?_range zO];simp only [Option.map_some, Option.getD_some];rw [List.take_of_length_le zO]
theorem Weigh_is (l : List S62) (hl : l.length ≤ 200) (hw : ∀ y ∈ l, y.f1 < 18446744073709551616) (d : Nat) (hd : d < 18446744073709551616) : Ev (fun k => plane_Weigh.f k l d) (weighF l d) := by
  unfold plane_Weigh.f;by_cases h0 : l.length = 0
  · refine Ev.pos zO (Ev.ret ?_);have : l = [] := List.length_eq_zero_iff.1 h0;subst this;unfold weighF allW;rw [zn (by rw [show sumAt (TT []) [] = 0 from rfl]; omega)]
  have hp : 0 < l.length := by omega
  have hsl : ∀ t, (sumsL t l).length = l.length := fun t => by unfold sumsL; rw [List.length_map, List.length_range]
  have hlast : wrap64 ((l.length : Int) - 1) = ((l.length - 1 : Nat) : Int) := by unfold wrap64; omega
  have rest : Ev (fun k => plane_Weigh.j0 k l d (sumsL (TT l) l) (TT l)) (weighF l d) := by
    refine Ev.step (fun k => by simp only [plane_Weigh.j0]; rfl) ?_;rw [hsl, hlast, last_is' _ l hp];refine Ev.pos zO (Ev.pos zO ?_);have hal := allW_lt l hl
    show Ev (fun k => if fgtr (allW l) 0 = true then _ else _) _
    rw [fgtr_nn (Nat.le_of_lt hal) (Nat.zero_le _)];by_cases h1 : 0 < allW l;rotate_left
    · unfold weighF;rw [zn h1];exact Ev.neg (by simp only [decide_eq_true_eq]; exact h1) (Ev.ret rfl)
    refine Ev.pos (zt h1) ?_;unfold weighF;rw [zp h1];have go : ∀ D, D ≤ INF → D = eff d → Ev (fun k => plane_Weigh.j1 k l D (sumsL (TT l) l) (TT l) (allW l)) ((pick (TT l) (fun i => sumAt (TT l) (l.take (i + 1))) (eff d) (prodS (eff d) (allW l)) l 0 0 : Int), true) := by
      intro D hD he;rw [← he];obtain ⟨m1, m2⟩ := prodS_is hD hal h1;refine Ev.step (fun k => by simp only [plane_Weigh.j1]; rfl) (Ev.pos m1 ?_);rw [m2];exact pick_is (TT_lt l) l hl hw (flss_is hD (Nat.le_of_lt one_lt)) (fun s hs => flss_is (prodS_le _ _) hs) l.length 0 zO 0
    have hge : fgeq d 0 = true ↔ (d ≤ INF ∨ d = NEG0) := by
      unfold fgeq;rw [Bool.or_eq_true, beq_iff_eq, beq_iff_eq];exact geq0 hd
    by_cases h2 : fgeq d 0 = true;rotate_left
    · refine Ev.neg h2 ?_;refine go 0 (Nat.zero_le _) ?_;unfold eff;rw [zn (fun h => h2 (hge.2 (Or.inl h)))]
    refine Ev.pos h2 ?_
    rcases hge.1 h2 with h3 | h3
    · exact go d h3 (by unfold eff; rw [zp h3])
    subst h3;have e0 : eff NEG0 = 0 := zn (by decide);rw [e0];have hm : fmulOk NEG0 (allW l) = true ∧ fmul NEG0 (allW l) = NEG0 := by
      unfold fmulOk fmul;rw [show NEG0 = 9223372036854775808 from rfl, mul_neg0 hal];exact ⟨rfl, rfl⟩
    refine Ev.step (fun k => by simp only [plane_Weigh.j1]; rfl) (Ev.pos hm.1 ?_);rw [show fmul NEG0 (sumAt (TT l) l) = NEG0 from hm.2];have hp0 : prodS 0 (allW l) = 0 := by
      unfold prodS;rw [zp (by decide), val_zero, Nat.zero_mul];exact near_zero _
    rw [hp0];have hl0 : ∀ s, s ≤ INF → flss NEG0 s = decide (0 < s) := by
      intro s hs;have := flss_is (Nat.zero_le _) hs;rw [← this];unfold flss;rw [show NEG0 = 9223372036854775808 from rfl, order_neg0 hs]
    exact pick_is (TT_lt l) l hl hw (hl0 _ (Nat.le_of_lt one_lt)) hl0 l.length 0 zO 0
  refine Ev.neg zO (Ev.bind (sums_is one_lt l hl hw) ?_);rw [hsl, hlast, last_is' _ l hp];refine Ev.pos zO (Ev.pos zO (Ev.call (isInf_is (sumAt_le _ _)) ?_));by_cases h1 : sumAt ONE l = INF
  · refine Ev.pos (zt h1) (Ev.bind (sums_is th_lt l hl hw) ?_);have : TT l = TH := by unfold TT; rw [zp h1]
    rw [this] at rest;exact rest
  have : TT l = ONE := by unfold TT; rw [zn h1]
  rw [this] at rest;exact Ev.neg (by simp only [decide_eq_true_eq]; exact h1) rest
end Go.Proofs.YtpigfccpogmeaaaGreatDoor.PP
end
section
namespace Go.Proofs.YtpigfccpogmeaaaGreatDoor.S
open Go.RowKit Go.Proofs.YtpigfccpogmeaaaGreatDoorW.PrintWords Go.Proofs.YtpigfccpogmeaaaGreatDoorW.PrintLast Go.Proofs.YtpigfccpogmeaaaGreatDoorW.PrintMore
attribute [local go_sem] max2_int min2_int max_two min_two max_three min_three max_four min_four
attribute [local go_sem] fbin_eql fbin_neq fbin_lss fbin_leq fbin_gtr fbin_geq frun_add frun_sub frun_mul frun_quo frun_store fun_neg fcv_int fcv_same fb88 fb89
set_option linter.unusedVariables false
set_option linter.unusedSimpArgs false
def digB (b : UInt8) : Bool := decide (48 ≤ b.toNat ∧ b.toNat ≤ 57)
theorem dig_at {s : ByteArray} (h : s.data.toList.all digB = true) (i : Nat) (hi : i < s.size) : 48 ≤ (s[i]'hi).toNat ∧ (s[i]'hi).toNat ≤ 57 := by
 have hm : s[i]'hi ∈ s.data.toList := by
  have : s[i]'hi = s.data[i]'hi := rfl;rw [this, Array.mem_toList_iff];exact Array.getElem_mem _
 have := List.all_eq_true.1 h _ hm;simpa [digB] using this
theorem dig_all {s : ByteArray} (h : ∀ (i : Nat) (hi : i < s.size), 48 ≤ (s[i]'hi).toNat ∧ (s[i]'hi).toNat ≤ 57) : s.data.toList.all digB = true := by
 rw [List.all_eq_true];intro x hx;rw [Array.mem_toList_iff] at hx;obtain ⟨i, hi, rfl⟩ := Array.mem_iff_getElem.1 hx;have := h i hi;have h2 : s[i]'hi = s.data[i]'hi := rfl;rw [h2] at this;simp [digB, this]
mutual
def head_HostX.j0 : Nat → ByteArray → Bool → Option (ByteArray × Bool)
 | 0, _, _ => none
 | k + 1, x4, x36 => if x36 = true then (some ((⟨#[]⟩ : ByteArray), false)) else ((strings_Split.f x4 (⟨#[46]⟩ : ByteArray)).bind fun t292 => (head_HostX.l0 k x4 t292 (t292.length : Int) 0))
def head_HostX.l0 : Nat → ByteArray → List ByteArray → Int → Int → Option (ByteArray × Bool)
 | 0, _, _, _, _ => none
 | k + 1, x4, x38, x39, x40 => if x40 < x39 then (if 0 ≤ x40 then (if x40 < (x38.length : Int) then (head_HostX.l1 k x4 (rdOf ByteArray.empty x38 x40) x38 x39 x40 ((rdOf ByteArray.empty x38 x40).size : Int) 0) else (none)) else (none)) else ((head_lower.f x4).bind fun t295 => (some (t295, true)))
def head_HostX.l1 : Nat → ByteArray → ByteArray → List ByteArray → Int → Int → Int → Int → Option (ByteArray × Bool)
 | 0, _, _, _, _, _, _, _ => none
 | k + 1, x4, x10, x38, x39, x40, x45, x46 => if x46 < x45 then (if 0 ≤ x46 then (if x46 < (x10.size : Int) then ((head_alnum.f (bt x10 x46)).bind fun t297 => (if t297 = true then (head_HostX.l1 k x4 x10 x38 x39 x40 x45 (wrap64 (x46 + 1))) else (if (bt x10 x46) = 45 then (head_HostX.l1 k x4 x10 x38 x39 x40 x45 (wrap64 (x46 + 1))) else (some ((⟨#[]⟩ : ByteArray), false))))) else (none)) else (none)) else (if x10.toList = ([] : List UInt8) then (some ((⟨#[]⟩ : ByteArray), false)) else (head_HostX.l0 k x4 x38 x39 (wrap64 (x40 + 1))))
end
def head_HostX.f (k : Nat) (a0 : ByteArray) : Option (ByteArray × Bool) := (strings_Cut.f a0 (⟨#[58]⟩ : ByteArray)).bind fun bt289 => (if (bt289.2.1.size : Int) > 5 then (head_HostX.j0 k bt289.1 true) else (head_HostX.j0 k bt289.1 (decide ((bt289.1.size : Int) > 64))))
theorem head_HostX.mono_l : ∀ k, (∀ y0 y1, LeO (head_HostX.j0 k y0 y1) (head_HostX.j0 (k + 1) y0 y1)) ∧ (∀ y0 y1 y2 y3, LeO (head_HostX.l0 k y0 y1 y2 y3) (head_HostX.l0 (k + 1) y0 y1 y2 y3)) ∧ (∀ y0 y1 y2 y3 y4 y5 y6, LeO (head_HostX.l1 k y0 y1 y2 y3 y4 y5 y6) (head_HostX.l1 (k + 1) y0 y1 y2 y3 y4 y5 y6))
 | 0 => ⟨fun _ _ r h => by simp [head_HostX.j0] at h, fun _ _ _ _ r h => by simp [head_HostX.l0] at h, fun _ _ _ _ _ _ _ r h => by simp [head_HostX.l1] at h⟩
 | k + 1 => by
  obtain ⟨ih0, ih1, ih2⟩ := head_HostX.mono_l k;refine ⟨?_, ?_, ?_⟩
  ·intro y0 y1;unfold head_HostX.j0
   repeat' with_reducible first | exact ih0 _ _ | exact ih1 _ _ _ _ | exact ih2 _ _ _ _ _ _ _ | exact LeO.refl _ | exact LeO.none _ | refine LeO.ite ?_ ?_ | refine LeO.bind ?_ (fun _ => ?_)
  ·intro y0 y1 y2 y3;unfold head_HostX.l0
   repeat' with_reducible first | exact ih0 _ _ | exact ih1 _ _ _ _ | exact ih2 _ _ _ _ _ _ _ | exact LeO.refl _ | exact LeO.none _ | refine LeO.ite ?_ ?_ | refine LeO.bind ?_ (fun _ => ?_)
  intro y0 y1 y2 y3 y4 y5 y6;unfold head_HostX.l1
  repeat' with_reducible first | exact ih0 _ _ | exact ih1 _ _ _ _ | exact ih2 _ _ _ _ _ _ _ | exact LeO.refl _ | exact LeO.none _ | refine LeO.ite ?_ ?_ | refine LeO.bind ?_ (fun _ => ?_)
theorem head_HostX.mono : ∀ a0 k, LeO (head_HostX.f k a0) (head_HostX.f (k + 1) a0) := by
 intro a0 k;obtain ⟨ih0, ih1, ih2⟩ := head_HostX.mono_l k;unfold head_HostX.f
 repeat' with_reducible first | exact ih0 _ _ | exact ih1 _ _ _ _ | exact ih2 _ _ _ _ _ _ _ | exact LeO.refl _ | exact LeO.none _ | refine LeO.ite ?_ ?_ | refine LeO.bind ?_ (fun _ => ?_)
set_option maxHeartbeats 8000000 in
set_option maxRecDepth 100000 in
theorem head_HostX.calls (k : Nat) (a0 : ByteArray) (r1 : ByteArray) (r2 : Bool) (w : World) (hml : ML w) (hD : ∀ (r1' r2' : ByteArray) (r3' : Bool), strings_Cut.f a0 (⟨#[58]⟩ : ByteArray) = some (r1', r2', r3') → r2'.data.toList.all digB = true) (h : head_HostX.f k a0 = some (r1, r2)) :
  Calls Tryz.prog 27 #[.string a0] w fun e w' => e = .returned (.tuple #[.string r1, .bool r2]) ∧ Below w.heap.size w w' := by
 have HML := zN hml;clear hml;have HB := zN (Below.refl w.heap.size w);have H : ((strings_Cut.f a0 (⟨#[58]⟩ : ByteArray)).bind fun bt289 => (if (bt289.2.1.size : Int) > 5 then (head_HostX.j0 k bt289.1 true) else (head_HostX.j0 k bt289.1 (decide ((bt289.1.size : Int) > 64))))) = some (r1, r2) := h;clear h;obtain ⟨⟨t289, t290, t291⟩, A2, H⟩ := zA H;(try dsimp only at H);have HC3 := zN H;clear H;go_enter Tryz.func27, Tryz.ntmps27;go_wp2_with (first | ((with_reducible refine gate_callee (f := 55) rfl ?_); refine zg (some 14) Tryz.func55 #[.string a0, .string (⟨#[58]⟩ : ByteArray)] ?_; (with_reducible refine (strings_Cut.calls a0 (⟨#[58]⟩ : ByteArray) t289 t290 t291 _ ?side1 A2.out).mono ?_); (case side1 => exact ML.keep HML.out (zB HB)); rintro e w' ⟨rfl, ⟨nd, rfl⟩⟩; refine ⟨_, rfl, ?_⟩));have HD := zN (hD _ _ _ A2.out);clear hD;obtain ⟨wd, hwd⟩ : ∃ wd, w.drewN nd = wd := ⟨_, rfl⟩;have hbd : Below w.heap.size w wd := hwd ▸ pw_below_drewN (Below.refl _ _) nd;have hsz : wd.heap.size = w.heap.size := by rw [← hwd]; rfl
 rw [hwd];clear hwd;have HBD := zN hbd;clear hbd HB;go_loopw [8] (fun v8 wr => ∃ pos : Nat, wr = wd.iter t290 pos ∧ Aside0 (pos ≤ t290.size)) (fun _ w' => t290.size - w'.iterPos wd.heap.size)
 case atStart => exact ⟨0, rfl, ⟨Nat.zero_le _⟩⟩
 obtain ⟨pos, rfl, HP⟩ := hrel;by_cases hp : pos < t290.size
 ·have hdig := dig_at HD.out pos hp;have hnx : ∀ ty, (Instr.next (.pointer (some ⟨w.heap.size, 0, none⟩)) true ty).run Tryz.prog (wd.iter t290 pos) = .ok (.tuple #[.bool true, .int .i64 pos, .int .i32 (t290[pos]'hp).toNat]) (wd.iter t290 (pos + 1)) := fun ty => by rw [← hsz]; exact run_next_ascii wd t290 pos ty hp zO
  generalize hx : (((t290[pos]'hp).toNat : Nat) : Int) = x at hnx;have hx1 : 48 ≤ x := by omega
  have hx2 : x ≤ 57 := by omega
  clear hx hdig;go_wp2;go_roundw
  case rel => exact ⟨pos + 1, rfl, ⟨zO⟩⟩
  case measure =>
   simp;omega
 have hnx : ∀ ty, (Instr.next (.pointer (some ⟨w.heap.size, 0, none⟩)) true ty).run Tryz.prog (wd.iter t290 pos) = .ok (.tuple #[.bool false]) (wd.iter t290 pos) := fun ty => by rw [← hsz]; exact run_next_end wd t290 pos ty hp
 have HB := zN (show Below w.heap.size w (wd.iter t290 pos) from below_alloc HBD.out _);clear HBD HD HP;generalize wd.iter t290 pos = wi at hnx HB ⊢;go_upto_region 7 with (first | ((with_reducible refine gate_callee (f := 55) rfl ?_); refine zg (some 14) Tryz.func55 #[.string a0, .string (⟨#[58]⟩ : ByteArray)] ?_; (with_reducible refine (strings_Cut.calls a0 (⟨#[58]⟩ : ByteArray) t289 t290 t291 _ ?side1 A2.out).mono ?_); (case side1 => exact ML.keep HML.out (zB HB)); rintro e w' ⟨rfl, ⟨nd, rfl⟩⟩; refine ⟨_, rfl, ?_⟩))
 (try simp only [Act.put, List.setIfInBounds_toArray, List.set_cons_zero, List.set_cons_succ]);go_cut [36] (fun v36 wc => ∃ (kq : Nat) (x36_2 : Bool), v36 = .bool x36_2 ∧ Aside0 (head_HostX.j0 kq t289 x36_2 = some (r1, r2)) ∧ Aside0 (kq ≤ k) ∧ Aside0 (Below w.heap.size w wc))
 case first =>
  have H := HC3.out;clear HC3;by_cases c4 : (t290.size : Int) > 5
  ·rw [zp c4] at H;have c4b0 : decide (5 < (t290.size : Int)) = true := zt c4;have c4b1 : decide (5 < t290.size) = true := zt zO;clear c4;(first | rw [c4b0] | (simp only [i64_w, i32_w]; rw [c4b0]) | skip);have H' := zN H;clear H;go_wp2;go_meet
   case rel => exact ⟨_, (true), zI, H', ⟨by first | omega | exact zh _⟩, ⟨zB HB⟩⟩
  rw [zn c4] at H;have c4b0 : decide (5 < (t290.size : Int)) = false := zf c4;have c4b1 : decide (5 < t290.size) = false := zf zO;clear c4;(first | rw [c4b0] | (simp only [i64_w, i32_w]; rw [c4b0]) | skip);have H' := zN H;clear H;go_wp2;go_meet
  case rel => exact ⟨_, (decide ((t289.size : Int) > 64)), zI, H', ⟨by first | omega | exact zh _⟩, ⟨zB HB⟩⟩
 case rest =>
  clear HC3;obtain ⟨kq, x36_2, rfl, HA, HJ2, HB⟩ := hcut;cases kq with
  | zero => exact absurd HA.out (by simp [head_HostX.j0])
  | succ kj2 =>
   have H := HA.out;clear HA;simp only [head_HostX.j0] at H;by_cases c5 : x36_2 = true
   ·subst c5;have H1 := H; rw [zp rfl] at H1;clear H;have H := H1;clear H1;simp only [Option.some.injEq, Prod.mk.injEq] at H;obtain ⟨rfl, rfl⟩ := H;go_wp2;go_ret2;exact ⟨zE, zB HB⟩
   replace c5 := zq.mpr c5;subst c5;have H1 := H; rw [zn (show ¬ (false = true) by decide)] at H1;clear H;have H := H1;clear H1;obtain ⟨t292, A6, H⟩ := zA H;(try dsimp only at H);have H' := zN H;clear H;go_wp2_with (first | ((with_reducible refine gate_callee (f := 56) rfl ?_); refine zg (some 38) Tryz.func56 #[.string t289, .string (⟨#[46]⟩ : ByteArray)] ?_; (with_reducible refine (strings_Split.calls t289 (⟨#[46]⟩ : ByteArray) t292 _ ?side1 A6.out).mono ?_); (case side1 => exact ML.keep HML.out (zB HB)); rintro e w7 ⟨v293, rfl, ho0, hb⟩; refine ⟨_, rfl, ?_⟩; have HO294 := zN (Kd.R_lower ho0 (below_size (zB HB))); replace HB := zk HB hb; (try clear hb); (try clear hb2); (try clear hk); (try clear hi); (try clear ho0); obtain ⟨Ao8, co8, eo8⟩ := Kd.R_slice HO294.out; subst eo8));go_loopg [40] kj2 (fun kq v40 w' => ∃ (x40_2 : Int), v40 = .int .i64 x40_2 ∧ Aside0 (head_HostX.l0 kq t289 t292 (t292.length : Int) x40_2 = some (r1, r2)) ∧ Aside0 (kq ≤ kj2) ∧ Aside0 (Kd.R Kd.string 9 w' w.heap.size (fun _ => True) (.slice Ao8 t292.length co8) t292) ∧ Aside0 (Below w.heap.size w w'))
   case atStart => exact ⟨(0), zI, H', ⟨zh _⟩, ⟨zR HO294⟩, ⟨zB HB⟩⟩
   case round =>
    clear H'
    try clear c5
    obtain ⟨x40_2, rfl, HA, HK2, HO_38, HB⟩ := hrel;cases gk with
    | zero => exact absurd HA.out (by simp [head_HostX.l0])
    | succ k2 =>
     have H := HA.out;clear HA;simp only [head_HostX.l0] at H;by_cases c9 : x40_2 < (t292.length : Int);rotate_left
     ·rw [zn c9] at H;have c9b0 := zf c9;clear c9;obtain ⟨t295, A21, H⟩ := zA H;(try dsimp only at H);simp only [Option.some.injEq, Prod.mk.injEq] at H;obtain ⟨rfl, rfl⟩ := H;go_wp2_with (first | ((with_reducible refine gate_callee (f := 25) rfl ?_); refine zg (some 65) Tryz.func25 #[.string t289] ?_; (with_reducible refine (head_lower.calls t289 t295 _ A21.out).mono ?_); rintro e w22 ⟨rfl, hb⟩; refine ⟨_, rfl, ?_⟩; replace HO_38 := zN (Kd.R_below (zR HO_38) hb); replace HB := zk HB hb; (try clear hb); (try clear hb2); (try clear hk); (try clear hi)));go_ret2;exact ⟨zE, zB HB⟩
     rw [zp c9] at H;have c9b0 := zt c9;clear c9;by_cases c10 : 0 ≤ x40_2;rotate_left
     ·rw [zn c10] at H;exact absurd H (by simp)
     rw [zp c10] at H;have c10b0 := zt c10;clear c10;by_cases c11 : x40_2 < (t292.length : Int);rotate_left
     ·rw [zn c11] at H;exact absurd H (by simp)
     rw [zp c11] at H;have c11b0 := zt c11;clear c11;have H' := zN H;clear H;have p296 : 0 ≤ (x40_2 : Int) := zd zS;have q296 : x40_2 < (t292.length : Int) := zd zS;obtain ⟨ad296, e296, hx296_0⟩ := Kd.at_string (Kd.R_reads' HO_38.out).2.2 x40_2 p296 q296;cases e296;replace p296 := zu p296;replace q296 := zu q296;go_wp2;go_loopg [46] k2 (fun kq v46 w' => ∃ (x46_3 : Int), v46 = .int .i64 x46_3 ∧ Aside0 (head_HostX.l1 kq t289 (rdOf ByteArray.empty t292 x40_2) t292 (t292.length : Int) x40_2 ((rdOf ByteArray.empty t292 x40_2).size : Int) x46_3 = some (r1, r2)) ∧ Aside0 (kq ≤ k2) ∧ Aside0 (Kd.R Kd.string 9 w' w.heap.size (fun _ => True) (.slice (some ad296) t292.length co8) t292) ∧ Aside0 (Below w.heap.size w w'))
     case atStart => exact ⟨(0), zI, H', ⟨zh _⟩, ⟨zR HO_38⟩, ⟨zB HB⟩⟩
     case round =>
      clear H'
      try clear c5
      try clear c9
      try clear c9b0
      try clear c10
      try clear c10b0
      try clear c11
      try clear c11b0
      try clear hx296_0
      try clear p296
      try clear q296
      obtain ⟨x46_3, rfl, HA, HK3, HO_38, HB⟩ := hrel;cases gk with
      | zero => exact absurd HA.out (by simp [head_HostX.l1])
      | succ k3 =>
       have H := HA.out;clear HA;simp only [head_HostX.l1] at H;by_cases c12 : x46_3 < ((rdOf ByteArray.empty t292 x40_2).size : Int);rotate_left
       ·rw [zn c12] at H;have c12b0 := zf c12;clear c12;by_cases c20 : (rdOf ByteArray.empty t292 x40_2).toList = ([] : List UInt8)
        ·rw [zp c20] at H;have c20b0 := beq_iff_eq.mpr c20;have c20b1 := zc.mpr c20;clear c20;simp only [Option.some.injEq, Prod.mk.injEq] at H;obtain ⟨rfl, rfl⟩ := H;go_wp2;go_ret2;exact ⟨zE, zB HB⟩
        rw [zn c20] at H;have c20b0 := zb.mpr c20;have c20b1 := bne_iff_ne.mpr c20;have H' := zN H;clear H;go_wp2;go_roundg k3
        case measure => have := HJ2.out; have := HK2.out; have := HK3.out; omega
        case rel => exact ⟨(wrap64 (x40_2 + 1)), zI, H', ⟨by have := HJ2.out; have := HK2.out; have := HK3.out; omega⟩, ⟨zR HO_38⟩, ⟨zB HB⟩⟩
       rw [zp c12] at H;have c12b0 := zt c12;clear c12;by_cases c13 : 0 ≤ x46_3;rotate_left
       ·rw [zn c13] at H;exact absurd H (by simp)
       rw [zp c13] at H;have c13b0 := zt c13;clear c13;by_cases c14 : x46_3 < ((rdOf ByteArray.empty t292 x40_2).size : Int);rotate_left
       ·rw [zn c14] at H;exact absurd H (by simp)
       rw [zp c14] at H;have c14b0 := zt c14;clear c14;obtain ⟨t297, A16, H⟩ := zA H;(try dsimp only at H);by_cases c17 : t297 = true
       ·subst c17;have H1 := H; rw [zp rfl] at H1;clear H;have H := H1;clear H1;have H' := zN H;clear H;have p15 : 0 ≤ (x46_3 : Int) := zd zS;have q15 : x46_3 < ((rdOf ByteArray.empty t292 x40_2).size : Int) := zd zS;have hx15 := bt_at (rdOf ByteArray.empty t292 x40_2) x46_3;replace p15 := zu p15;replace q15 := zu q15;go_wp2_with (first | ((with_reducible refine gate_callee (f := 50) rfl ?_); refine zg (some 52) Tryz.func50 #[.int .u8 (bt (rdOf ByteArray.empty t292 x40_2) x46_3)] ?_; (with_reducible refine (head_alnum.calls (bt (rdOf ByteArray.empty t292 x40_2) x46_3) true _ A16.out).mono ?_); rintro e w' ⟨rfl, ⟨nd, rfl⟩⟩; refine ⟨_, rfl, ?_⟩));go_roundg k3
        case measure => have := HJ2.out; have := HK2.out; have := HK3.out; omega
        case rel => exact ⟨(wrap64 (x46_3 + 1)), zI, H', ⟨by have := HJ2.out; have := HK2.out; have := HK3.out; omega⟩, ⟨zR HO_38⟩, ⟨zB HB⟩⟩
       replace c17 := zq.mpr c17;subst c17;have H1 := H; rw [zn (show ¬ (false = true) by decide)] at H1;clear H;have H := H1;clear H1;by_cases c19 : (bt (rdOf ByteArray.empty t292 x40_2) x46_3) = 45
       ·rw [zp c19] at H;have c19b0 := beq_iff_eq.mpr c19;have c19b1 := zc.mpr c19;clear c19;have H' := zN H;clear H;have p15 : 0 ≤ (x46_3 : Int) := zd zS;have q15 : x46_3 < ((rdOf ByteArray.empty t292 x40_2).size : Int) := zd zS;have hx15 := bt_at (rdOf ByteArray.empty t292 x40_2) x46_3;replace p15 := zu p15;replace q15 := zu q15;go_wp2_with (first | ((with_reducible refine gate_callee (f := 50) rfl ?_); refine zg (some 52) Tryz.func50 #[.int .u8 (bt (rdOf ByteArray.empty t292 x40_2) x46_3)] ?_; (with_reducible refine (head_alnum.calls (bt (rdOf ByteArray.empty t292 x40_2) x46_3) false _ A16.out).mono ?_); rintro e w' ⟨rfl, ⟨nd, rfl⟩⟩; refine ⟨_, rfl, ?_⟩; have p18 : 0 ≤ (x46_3 : Int) := zd zS; have q18 : x46_3 < ((rdOf ByteArray.empty t292 x40_2).size : Int) := zd zS; have hx18 := bt_at (rdOf ByteArray.empty t292 x40_2) x46_3; replace p18 := zu p18; replace q18 := zu q18));go_roundg k3
        case measure => have := HJ2.out; have := HK2.out; have := HK3.out; omega
        case rel => exact ⟨(wrap64 (x46_3 + 1)), zI, H', ⟨by have := HJ2.out; have := HK2.out; have := HK3.out; omega⟩, ⟨zR HO_38⟩, ⟨zB HB⟩⟩
       rw [zn c19] at H;have c19b0 := zb.mpr c19;have c19b1 := bne_iff_ne.mpr c19;simp only [Option.some.injEq, Prod.mk.injEq] at H;obtain ⟨rfl, rfl⟩ := H;have p15 : 0 ≤ (x46_3 : Int) := zd zS;have q15 : x46_3 < ((rdOf ByteArray.empty t292 x40_2).size : Int) := zd zS;have hx15 := bt_at (rdOf ByteArray.empty t292 x40_2) x46_3;replace p15 := zu p15;replace q15 := zu q15;go_wp2_with (first | ((with_reducible refine gate_callee (f := 50) rfl ?_); refine zg (some 52) Tryz.func50 #[.int .u8 (bt (rdOf ByteArray.empty t292 x40_2) x46_3)] ?_; (with_reducible refine (head_alnum.calls (bt (rdOf ByteArray.empty t292 x40_2) x46_3) false _ A16.out).mono ?_); rintro e w' ⟨rfl, ⟨nd, rfl⟩⟩; refine ⟨_, rfl, ?_⟩; have p18 : 0 ≤ (x46_3 : Int) := zd zS; have q18 : x46_3 < ((rdOf ByteArray.empty t292 x40_2).size : Int) := zd zS; have hx18 := bt_at (rdOf ByteArray.empty t292 x40_2) x46_3; replace p18 := zu p18; replace q18 := zu q18));go_ret2;exact ⟨zE, zB HB⟩

set_option maxHeartbeats 8000000 in
set_option maxRecDepth 100000 in
theorem head_Host.no (a0 t289 t290 : ByteArray) (t291 : Bool) (hcut : strings_Cut.f a0 (⟨#[58]⟩ : ByteArray) = some (t289, t290, t291)) (hD : t290.data.toList.all digB = false) (w : World) (hml : ML w) :
  Calls Tryz.prog 27 #[.string a0] w fun e w' => e = .returned (.tuple #[.string (⟨#[]⟩ : ByteArray), .bool false]) ∧ Below w.heap.size w w' := by
 have HML := zN hml;clear hml;have HB := zN (Below.refl w.heap.size w);have A2 := zN hcut;clear hcut;have HD := zN hD;clear hD;go_enter Tryz.func27, Tryz.ntmps27;go_wp2_with (first | ((with_reducible refine gate_callee (f := 55) rfl ?_); refine zg (some 14) Tryz.func55 #[.string a0, .string (⟨#[58]⟩ : ByteArray)] ?_; (with_reducible refine (strings_Cut.calls a0 (⟨#[58]⟩ : ByteArray) t289 t290 t291 _ ?side1 A2.out).mono ?_); (case side1 => exact ML.keep HML.out (zB HB)); rintro e w' ⟨rfl, ⟨nd, rfl⟩⟩; refine ⟨_, rfl, ?_⟩));obtain ⟨wd, hwd⟩ : ∃ wd, w.drewN nd = wd := ⟨_, rfl⟩;have hbd : Below w.heap.size w wd := hwd ▸ pw_below_drewN (Below.refl _ _) nd;have hsz : wd.heap.size = w.heap.size := by rw [← hwd]; rfl
 rw [hwd];clear hwd;have HBD := zN hbd;clear hbd HB;go_loopw [8] (fun v8 wr => ∃ pos : Nat, wr = wd.iter t290 pos ∧ Aside0 (∀ (i : Nat) (hi : i < t290.size), i < pos → 48 ≤ (t290[i]'hi).toNat ∧ (t290[i]'hi).toNat ≤ 57)) (fun _ w' => t290.size - w'.iterPos wd.heap.size)
 case atStart => exact ⟨0, rfl, ⟨fun i hi h => by omega⟩⟩
 case round =>
  obtain ⟨pos, rfl, HP⟩ := hrel;by_cases hp : pos < t290.size;rotate_left
  ·exact absurd (dig_all fun i hi => HP.out i hi zO) (by rw [HD.out]; simp)
  by_cases hdig : 48 ≤ (t290[pos]'hp).toNat ∧ (t290[pos]'hp).toNat ≤ 57
  ·have hnx : ∀ ty, (Instr.next (.pointer (some ⟨w.heap.size, 0, none⟩)) true ty).run Tryz.prog (wd.iter t290 pos) = .ok (.tuple #[.bool true, .int .i64 pos, .int .i32 (t290[pos]'hp).toNat]) (wd.iter t290 (pos + 1)) := fun ty => by rw [← hsz]; exact run_next_ascii wd t290 pos ty hp zO
   have HP2 : Aside0 (∀ (i : Nat) (hi : i < t290.size), i < pos + 1 → 48 ≤ (t290[i]'hi).toNat ∧ (t290[i]'hi).toNat ≤ 57) := ⟨fun i hi h => by
    rcases Nat.lt_or_ge i pos with h1 | h1
    ·exact HP.out i hi h1
    obtain rfl : i = pos := by omega
    exact hdig⟩
   generalize hx : (((t290[pos]'hp).toNat : Nat) : Int) = x at hnx;have hx1 : 48 ≤ x := by omega
   have hx2 : x ≤ 57 := by omega
   clear hx hdig HP;go_wp2;go_roundw
   case rel => exact ⟨pos + 1, rfl, HP2⟩
   case measure =>
    simp;omega
  have HBI := zN (show Below w.heap.size w (wd.iter t290 (pos + (Utf8.decode t290 pos).2)) from below_alloc HBD.out _);have hnx : ∀ ty, (Instr.next (.pointer (some ⟨w.heap.size, 0, none⟩)) true ty).run Tryz.prog (wd.iter t290 pos) = .ok (.tuple #[.bool true, .int .i64 pos, .int .i32 (Utf8.decode t290 pos).1]) (wd.iter t290 (pos + (Utf8.decode t290 pos).2)) := fun ty => by rw [← hsz]; exact run_next_any wd t290 pos ty hp
  have hr : (Utf8.decode t290 pos).1 < 48 ∨ 57 < (Utf8.decode t290 pos).1 := by
   by_cases ha : (t290[pos]'hp).toNat < 128
   ·rw [decode_ascii t290 pos hp ha];omega
   have := (decode_high t290 pos hp zO).1;omega
  generalize (Utf8.decode t290 pos).2 = wid at hnx HBI;generalize hx : ((Utf8.decode t290 pos).1 : Int) = x at hnx;generalize wd.iter t290 (pos + wid) = wz at hnx HBI
  rcases hr with hr | hr
  ·have hx1 : x < 48 := by omega
   clear hx hdig HP hr;go_wp2;go_ret2;exact ⟨rfl, HBI.out⟩
  have hx1 : 57 < x := by omega
  have hx2 : 48 ≤ x := by omega
  clear hx hdig HP hr;go_wp2;go_ret2;exact ⟨rfl, HBI.out⟩
def head_Host.f (k : Nat) (a0 : ByteArray) : Option (ByteArray × Bool) := (strings_Cut.f a0 (⟨#[58]⟩ : ByteArray)).bind fun bt => (if bt.2.1.data.toList.all digB = true then head_HostX.f k a0 else some ((⟨#[]⟩ : ByteArray), false))
theorem head_Host.mono : ∀ a0 k, LeO (head_Host.f k a0) (head_Host.f (k + 1) a0) := by
 intro a0 k;unfold head_Host.f
 repeat' with_reducible first | exact head_HostX.mono _ _ | exact LeO.refl _ | refine LeO.ite ?_ ?_ | refine LeO.bind ?_ (fun _ => ?_)
theorem head_Host.calls (k : Nat) (a0 : ByteArray) (r1 : ByteArray) (r2 : Bool) (w : World) (hml : ML w) (h : head_Host.f k a0 = some (r1, r2)) :
  Calls Tryz.prog 27 #[.string a0] w fun e w' => e = .returned (.tuple #[.string r1, .bool r2]) ∧ Below w.heap.size w w' := by
 unfold head_Host.f at h;obtain ⟨⟨t289, t290, t291⟩, hcut, h⟩ := Option.bind_eq_some_iff.mp h;dsimp only at h
 split at h
 ·rename_i hD
  exact head_HostX.calls k a0 r1 r2 w hml (fun r1' r2' r3' hc => by
   rw [hcut] at hc;simp only [Option.some.injEq, Prod.mk.injEq] at hc;obtain ⟨_, rfl, _⟩ := hc;exact hD) h
 rename_i hD
 simp only [Option.some.injEq, Prod.mk.injEq] at h;obtain ⟨rfl, rfl⟩ := h;exact head_Host.no a0 t289 t290 t291 hcut (by simpa using hD) w hml

def head_target.j0 : Nat → ByteArray → ByteArray → ByteArray → Option (ByteArray × ByteArray × ByteArray × Bool)
 | 0, _, _, _ => none
 | k + 1, x2, x3, x6 => (head_Host.f k x6).bind fun bt379 => (if bt379.2 = true then ((head_path.f k x2).bind fun t381 => (if t381 = true then ((head_such.f k x3 true).bind fun t382 => (some (x2, x3, bt379.1, t382))) else (some (x2, x3, bt379.1, false)))) else (some ((⟨#[]⟩ : ByteArray), (⟨#[]⟩ : ByteArray), (⟨#[]⟩ : ByteArray), false)))
def head_target.f (k : Nat) (a0 : ByteArray) : Option (ByteArray × ByteArray × ByteArray × Bool) := (strings_Cut.f a0 (⟨#[63]⟩ : ByteArray)).bind fun bt373 => ((strings_CutPrefix.f bt373.1 (⟨#[104, 116, 116, 112, 58, 47, 47]⟩ : ByteArray)).bind fun bt376 => (if bt376.2 = true then ((strings_IndexByte.f bt376.1 47).bind fun t378 => (if t378 < 0 then (head_target.j0 k (⟨#[47]⟩ : ByteArray) bt373.2.1 bt376.1) else (if 0 ≤ t378 then (if t378 ≤ (bt376.1.size : Int) then (head_target.j0 k (bt376.1.extract (t378 : Int).toNat bt376.1.size) bt373.2.1 (bt376.1.extract 0 (t378 : Int).toNat)) else (none)) else (none)))) else ((head_path.f k bt373.1).bind fun t383 => (if t383 = true then ((head_such.f k bt373.2.1 true).bind fun t384 => (some (bt373.1, bt373.2.1, (⟨#[]⟩ : ByteArray), t384))) else (some (bt373.1, bt373.2.1, (⟨#[]⟩ : ByteArray), false))))))
theorem head_target.mono_l : ∀ k, (∀ y0 y1 y2, LeO (head_target.j0 k y0 y1 y2) (head_target.j0 (k + 1) y0 y1 y2))
 | 0 => fun _ _ _ r h => by simp [head_target.j0] at h
 | k + 1 => by
  have ih0 := head_target.mono_l k;intro y0 y1 y2;unfold head_target.j0
  repeat' with_reducible first | exact ih0 _ _ _ | exact head_Host.mono _ _ | exact head_path.mono _ _ | exact head_such.mono _ _ _ | exact LeO.refl _ | exact LeO.none _ | refine LeO.ite ?_ ?_ | refine LeO.bind ?_ (fun _ => ?_)
theorem head_target.mono : ∀ a0 k, LeO (head_target.f k a0) (head_target.f (k + 1) a0) := by
 intro a0 k;have ih0 := head_target.mono_l k;unfold head_target.f
 repeat' with_reducible first | exact ih0 _ _ _ | exact head_Host.mono _ _ | exact head_path.mono _ _ | exact head_such.mono _ _ _ | exact LeO.refl _ | exact LeO.none _ | refine LeO.ite ?_ ?_ | refine LeO.bind ?_ (fun _ => ?_)
set_option maxHeartbeats 8000000 in
set_option maxRecDepth 100000 in
theorem head_target.calls (k : Nat) (a0 : ByteArray) (r1 : ByteArray) (r2 : ByteArray) (r3 : ByteArray) (r4 : Bool) (w : World) (hml : ML w) (h : head_target.f k a0 = some (r1, r2, r3, r4)) :
  Calls Tryz.prog 84 #[.string a0] w fun e w' => e = .returned (.tuple #[.string r1, .string r2, .string r3, .bool r4]) ∧ Below w.heap.size w w' := by
 have HML := zN hml;clear hml;have HB := zN (Below.refl w.heap.size w);have H : ((strings_Cut.f a0 (⟨#[63]⟩ : ByteArray)).bind fun bt373 => ((strings_CutPrefix.f bt373.1 (⟨#[104, 116, 116, 112, 58, 47, 47]⟩ : ByteArray)).bind fun bt376 => (if bt376.2 = true then ((strings_IndexByte.f bt376.1 47).bind fun t378 => (if t378 < 0 then (head_target.j0 k (⟨#[47]⟩ : ByteArray) bt373.2.1 bt376.1) else (if 0 ≤ t378 then (if t378 ≤ (bt376.1.size : Int) then (head_target.j0 k (bt376.1.extract (t378 : Int).toNat bt376.1.size) bt373.2.1 (bt376.1.extract 0 (t378 : Int).toNat)) else (none)) else (none)))) else ((head_path.f k bt373.1).bind fun t383 => (if t383 = true then ((head_such.f k bt373.2.1 true).bind fun t384 => (some (bt373.1, bt373.2.1, (⟨#[]⟩ : ByteArray), t384))) else (some (bt373.1, bt373.2.1, (⟨#[]⟩ : ByteArray), false))))))) = some (r1, r2, r3, r4) := h;clear h;obtain ⟨⟨t373, t374, t375⟩, A2, H⟩ := zA H;(try dsimp only at H);obtain ⟨⟨t376, t377⟩, A3, H⟩ := zA H;(try dsimp only at H);by_cases c4 : t377 = true;rotate_left
 ·replace c4 := zq.mpr c4;subst c4;have H1 := H; rw [zn (show ¬ (false = true) by decide)] at H1;clear H;have H := H1;clear H1;obtain ⟨t383, A20, H⟩ := zA H;(try dsimp only at H);by_cases c21 : t383 = true
  ·subst c21;have H1 := H; rw [zp rfl] at H1;clear H;have H := H1;clear H1;obtain ⟨t384, A22, H⟩ := zA H;(try dsimp only at H);simp only [Option.some.injEq, Prod.mk.injEq] at H;obtain ⟨rfl, rfl, rfl, rfl⟩ := H;go_enter Tryz.func84, Tryz.ntmps84;go_wp2_with (first | (go_at_call 55; (with_reducible refine (strings_Cut.calls a0 (⟨#[63]⟩ : ByteArray) t373 t374 t375 _ ?side1 A2.out).mono ?_); (case side1 => exact ML.keep HML.out (zB HB)); rintro e w' ⟨rfl, ⟨nd, rfl⟩⟩; (try first | exact ⟨rfl, _, World.drewN_drewN _ _ _⟩ | exact ⟨rfl, _, Eq.trans (World.drewN_drewN _ _ _) (congrArg (World.drewN _) (Nat.add_assoc _ _ _))⟩)) | (go_at_call 60; (with_reducible refine (strings_CutPrefix.calls t373 (⟨#[104, 116, 116, 112, 58, 47, 47]⟩ : ByteArray) t376 false _ A3.out).mono ?_); rintro e w' ⟨rfl, ⟨nd, rfl⟩⟩; (try first | exact ⟨rfl, _, World.drewN_drewN _ _ _⟩ | exact ⟨rfl, _, Eq.trans (World.drewN_drewN _ _ _) (congrArg (World.drewN _) (Nat.add_assoc _ _ _))⟩)) | (go_at_call 23; (with_reducible refine (head_path.calls k t373 true _ A20.out).mono ?_); rintro e w' ⟨rfl, ⟨nd, rfl⟩⟩; (try first | exact ⟨rfl, _, World.drewN_drewN _ _ _⟩ | exact ⟨rfl, _, Eq.trans (World.drewN_drewN _ _ _) (congrArg (World.drewN _) (Nat.add_assoc _ _ _))⟩)) | (go_at_call 24; (with_reducible refine (head_such.calls k t374 true t384 _ A22.out).mono ?_); rintro e w' ⟨rfl, ⟨nd, rfl⟩⟩; (try first | exact ⟨rfl, _, World.drewN_drewN _ _ _⟩ | exact ⟨rfl, _, Eq.trans (World.drewN_drewN _ _ _) (congrArg (World.drewN _) (Nat.add_assoc _ _ _))⟩)))
   repeat (go_quiet (first | (go_at_call 55; (with_reducible refine (strings_Cut.calls a0 (⟨#[63]⟩ : ByteArray) t373 t374 t375 _ ?side1 A2.out).mono ?_); (case side1 => exact ML.keep HML.out (zB HB)); rintro e w' ⟨rfl, ⟨nd, rfl⟩⟩; (try first | exact ⟨rfl, _, World.drewN_drewN _ _ _⟩ | exact ⟨rfl, _, Eq.trans (World.drewN_drewN _ _ _) (congrArg (World.drewN _) (Nat.add_assoc _ _ _))⟩)) | (go_at_call 60; (with_reducible refine (strings_CutPrefix.calls t373 (⟨#[104, 116, 116, 112, 58, 47, 47]⟩ : ByteArray) t376 false _ A3.out).mono ?_); rintro e w' ⟨rfl, ⟨nd, rfl⟩⟩; (try first | exact ⟨rfl, _, World.drewN_drewN _ _ _⟩ | exact ⟨rfl, _, Eq.trans (World.drewN_drewN _ _ _) (congrArg (World.drewN _) (Nat.add_assoc _ _ _))⟩)) | (go_at_call 23; (with_reducible refine (head_path.calls k t373 true _ A20.out).mono ?_); rintro e w' ⟨rfl, ⟨nd, rfl⟩⟩; (try first | exact ⟨rfl, _, World.drewN_drewN _ _ _⟩ | exact ⟨rfl, _, Eq.trans (World.drewN_drewN _ _ _) (congrArg (World.drewN _) (Nat.add_assoc _ _ _))⟩)) | (go_at_call 24; (with_reducible refine (head_such.calls k t374 true t384 _ A22.out).mono ?_); rintro e w' ⟨rfl, ⟨nd, rfl⟩⟩; (try first | exact ⟨rfl, _, World.drewN_drewN _ _ _⟩ | exact ⟨rfl, _, Eq.trans (World.drewN_drewN _ _ _) (congrArg (World.drewN _) (Nat.add_assoc _ _ _))⟩))); try go_wp2_with (first | (go_at_call 55; (with_reducible refine (strings_Cut.calls a0 (⟨#[63]⟩ : ByteArray) t373 t374 t375 _ ?side1 A2.out).mono ?_); (case side1 => exact ML.keep HML.out (zB HB)); rintro e w' ⟨rfl, ⟨nd, rfl⟩⟩; (try first | exact ⟨rfl, _, World.drewN_drewN _ _ _⟩ | exact ⟨rfl, _, Eq.trans (World.drewN_drewN _ _ _) (congrArg (World.drewN _) (Nat.add_assoc _ _ _))⟩)) | (go_at_call 60; (with_reducible refine (strings_CutPrefix.calls t373 (⟨#[104, 116, 116, 112, 58, 47, 47]⟩ : ByteArray) t376 false _ A3.out).mono ?_); rintro e w' ⟨rfl, ⟨nd, rfl⟩⟩; (try first | exact ⟨rfl, _, World.drewN_drewN _ _ _⟩ | exact ⟨rfl, _, Eq.trans (World.drewN_drewN _ _ _) (congrArg (World.drewN _) (Nat.add_assoc _ _ _))⟩)) | (go_at_call 23; (with_reducible refine (head_path.calls k t373 true _ A20.out).mono ?_); rintro e w' ⟨rfl, ⟨nd, rfl⟩⟩; (try first | exact ⟨rfl, _, World.drewN_drewN _ _ _⟩ | exact ⟨rfl, _, Eq.trans (World.drewN_drewN _ _ _) (congrArg (World.drewN _) (Nat.add_assoc _ _ _))⟩)) | (go_at_call 24; (with_reducible refine (head_such.calls k t374 true t384 _ A22.out).mono ?_); rintro e w' ⟨rfl, ⟨nd, rfl⟩⟩; (try first | exact ⟨rfl, _, World.drewN_drewN _ _ _⟩ | exact ⟨rfl, _, Eq.trans (World.drewN_drewN _ _ _) (congrArg (World.drewN _) (Nat.add_assoc _ _ _))⟩))))
   refine bodyPost_ret (results_list (rs := [.tmp 2, .tmp 3, .tmp 4, .tmp 5]) rfl (by simp) (.tmp (.tmp (.tmp (.tmp .nil))))) rfl ?_;exact ⟨zE, zB HB⟩
  replace c21 := zq.mpr c21;subst c21;have H1 := H; rw [zn (show ¬ (false = true) by decide)] at H1;clear H;have H := H1;clear H1;simp only [Option.some.injEq, Prod.mk.injEq] at H;obtain ⟨rfl, rfl, rfl, rfl⟩ := H;go_enter Tryz.func84, Tryz.ntmps84;go_wp2_with (first | (go_at_call 55; (with_reducible refine (strings_Cut.calls a0 (⟨#[63]⟩ : ByteArray) t373 t374 t375 _ ?side1 A2.out).mono ?_); (case side1 => exact ML.keep HML.out (zB HB)); rintro e w' ⟨rfl, ⟨nd, rfl⟩⟩; (try first | exact ⟨rfl, _, World.drewN_drewN _ _ _⟩ | exact ⟨rfl, _, Eq.trans (World.drewN_drewN _ _ _) (congrArg (World.drewN _) (Nat.add_assoc _ _ _))⟩)) | (go_at_call 60; (with_reducible refine (strings_CutPrefix.calls t373 (⟨#[104, 116, 116, 112, 58, 47, 47]⟩ : ByteArray) t376 false _ A3.out).mono ?_); rintro e w' ⟨rfl, ⟨nd, rfl⟩⟩; (try first | exact ⟨rfl, _, World.drewN_drewN _ _ _⟩ | exact ⟨rfl, _, Eq.trans (World.drewN_drewN _ _ _) (congrArg (World.drewN _) (Nat.add_assoc _ _ _))⟩)) | (go_at_call 23; (with_reducible refine (head_path.calls k t373 false _ A20.out).mono ?_); rintro e w' ⟨rfl, ⟨nd, rfl⟩⟩; (try first | exact ⟨rfl, _, World.drewN_drewN _ _ _⟩ | exact ⟨rfl, _, Eq.trans (World.drewN_drewN _ _ _) (congrArg (World.drewN _) (Nat.add_assoc _ _ _))⟩)))
  repeat (go_quiet (first | (go_at_call 55; (with_reducible refine (strings_Cut.calls a0 (⟨#[63]⟩ : ByteArray) t373 t374 t375 _ ?side1 A2.out).mono ?_); (case side1 => exact ML.keep HML.out (zB HB)); rintro e w' ⟨rfl, ⟨nd, rfl⟩⟩; (try first | exact ⟨rfl, _, World.drewN_drewN _ _ _⟩ | exact ⟨rfl, _, Eq.trans (World.drewN_drewN _ _ _) (congrArg (World.drewN _) (Nat.add_assoc _ _ _))⟩)) | (go_at_call 60; (with_reducible refine (strings_CutPrefix.calls t373 (⟨#[104, 116, 116, 112, 58, 47, 47]⟩ : ByteArray) t376 false _ A3.out).mono ?_); rintro e w' ⟨rfl, ⟨nd, rfl⟩⟩; (try first | exact ⟨rfl, _, World.drewN_drewN _ _ _⟩ | exact ⟨rfl, _, Eq.trans (World.drewN_drewN _ _ _) (congrArg (World.drewN _) (Nat.add_assoc _ _ _))⟩)) | (go_at_call 23; (with_reducible refine (head_path.calls k t373 false _ A20.out).mono ?_); rintro e w' ⟨rfl, ⟨nd, rfl⟩⟩; (try first | exact ⟨rfl, _, World.drewN_drewN _ _ _⟩ | exact ⟨rfl, _, Eq.trans (World.drewN_drewN _ _ _) (congrArg (World.drewN _) (Nat.add_assoc _ _ _))⟩))); try go_wp2_with (first | (go_at_call 55; (with_reducible refine (strings_Cut.calls a0 (⟨#[63]⟩ : ByteArray) t373 t374 t375 _ ?side1 A2.out).mono ?_); (case side1 => exact ML.keep HML.out (zB HB)); rintro e w' ⟨rfl, ⟨nd, rfl⟩⟩; (try first | exact ⟨rfl, _, World.drewN_drewN _ _ _⟩ | exact ⟨rfl, _, Eq.trans (World.drewN_drewN _ _ _) (congrArg (World.drewN _) (Nat.add_assoc _ _ _))⟩)) | (go_at_call 60; (with_reducible refine (strings_CutPrefix.calls t373 (⟨#[104, 116, 116, 112, 58, 47, 47]⟩ : ByteArray) t376 false _ A3.out).mono ?_); rintro e w' ⟨rfl, ⟨nd, rfl⟩⟩; (try first | exact ⟨rfl, _, World.drewN_drewN _ _ _⟩ | exact ⟨rfl, _, Eq.trans (World.drewN_drewN _ _ _) (congrArg (World.drewN _) (Nat.add_assoc _ _ _))⟩)) | (go_at_call 23; (with_reducible refine (head_path.calls k t373 false _ A20.out).mono ?_); rintro e w' ⟨rfl, ⟨nd, rfl⟩⟩; (try first | exact ⟨rfl, _, World.drewN_drewN _ _ _⟩ | exact ⟨rfl, _, Eq.trans (World.drewN_drewN _ _ _) (congrArg (World.drewN _) (Nat.add_assoc _ _ _))⟩))))
  refine bodyPost_ret (results_list (rs := [.tmp 2, .tmp 3, .tmp 4, .tmp 5]) rfl (by simp) (.tmp (.tmp (.tmp (.tmp .nil))))) rfl ?_;exact ⟨zE, zB HB⟩
 subst c4;have H1 := H; rw [zp rfl] at H1;clear H;have H := H1;clear H1;obtain ⟨t378, A5, H⟩ := zA H;(try dsimp only at H);have HC6 := zN H;clear H;go_enter Tryz.func84, Tryz.ntmps84;go_upto_if 24 with (first | (go_at_call 55; (with_reducible refine (strings_Cut.calls a0 (⟨#[63]⟩ : ByteArray) t373 t374 t375 _ ?side1 A2.out).mono ?_); (case side1 => exact ML.keep HML.out (zB HB)); rintro e w' ⟨rfl, ⟨nd, rfl⟩⟩; (try first | exact ⟨rfl, _, World.drewN_drewN _ _ _⟩ | exact ⟨rfl, _, Eq.trans (World.drewN_drewN _ _ _) (congrArg (World.drewN _) (Nat.add_assoc _ _ _))⟩)) | (go_at_call 60; (with_reducible refine (strings_CutPrefix.calls t373 (⟨#[104, 116, 116, 112, 58, 47, 47]⟩ : ByteArray) t376 true _ A3.out).mono ?_); rintro e w' ⟨rfl, ⟨nd, rfl⟩⟩; (try first | exact ⟨rfl, _, World.drewN_drewN _ _ _⟩ | exact ⟨rfl, _, Eq.trans (World.drewN_drewN _ _ _) (congrArg (World.drewN _) (Nat.add_assoc _ _ _))⟩)) | (go_at_call 115; (with_reducible refine (strings_IndexByte.calls t376 47 t378 _ A5.out).mono ?_); rintro e w' ⟨rfl, ⟨nd, rfl⟩⟩; (try first | exact ⟨rfl, _, World.drewN_drewN _ _ _⟩ | exact ⟨rfl, _, Eq.trans (World.drewN_drewN _ _ _) (congrArg (World.drewN _) (Nat.add_assoc _ _ _))⟩)))
 repeat (go_quiet (first | (go_at_call 55; (with_reducible refine (strings_Cut.calls a0 (⟨#[63]⟩ : ByteArray) t373 t374 t375 _ ?side1 A2.out).mono ?_); (case side1 => exact ML.keep HML.out (zB HB)); rintro e w' ⟨rfl, ⟨nd, rfl⟩⟩; (try first | exact ⟨rfl, _, World.drewN_drewN _ _ _⟩ | exact ⟨rfl, _, Eq.trans (World.drewN_drewN _ _ _) (congrArg (World.drewN _) (Nat.add_assoc _ _ _))⟩)) | (go_at_call 60; (with_reducible refine (strings_CutPrefix.calls t373 (⟨#[104, 116, 116, 112, 58, 47, 47]⟩ : ByteArray) t376 true _ A3.out).mono ?_); rintro e w' ⟨rfl, ⟨nd, rfl⟩⟩; (try first | exact ⟨rfl, _, World.drewN_drewN _ _ _⟩ | exact ⟨rfl, _, Eq.trans (World.drewN_drewN _ _ _) (congrArg (World.drewN _) (Nat.add_assoc _ _ _))⟩)) | (go_at_call 115; (with_reducible refine (strings_IndexByte.calls t376 47 t378 _ A5.out).mono ?_); rintro e w' ⟨rfl, ⟨nd, rfl⟩⟩; (try first | exact ⟨rfl, _, World.drewN_drewN _ _ _⟩ | exact ⟨rfl, _, Eq.trans (World.drewN_drewN _ _ _) (congrArg (World.drewN _) (Nat.add_assoc _ _ _))⟩))); go_upto_if 24 with (first | (go_at_call 55; (with_reducible refine (strings_Cut.calls a0 (⟨#[63]⟩ : ByteArray) t373 t374 t375 _ ?side1 A2.out).mono ?_); (case side1 => exact ML.keep HML.out (zB HB)); rintro e w' ⟨rfl, ⟨nd, rfl⟩⟩; (try first | exact ⟨rfl, _, World.drewN_drewN _ _ _⟩ | exact ⟨rfl, _, Eq.trans (World.drewN_drewN _ _ _) (congrArg (World.drewN _) (Nat.add_assoc _ _ _))⟩)) | (go_at_call 60; (with_reducible refine (strings_CutPrefix.calls t373 (⟨#[104, 116, 116, 112, 58, 47, 47]⟩ : ByteArray) t376 true _ A3.out).mono ?_); rintro e w' ⟨rfl, ⟨nd, rfl⟩⟩; (try first | exact ⟨rfl, _, World.drewN_drewN _ _ _⟩ | exact ⟨rfl, _, Eq.trans (World.drewN_drewN _ _ _) (congrArg (World.drewN _) (Nat.add_assoc _ _ _))⟩)) | (go_at_call 115; (with_reducible refine (strings_IndexByte.calls t376 47 t378 _ A5.out).mono ?_); rintro e w' ⟨rfl, ⟨nd, rfl⟩⟩; (try first | exact ⟨rfl, _, World.drewN_drewN _ _ _⟩ | exact ⟨rfl, _, Eq.trans (World.drewN_drewN _ _ _) (congrArg (World.drewN _) (Nat.add_assoc _ _ _))⟩))))
 (try simp only [Act.put, List.setIfInBounds_toArray, List.set_cons_zero, List.set_cons_succ]);go_cut [2, 6] (fun v2 v6 wc => ∃ (kq : Nat) (x2_5 : ByteArray) (x6_5 : ByteArray), v2 = .string x2_5 ∧ v6 = .string x6_5 ∧ Aside0 (head_target.j0 kq x2_5 t374 x6_5 = some (r1, r2, r3, r4)) ∧ Aside0 (kq ≤ k) ∧ Aside0 (Below w.heap.size w wc))
 case first =>
  have H := HC6.out;clear HC6;by_cases c7 : t378 < 0
  ·rw [zp c7] at H;have c7b0 := zt c7;clear c7;(first | rw [c7b0] | (simp only [i64_w, i32_w]; rw [c7b0]) | skip);have H' := zN H;clear H;go_wp2
   repeat (go_quiet (fail); try go_wp2)
   go_meet
   case rel => exact ⟨_, ((⟨#[47]⟩ : ByteArray)), (t376), zI, zI, H', ⟨by first | omega | exact zh _⟩, ⟨zB HB⟩⟩
  rw [zn c7] at H;have c7b0 := zf c7;clear c7;(first | rw [c7b0] | (simp only [i64_w, i32_w]; rw [c7b0]) | skip);by_cases c8 : 0 ≤ t378;rotate_left
  ·rw [zn c8] at H;exact absurd H (by simp)
  rw [zp c8] at H;have c8b0 := zu c8;have c8b1 := zt c8;clear c8;by_cases c9 : t378 ≤ (t376.size : Int);rotate_left
  ·rw [zn c9] at H;exact absurd H (by simp)
  rw [zp c9] at H;have c9b0 := zu c9;have c9b1 := zt c9;clear c9;have c10b0 := zu (zd zS : 0 ≤ t378);have c11b0 := zu (zd zS : t378 ≤ (t376.size : Int));have H' := zN H;clear H;go_wp2
  repeat (go_quiet (fail); try go_wp2)
  go_meet
  case rel => exact ⟨_, (t376.extract (t378 : Int).toNat t376.size), (t376.extract 0 (t378 : Int).toNat), zI, zI, H', ⟨by first | omega | exact zh _⟩, ⟨zB HB⟩⟩
 case rest =>
  clear HC6
  try clear c4
  obtain ⟨kq, x2_5, x6_5, rfl, rfl, HA, HJ5, HB⟩ := hcut;cases kq with
  | zero => exact absurd HA.out (by simp [head_target.j0])
  | succ kj5 =>
   have H := HA.out;clear HA;simp only [head_target.j0] at H;obtain ⟨⟨t379, t380⟩, A12, H⟩ := zA H;(try dsimp only at H);by_cases c13 : t380 = true;rotate_left
   ·replace c13 := zq.mpr c13;subst c13;have H1 := H; rw [zn (show ¬ (false = true) by decide)] at H1;clear H;have H := H1;clear H1;simp only [Option.some.injEq, Prod.mk.injEq] at H;obtain ⟨rfl, rfl, rfl, rfl⟩ := H;go_wp2_with (first | (go_at_call 27; (with_reducible refine (head_Host.calls kj5 x6_5 t379 false _ ?side1 A12.out).mono ?_); (case side1 => exact ML.keep HML.out (zB HB)); rintro e w19 ⟨rfl, hb⟩; replace HB := zk HB hb; (try clear hb); (try clear hb2); (try clear hk); (try clear hi)))
    repeat (go_quiet (first | (go_at_call 27; (with_reducible refine (head_Host.calls kj5 x6_5 t379 false _ ?side1 A12.out).mono ?_); (case side1 => exact ML.keep HML.out (zB HB)); rintro e w19 ⟨rfl, hb⟩; replace HB := zk HB hb; (try clear hb); (try clear hb2); (try clear hk); (try clear hi))); try go_wp2_with (first | (go_at_call 27; (with_reducible refine (head_Host.calls kj5 x6_5 t379 false _ ?side1 A12.out).mono ?_); (case side1 => exact ML.keep HML.out (zB HB)); rintro e w19 ⟨rfl, hb⟩; replace HB := zk HB hb; (try clear hb); (try clear hb2); (try clear hk); (try clear hi))))
    refine bodyPost_ret (results_list (rs := [.tmp 2, .tmp 3, .tmp 4, .tmp 5]) rfl (by simp) (.tmp (.tmp (.tmp (.tmp .nil))))) rfl ?_;exact ⟨zE, zB HB⟩
   subst c13;have H1 := H; rw [zp rfl] at H1;clear H;have H := H1;clear H1;obtain ⟨t381, A14, H⟩ := zA H;(try dsimp only at H);by_cases c15 : t381 = true
   ·subst c15;have H1 := H; rw [zp rfl] at H1;clear H;have H := H1;clear H1;obtain ⟨t382, A16, H⟩ := zA H;(try dsimp only at H);simp only [Option.some.injEq, Prod.mk.injEq] at H;obtain ⟨rfl, rfl, rfl, rfl⟩ := H;go_wp2_with (first | (go_at_call 27; (with_reducible refine (head_Host.calls kj5 x6_5 t379 true _ ?side1 A12.out).mono ?_); (case side1 => exact ML.keep HML.out (zB HB)); rintro e w17 ⟨rfl, hb⟩; replace HB := zk HB hb; (try clear hb); (try clear hb2); (try clear hk); (try clear hi)) | (go_at_call 23; (with_reducible refine (head_path.calls kj5 x2_5 true _ A14.out).mono ?_); rintro e w' ⟨rfl, ⟨nd, rfl⟩⟩; (try first | exact ⟨rfl, _, World.drewN_drewN _ _ _⟩ | exact ⟨rfl, _, Eq.trans (World.drewN_drewN _ _ _) (congrArg (World.drewN _) (Nat.add_assoc _ _ _))⟩)) | (go_at_call 24; (with_reducible refine (head_such.calls kj5 t374 true t382 _ A16.out).mono ?_); rintro e w' ⟨rfl, ⟨nd, rfl⟩⟩; (try first | exact ⟨rfl, _, World.drewN_drewN _ _ _⟩ | exact ⟨rfl, _, Eq.trans (World.drewN_drewN _ _ _) (congrArg (World.drewN _) (Nat.add_assoc _ _ _))⟩)))
    repeat (go_quiet (first | (go_at_call 27; (with_reducible refine (head_Host.calls kj5 x6_5 t379 true _ ?side1 A12.out).mono ?_); (case side1 => exact ML.keep HML.out (zB HB)); rintro e w17 ⟨rfl, hb⟩; replace HB := zk HB hb; (try clear hb); (try clear hb2); (try clear hk); (try clear hi)) | (go_at_call 23; (with_reducible refine (head_path.calls kj5 x2_5 true _ A14.out).mono ?_); rintro e w' ⟨rfl, ⟨nd, rfl⟩⟩; (try first | exact ⟨rfl, _, World.drewN_drewN _ _ _⟩ | exact ⟨rfl, _, Eq.trans (World.drewN_drewN _ _ _) (congrArg (World.drewN _) (Nat.add_assoc _ _ _))⟩)) | (go_at_call 24; (with_reducible refine (head_such.calls kj5 t374 true t382 _ A16.out).mono ?_); rintro e w' ⟨rfl, ⟨nd, rfl⟩⟩; (try first | exact ⟨rfl, _, World.drewN_drewN _ _ _⟩ | exact ⟨rfl, _, Eq.trans (World.drewN_drewN _ _ _) (congrArg (World.drewN _) (Nat.add_assoc _ _ _))⟩))); try go_wp2_with (first | (go_at_call 27; (with_reducible refine (head_Host.calls kj5 x6_5 t379 true _ ?side1 A12.out).mono ?_); (case side1 => exact ML.keep HML.out (zB HB)); rintro e w17 ⟨rfl, hb⟩; replace HB := zk HB hb; (try clear hb); (try clear hb2); (try clear hk); (try clear hi)) | (go_at_call 23; (with_reducible refine (head_path.calls kj5 x2_5 true _ A14.out).mono ?_); rintro e w' ⟨rfl, ⟨nd, rfl⟩⟩; (try first | exact ⟨rfl, _, World.drewN_drewN _ _ _⟩ | exact ⟨rfl, _, Eq.trans (World.drewN_drewN _ _ _) (congrArg (World.drewN _) (Nat.add_assoc _ _ _))⟩)) | (go_at_call 24; (with_reducible refine (head_such.calls kj5 t374 true t382 _ A16.out).mono ?_); rintro e w' ⟨rfl, ⟨nd, rfl⟩⟩; (try first | exact ⟨rfl, _, World.drewN_drewN _ _ _⟩ | exact ⟨rfl, _, Eq.trans (World.drewN_drewN _ _ _) (congrArg (World.drewN _) (Nat.add_assoc _ _ _))⟩))))
    refine bodyPost_ret (results_list (rs := [.tmp 2, .tmp 3, .tmp 4, .tmp 5]) rfl (by simp) (.tmp (.tmp (.tmp (.tmp .nil))))) rfl ?_;exact ⟨zE, zB HB⟩
   replace c15 := zq.mpr c15;subst c15;have H1 := H; rw [zn (show ¬ (false = true) by decide)] at H1;clear H;have H := H1;clear H1;simp only [Option.some.injEq, Prod.mk.injEq] at H;obtain ⟨rfl, rfl, rfl, rfl⟩ := H;go_wp2_with (first | (go_at_call 27; (with_reducible refine (head_Host.calls kj5 x6_5 t379 true _ ?side1 A12.out).mono ?_); (case side1 => exact ML.keep HML.out (zB HB)); rintro e w18 ⟨rfl, hb⟩; replace HB := zk HB hb; (try clear hb); (try clear hb2); (try clear hk); (try clear hi)) | (go_at_call 23; (with_reducible refine (head_path.calls kj5 x2_5 false _ A14.out).mono ?_); rintro e w' ⟨rfl, ⟨nd, rfl⟩⟩; (try first | exact ⟨rfl, _, World.drewN_drewN _ _ _⟩ | exact ⟨rfl, _, Eq.trans (World.drewN_drewN _ _ _) (congrArg (World.drewN _) (Nat.add_assoc _ _ _))⟩)))
   repeat (go_quiet (first | (go_at_call 27; (with_reducible refine (head_Host.calls kj5 x6_5 t379 true _ ?side1 A12.out).mono ?_); (case side1 => exact ML.keep HML.out (zB HB)); rintro e w18 ⟨rfl, hb⟩; replace HB := zk HB hb; (try clear hb); (try clear hb2); (try clear hk); (try clear hi)) | (go_at_call 23; (with_reducible refine (head_path.calls kj5 x2_5 false _ A14.out).mono ?_); rintro e w' ⟨rfl, ⟨nd, rfl⟩⟩; (try first | exact ⟨rfl, _, World.drewN_drewN _ _ _⟩ | exact ⟨rfl, _, Eq.trans (World.drewN_drewN _ _ _) (congrArg (World.drewN _) (Nat.add_assoc _ _ _))⟩))); try go_wp2_with (first | (go_at_call 27; (with_reducible refine (head_Host.calls kj5 x6_5 t379 true _ ?side1 A12.out).mono ?_); (case side1 => exact ML.keep HML.out (zB HB)); rintro e w18 ⟨rfl, hb⟩; replace HB := zk HB hb; (try clear hb); (try clear hb2); (try clear hk); (try clear hi)) | (go_at_call 23; (with_reducible refine (head_path.calls kj5 x2_5 false _ A14.out).mono ?_); rintro e w' ⟨rfl, ⟨nd, rfl⟩⟩; (try first | exact ⟨rfl, _, World.drewN_drewN _ _ _⟩ | exact ⟨rfl, _, Eq.trans (World.drewN_drewN _ _ _) (congrArg (World.drewN _) (Nat.add_assoc _ _ _))⟩))))
   refine bodyPost_ret (results_list (rs := [.tmp 2, .tmp 3, .tmp 4, .tmp 5]) rfl (by simp) (.tmp (.tmp (.tmp (.tmp .nil))))) rfl ?_;exact ⟨zE, zB HB⟩

end Go.Proofs.YtpigfccpogmeaaaGreatDoor.S
end
