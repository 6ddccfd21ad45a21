import Derived.Test.YtaacjoeldgganaaTFf
import Derived.Defers
import Derived.Recover
import Derived.Tactics2
/-! The deferred caught, in a frame that returns. -/
namespace Go.Proofs.Ytaacjoeldgganaa.S
open Go.RowKit Go.Proofs.YtaacjoeldgganaaW.PrintWords Go.Proofs.YtaacjoeldgganaaW.PrintLast Go.Proofs.YtaacjoeldgganaaW.PrintMore
set_option linter.unusedVariables false
set_option linter.unusedSimpArgs false
set_option maxHeartbeats 2000000 in
theorem caught_idle (p : Addr) (w : World) :
    CallsD Try.prog 18 #[.pointer (some p)] .returning w fun e u' w' => e = .returned (.tuple #[]) ∧ u' = .returning ∧ w' = w := by
  refine callsD_of_wpS Try.func18 rfl fun c₀ cs hu => ?_
  apply wpS_seq
  apply wpS_region
  simp [wpOpsS, go_sem, recoverD, hu, Try.ntmps18, Exit.thenS]
  refine wpS_of_wp ?_
  go_wp2
  cases c₀
  simp_all [bodyPostS, results, Try.results18]
theorem leaves_put {P : Program} {fn : Func} {R : Ending → World → Prop} {t t' : Array Value} (h : results fn t = results fn t') : ∀ (ds : List Deferred) (u : FrameMode) (w : World), Leaves P fn t R ds u w → Leaves P fn t' R ds u w
  | [], .returning, w, hl => by
    obtain ⟨v, h1, h2⟩ := hl
    exact ⟨v, by rw [← h]; exact h1, h2⟩
  | [], .panicking c, w, hl => hl
  | [], .run, w, hl => hl
  | d :: ds, u, w, hl => by
    obtain ⟨h1, fv, cap, f, args, h2, h3, h4⟩ := hl
    refine ⟨h1, fv, cap, f, args, h2, h3, h4.mono ?_⟩
    intro e u' w' h5
    cases e with
    | returned v => exact leaves_put h ds _ _ h5
    | panicked c => exact leaves_put h ds _ _ h5
    | outgrown => exact h5
theorem put_panic {P : Program} {fn : Func} {R : Ending → World → Prop} {c : List PanicEntry} {a : Act} {w : World} {i : Nat} {v : Value} (h : ∀ t : Array Value, results fn (t.setIfInBounds i v) = results fn t) (hb : bodyPostD P fn R (.panic c) (a.put (some i) v) w) : bodyPostD P fn R (.panic c) a w :=
  leaves_put (h a.tmps) _ _ _ hb
theorem res7 (t : Array Value) (i : Nat) (v : Value) (h2 : i ≠ 2) (h3 : i ≠ 3) : results Try.f7 (t.setIfInBounds i v) = results Try.f7 t := by
  simp [results, Try.results7, Array.getElem?_setIfInBounds, h2, h3]
theorem results_msg {w : World} {gx ge : Nat} {cs : Array Value} {x : Int} (tmps : Array Value) (hp : tmps.getD 2 undef = .pointer (some ⟨gx, 0, none⟩)) (hp' : tmps.getD 3 undef = .pointer (some ⟨ge, 0, none⟩)) (hx : w.heap[gx]? = some (.cells cs 32 (0, 0))) (hs : cs.size = 12) (he : w.cell? ⟨ge, 0, none⟩ = some (.int .i64 x)) :
    (results Try.f7 tmps).run Try.prog w = .ok (.tuple #[.agg cs, .int .i64 x]) w := by
  have h2 : tmps[2]?.getD undef = .pointer (some ⟨gx, 0, none⟩) := by simpa using hp
  have h3 : tmps[3]?.getD undef = .pointer (some ⟨ge, 0, none⟩) := by simpa using hp'
  have hi : (Try.prog.info? 32).map (·.size) = some cs.size := by rw [hs]; kernel_rfl
  have e1 : (loadVar 26 ⟨ge, 0, none⟩).run Try.prog w = .ok (.int .i64 x) w := by simp [go_sem, he]
  simp [results, Try.results7, h2, h3, asAddr, run_loadVar_row w gx 32 32 cs (0, 0) _ hx Try.underlying32 rfl hi, e1]
end Go.Proofs.Ytaacjoeldgganaa.S
