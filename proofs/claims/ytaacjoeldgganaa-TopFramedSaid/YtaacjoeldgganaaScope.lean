/- A scope with two labels: 'goto 0' goes to a tail, 'goto 1' back to a round. No program in sight. -/
import Derived.WalkMore
import Derived.ScopeJumps
import Derived.Deep.LoopGhost
namespace Go.Proofs.Ytaacjoeldgganaa.Scope
open Go
/-- As Q; by a goto to label 0: K0; to label 1: K1; by any other goto: no way out. -/
def _root_.Go.Exit.two (Q : Exit → Act → World → Prop) (K0 K1 : Act → World → Prop) : Exit → Act → World → Prop
  | .goto l, a, w => (l = 0 ∧ K0 a w) ∨ (l = 1 ∧ K1 a w)
  | e, a, w => Q e a w
section
variable {P : Program} {a : Act} {w : World} {Q : Exit → Act → World → Prop} {K0 K1 : Act → World → Prop}
theorem _root_.Go.Exit.two_ret : Exit.two Q K0 K1 .ret a w = Q .ret a w := rfl
theorem _root_.Go.Exit.two_normal : Exit.two Q K0 K1 .normal a w = Q .normal a w := rfl
theorem _root_.Go.Exit.two_exit (id : Nat) : Exit.two Q K0 K1 (.exit id) a w = Q (.exit id) a w := rfl
theorem _root_.Go.Exit.two_panic (ch : List PanicEntry) : Exit.two Q K0 K1 (.panic ch) a w = Q (.panic ch) a w := rfl
theorem two_mono {K1' : Act → World → Prop} (h : ∀ a w, K1 a w → K1' a w) (e : Exit) (a : Act) (w : World) (hq : Exit.two Q K0 K1 e a w) : Exit.two Q K0 K1' e a w := by
  cases e with
  | goto l =>
    rcases hq with ⟨h1, h2⟩ | ⟨h1, h2⟩
    · exact Or.inl ⟨h1, h2⟩
    · exact Or.inr ⟨h1, h _ _ h2⟩
  | normal => exact hq
  | exit id => exact hq
  | ret => exact hq
  | panic ch => exact hq
  | outgrown => exact hq
/-- The round from label 1 on: an invariant that bears a number, which every round lowers. -/
def LW (P : Program) (r1 : Code) (K0 : Act → World → Prop) (Q : Exit → Act → World → Prop) (a : Act) (w : World) : Prop :=
  ∃ (I : Nat → Act → World → Prop) (n₀ : Nat), I n₀ a w ∧ ∀ n a w, I n a w → r1.wp P (Exit.two Q K0 (fun a' w' => ∃ n', n' < n ∧ I n' a' w')) a w
theorem LW.enter {r1 : Code} (hK1 : ∀ a w, LW P r1 K0 Q a w → K1 a w) (h : LW P r1 K0 Q a w) : r1.wp P (Exit.two Q K0 K1) a w := by
  obtain ⟨I, n₀, h0, hI⟩ := h
  exact wp_mono (hI n₀ a w h0) (two_mono fun a' w' ⟨n', _, hn'⟩ => hK1 a' w' ⟨I, n', hn', hI⟩)
theorem wp_scope_two {c r0 r1 : Code} (h0 : findLabel c 0 = some (.seq .skip r0)) (h1 : findLabel c 1 = some (.seq .skip r1))
    (first : ∀ K0 : Act → World → Prop, (∀ a w, r0.wp P (Exit.noGoto Q) a w → K0 a w) → ∀ K1 : Act → World → Prop, (∀ a w, LW P r1 K0 Q a w → K1 a w) → c.wp P (Exit.two Q K0 K1) a w) : (Code.scope c).wp P Q a w := by
  have first := first (fun a w => r0.wp P (Exit.noGoto Q) a w) (fun _ _ h => h) (fun a w => LW P r1 (fun a w => r0.wp P (Exit.noGoto Q) a w) Q a w) (fun _ _ h => h)
  intro b k cs
  have hg0 : gotoIn 0 (.inScope c :: k) = some (.code (.seq .skip r0) :: .inScope c :: k) := by simp [gotoIn, h0]
  have hg1 : gotoIn 1 (.inScope c :: k) = some (.code (.seq .skip r1) :: .inScope c :: k) := by simp [gotoIn, h1]
  have key0 : ∀ a w, r0.wp P (Exit.noGoto Q) a w → ∃ e a' w', Q e a' w' ∧ Arrives P (lone (b.at a (.code (.seq .skip r0) :: .inScope c :: k)) cs w) b k cs e a' w' := by
    intro a w h
    have h : (Code.seq .skip r0).wp P (Exit.noGoto Q) a w := wp_seq (wp_skip h)
    obtain ⟨e, a₁, w₁, hq, harr⟩ := h b (.inScope c :: k) cs
    cases e with
    | normal => exact ⟨.normal, a₁, w₁, hq, Steps.trans harr (.one step_inScope)⟩
    | exit id => exact ⟨.exit id, a₁, w₁, hq, fun k' hk => harr k' (by simp [exitTo, hk])⟩
    | goto l => exact hq.elim
    | ret => exact ⟨_, a₁, w₁, hq, harr⟩
    | panic ch => exact ⟨_, a₁, w₁, hq, harr⟩
    | outgrown => exact ⟨_, a₁, w₁, hq, harr⟩
  have key1 : ∀ I : Nat → Act → World → Prop, (∀ n a w, I n a w → r1.wp P (Exit.two Q (fun a w => r0.wp P (Exit.noGoto Q) a w) (fun a' w' => ∃ n', n' < n ∧ I n' a' w')) a w) →
      ∀ n a w, I n a w → ∃ e a' w', Q e a' w' ∧ Arrives P (lone (b.at a (.code (.seq .skip r1) :: .inScope c :: k)) cs w) b k cs e a' w' := by
    intro I hI n
    induction n using Nat.strongRecOn with
    | _ n ih =>
      intro a w hJ
      have h : (Code.seq .skip r1).wp P (Exit.two Q (fun a w => r0.wp P (Exit.noGoto Q) a w) (fun a' w' => ∃ n', n' < n ∧ I n' a' w')) a w := wp_seq (wp_skip (hI n a w hJ))
      obtain ⟨e, a₁, w₁, hq, harr⟩ := h b (.inScope c :: k) cs
      cases e with
      | normal => exact ⟨.normal, a₁, w₁, hq, Steps.trans harr (.one step_inScope)⟩
      | exit id => exact ⟨.exit id, a₁, w₁, hq, fun k' hk => harr k' (by simp [exitTo, hk])⟩
      | goto l' =>
        rcases hq with ⟨rfl, hq⟩ | ⟨rfl, n', hlt, hn'⟩
        · obtain ⟨e₂, a₂, w₂, hq₂, harr₂⟩ := key0 _ _ hq
          exact ⟨e₂, a₂, w₂, hq₂, .of_steps (harr _ hg0) harr₂⟩
        · obtain ⟨e₂, a₂, w₂, hq₂, harr₂⟩ := ih n' hlt _ _ hn'
          exact ⟨e₂, a₂, w₂, hq₂, .of_steps (harr _ hg1) harr₂⟩
      | ret => exact ⟨_, a₁, w₁, hq, harr⟩
      | panic ch => exact ⟨_, a₁, w₁, hq, harr⟩
      | outgrown => exact ⟨_, a₁, w₁, hq, harr⟩
  obtain ⟨e, a₁, w₁, hq, harr⟩ := first b (.inScope c :: k) cs
  cases e with
  | normal => exact ⟨.normal, a₁, w₁, hq, .head step_scope (Steps.trans harr (.one step_inScope))⟩
  | exit id => exact ⟨.exit id, a₁, w₁, hq, fun k' hk => .head step_scope (harr k' (by simp [exitTo, hk]))⟩
  | goto l' =>
    rcases hq with ⟨rfl, hq⟩ | ⟨rfl, I, n₀, hI0, hI⟩
    · obtain ⟨e₂, a₂, w₂, hq₂, harr₂⟩ := key0 _ _ hq
      exact ⟨e₂, a₂, w₂, hq₂, .of_steps (.head step_scope (harr _ hg0)) harr₂⟩
    · obtain ⟨e₂, a₂, w₂, hq₂, harr₂⟩ := key1 I hI n₀ _ _ hI0
      exact ⟨e₂, a₂, w₂, hq₂, .of_steps (.head step_scope (harr _ hg1)) harr₂⟩
  | ret => exact ⟨_, a₁, w₁, hq, .of_steps (.one step_scope) harr⟩
  | panic ch => exact ⟨_, a₁, w₁, hq, .of_steps (.one step_scope) harr⟩
  | outgrown => exact ⟨_, a₁, w₁, hq, .of_steps (.one step_scope) harr⟩
end
end Go.Proofs.Ytaacjoeldgganaa.Scope
