/-
What is proved: a law over one slice of numbers ends well at the machine where its lone run at the second program returns true ('law_of_slice'). Conditions: those that the theorems state.
-/
import Derived.Test.YtjklkppncmhehaaSf24
import Derived.WideShapes
set_option linter.unusedVariables false
set_option linter.unusedSimpArgs false
namespace Go.Proofs.Ytjklkppncmhehaa.Sr
open Go Go.Conc
def SlIn (W : World) (A : Option Addr) : Prop := ∀ a, A = some a → a.spot = none ∧ ∃ cs e fz, W.heap[a.block]? = some (.cells cs e fz)
theorem slIn_of {P : Program} {W : World} {r : Reach} {b0 : Nat} {t e : TypeId} (ht : P.underlying t = some (.slice e)) {A : Option Addr} {n c : Nat} (h : Value.okWide P W r b0 t (.slice A n c)) : SlIn W A := by
  intro a ha; subst ha; simp only [Value.okWide, ht, Cell.okWide, Cell.ok, World.has] at h; obtain ⟨_, _, _, h1, row, cells, h2, _⟩ := h; refine ⟨h1, ?_⟩; unfold World.shape? at h2; split at h2
  · rename_i cs el fz hh
    exact ⟨cs, el, fz, hh⟩
  · cases h2
theorem law_of_slice {f : FuncId} {A : Option Addr} {n c : Nat} {W : World} (hgf : goodA f = true) (hsf : specA f = false) (hA : SlIn W A)
    (hlaw : ∀ v : World, (∀ q k z, W.cell? q = some (.int k z) → v.cell? q = some (.int k z)) → v.heap.size = W.heap.size → Calls Tw.prog f #[.slice A n c] v LawR) :
    ∃ M last o w' t', runNT Try.prog (M + 1) (solo (G (Frame.enter Try.prog f #[.slice A n c] .normal) []) W) #[] = (.ended o w', t') ∧ runN Try.prog M (solo (G (Frame.enter Try.prog f #[.slice A n c] .normal) []) W) = .next last ∧ step Try.prog last = .ended o w' ∧
      Go.Conc.Good Try.prog (fun x W' => x = .bool true ∧ Go.RowKit.Below W.heap.size W W') last o w' t' := by
  obtain ⟨v, m, hm, hS, hw, hfz, hc, hz⟩ := code_left goodA W (fun b => ∃ a, A = some a ∧ a.block = b) (by rintro b ⟨a, ha, rfl⟩; exact (hA a ha).2)
  refine twin_law (us := #[.slice A n c]) hgf hsf hm ⟨rfl, fun i h1 h2 => ?_⟩ hw hfz fun T => hlaw (v.on T 0) hc hz
  have hi : i = 0 := by simp at h1; omega
  subst hi; show VR m (.slice A n c) (.slice A n c)
  cases hA' : A with
  | none => exact .nilSlice n c
  | some a => exact .slice n c ⟨hS _ ⟨a, hA', rfl⟩, rfl, (hA a hA').1, (hA a hA').1⟩
end Go.Proofs.Ytjklkppncmhehaa.Sr
