/-
What is proved: of each operation that changes memory, what it does to trees. No condition. of alloc, box, build, buildSlice, makeSlice, store, append, slice, max and min, what each does to trees. No condition. of store, buildSlice and makeSlice, what each does to trees. No condition.
-/
import Derived.Test.YtjklkppncmhehaaSf26
import Derived.Laws.AppendOwnNone
set_option linter.unusedVariables false
set_option linter.unusedSimpArgs false
namespace Go.Proofs.Ytjklkppncmhehaa.T
open Go Go.RowKit
theorem gt_append (b : Nat) (x y : List (Nat × Blk)) : gt b (x ++ y) = match gt b x with | some z => some z | none => gt b y := by
  induction x with
  | nil => rfl
  | cons a x ih =>
    obtain ⟨u, z⟩ := a; simp only [List.cons_append, gt]; split
    · rfl
    · exact ih
theorem upd_upd (get : Nat → Option Blk) (x y : List (Nat × Blk)) : upd (upd get y) x = upd get (x ++ y) := by
  funext b
  simp only [upd, gt_append]
  cases gt b x <;> rfl
theorem upd_cons (get : Nat → Option Blk) (b : Nat) (y : Blk) (Δ : List (Nat × Blk)) : upd get ((b, y) :: Δ) = upd (upd get Δ) [(b, y)] := by rw [upd_upd]; rfl
theorem upd_one (get : Nat → Option Blk) (b : Nat) (y : Blk) (c : Nat) : upd get [(b, y)] c = if c = b then some y else get c := by
  simp only [upd, gt]; split <;> simp_all
section
variable {C : Ctx} {env : Nat → GV} {get : Nat → Option Blk} {a : Act} {w w' : World} {ρ : Nat → Option Value} {D : Nat → Prop}
theorem Rel.move (h : Rel C env get a w ρ D) {b b' : Nat} {y : Blk} {x' : Value} (hb' : get b' = none) (hold : ∃ z, get b = some z ∧ z.live = true) (e1 : w'.os = w.os) (e2 : w'.tape = w.tape) (e3 : w'.output = w.output) (e4 : w.heap.size ≤ w'.heap.size)
    (hk : ∀ k, k < w.heap.size → blkOf (ρ b) ≠ some k → w'.heap[k]? = w.heap[k]?) (hx : ∀ g, blkOf (some x') = some g → blkOf (ρ b) = some g ∨ w.heap.size ≤ g) (hy : BRep (fun c => if c = b' then some x' else ρ c) w' D (some x') y) :
    Rel C env (upd get [(b', y), (b, .dead)]) a w' (fun c => if c = b' then some x' else ρ c) D := by
  obtain ⟨z, hz, hzl⟩ := hold; have hbb : b ≠ b' := by rintro rfl; rw [hb'] at hz; cases hz
  have hρ : ∀ c x, ρ c = some x → (fun c => if c = b' then some x' else ρ c) c = some x := fun c x hc => by
    have : c ≠ b' := by rintro rfl; rw [h.free _ hb'] at hc; cases hc
    simp [this, hc]
  have hnD : ∀ g, blkOf (ρ b) = some g → ¬ D g ∧ (C.M g ∨ C.W.heap.size ≤ g) := fun g hg => h.own b z g hz hzl hg
  have hK : Keeps D w w' := fun k hd => hk k (h.ro k hd).1 fun e => (hnD k e).1 hd
  have hsz := h.size; refine ⟨e1.trans h.os, e2.trans h.tape, e3.trans h.output, by omega, fun k hlt hM => ?_, fun k hd => ⟨Nat.lt_of_lt_of_le (h.ro k hd).1 e4, (h.ro k hd).2⟩, fun c hc => ?_, fun c y' hc => ?_, fun c y' g hc hl hg => ?_, fun c y1 c' y2 g hc hl hc' hl' hg hg' => ?_, fun t => (h.env t).keep hρ hK fun _ h => h, h.defers, h.nt, fun b x hx => hρ b x (h.ext b x hx)⟩
  · rw [hk k (by omega) (fun e => ?_)]
    · exact h.old k hlt hM
    · rcases (hnD k e).2 with h1 | h1
      · exact hM h1
      · omega
  · simp only [upd, gt] at hc
    split at hc
    · cases hc
    · rename_i hg
      have : c ≠ b' := by rintro rfl; simp at hg
      simp only [this, if_false]; exact h.free c hc
  · simp only [upd, gt] at hc
    by_cases e : c = b'
    · subst e
      simp only [if_true, Option.some.injEq] at hc; subst hc; simp only [if_true]; exact hy
    · by_cases e' : c = b
      · simp only [e, e', hbb, if_false, if_true, Option.some.injEq] at hc
        subst hc; trivial
      · simp only [e, e', if_false] at hc
        simp only [e, if_false]; refine (h.blk c y' hc).keep hρ hK (fun _ h => h) ?_
        by_cases hl : y'.live = true
        · right
          intro g hg; exact hk g (h.size_lt hc hl hg) fun e2 => e' (h.sep c y' b z g hc hl hz hzl hg e2)
        · left
          cases y' <;> simp [Blk.live] at hl
          rfl
  · simp only [upd, gt] at hc
    by_cases e : c = b'
    · subst e
      simp only [if_true] at hg; rcases hx g hg with h1 | h1
      · exact hnD g h1
      · exact ⟨fun hd => by have := (h.ro g hd).1; omega, .inr (by omega)⟩
    · by_cases e' : c = b
      · simp only [e, e', hbb, if_false, if_true, Option.some.injEq] at hc
        subst hc; simp [Blk.live] at hl
      · simp only [e, e', if_false] at hc
        simp only [e, if_false] at hg; exact h.own c y' g hc hl hg
  · simp only [upd, gt] at hc hc'
    have key : ∀ c y1, c ≠ b' → (match (if c = b' then some y else if c = b then some Blk.dead else none) with | some y => some y | none => get c) = some y1 → y1.live = true → c ≠ b ∧ get c = some y1 := by
      intro c y1 e hc hl; by_cases e' : c = b
      · simp only [e, e', hbb, if_false, if_true, Option.some.injEq] at hc
        subst hc; simp [Blk.live] at hl
      · simp only [e, e', if_false] at hc
        exact ⟨e', hc⟩
    by_cases e : c = b' <;> by_cases e' : c' = b'
    · rw [e, e']
    · obtain ⟨n1, n2⟩ := key c' y2 e' hc' hl'
      simp only [e', if_false] at hg'; simp only [e, if_true] at hg; exfalso
      rcases hx g hg with h1 | h1
      · exact n1 (h.sep c' y2 b z g n2 hl' hz hzl hg' h1)
      · have := h.size_lt n2 hl' hg'; omega
    · obtain ⟨n1, n2⟩ := key c y1 e hc hl
      simp only [e, if_false] at hg; simp only [e', if_true] at hg'; exfalso
      rcases hx g hg' with h1 | h1
      · exact n1 (h.sep c y1 b z g n2 hl hz hzl hg h1)
      · have := h.size_lt n2 hl hg; omega
    · obtain ⟨_, n2⟩ := key c y1 e hc hl
      obtain ⟨_, m2⟩ := key c' y2 e' hc' hl'; simp only [e, if_false] at hg; simp only [e', if_false] at hg'; exact h.sep c y1 c' y2 g n2 hl m2 hl' hg hg'
theorem Rel.alloc (h : Rel C env get a w ρ D) {b' : Nat} {y : Blk} {x' : Value} (hb' : get b' = none) (e1 : w'.os = w.os) (e2 : w'.tape = w.tape) (e3 : w'.output = w.output) (e4 : w.heap.size ≤ w'.heap.size)
    (hk : ∀ k, k < w.heap.size → w'.heap[k]? = w.heap[k]?) (hx : ∀ g, blkOf (some x') = some g → w.heap.size ≤ g) (hy : BRep (fun c => if c = b' then some x' else ρ c) w' D (some x') y) :
    Rel C env (upd get [(b', y)]) a w' (fun c => if c = b' then some x' else ρ c) D := by
  have hρ : ∀ c x, ρ c = some x → (fun c => if c = b' then some x' else ρ c) c = some x := fun c x hc => by
    have : c ≠ b' := by rintro rfl; rw [h.free _ hb'] at hc; cases hc
    simp [this, hc]
  have hK : Keeps D w w' := fun k hd => hk k (h.ro k hd).1
  have hsz := h.size; refine ⟨e1.trans h.os, e2.trans h.tape, e3.trans h.output, by omega, fun k hlt hM => (hk k (by omega)).trans (h.old k hlt hM), fun k hd => ⟨Nat.lt_of_lt_of_le (h.ro k hd).1 e4, (h.ro k hd).2⟩, fun c hc => ?_, fun c y' hc => ?_, fun c y' g hc hl hg => ?_, fun c y1 c' y2 g hc hl hc' hl' hg hg' => ?_, fun t => (h.env t).keep hρ hK fun _ h => h, h.defers, h.nt, fun b x hx => hρ b x (h.ext b x hx)⟩
  · rw [upd_one] at hc
    split at hc
    · cases hc
    · rename_i e
      simp only [e, if_false]; exact h.free c hc
  · rw [upd_one] at hc
    by_cases e : c = b'
    · simp only [e, if_true, Option.some.injEq] at hc ⊢
      subst hc; exact hy
    · simp only [e, if_false] at hc ⊢
      refine (h.blk c y' hc).keep hρ hK (fun _ h => h) ?_
      by_cases hl : y'.live = true
      · exact .inr fun g hg => hk g (h.size_lt hc hl hg)
      · left
        cases y' <;> simp [Blk.live] at hl
        rfl
  · rw [upd_one] at hc
    by_cases e : c = b'
    · simp only [e, if_true] at hg
      have h1 := hx g hg; exact ⟨fun hd => by have := (h.ro g hd).1; omega, .inr (by omega)⟩
    · simp only [e, if_false] at hc hg
      exact h.own c y' g hc hl hg
  · rw [upd_one] at hc hc'
    by_cases e : c = b' <;> by_cases e' : c' = b'
    · rw [e, e']
    · simp only [e', if_false] at hg' hc'
      simp only [e, if_true] at hg; have h1 := hx g hg; have := h.size_lt hc' hl' hg'; omega
    · simp only [e, if_false] at hg hc
      simp only [e', if_true] at hg'; have h1 := hx g hg'; have := h.size_lt hc hl hg; omega
    · simp only [e, if_false] at hg hc
      simp only [e', if_false] at hg' hc'; exact h.sep c y1 c' y2 g hc hl hc' hl' hg hg'
theorem Rel.change (h : Rel C env get a w ρ D) {b : Nat} {y z : Blk} (hz : get b = some z) (hzl : z.live = true) (e1 : w'.os = w.os) (e2 : w'.tape = w.tape) (e3 : w'.output = w.output) (e4 : w.heap.size ≤ w'.heap.size)
    (hk : ∀ k, k < w.heap.size → blkOf (ρ b) ≠ some k → w'.heap[k]? = w.heap[k]?) (hy : BRep ρ w' D (ρ b) y) : Rel C env (upd get [(b, y)]) a w' ρ D := by
  have hnD : ∀ g, blkOf (ρ b) = some g → ¬ D g ∧ (C.M g ∨ C.W.heap.size ≤ g) := fun g hg => h.own b z g hz hzl hg
  have hK : Keeps D w w' := fun k hd => hk k (h.ro k hd).1 fun e => (hnD k e).1 hd
  have hsz := h.size; refine ⟨e1.trans h.os, e2.trans h.tape, e3.trans h.output, by omega, fun k hlt hM => ?_, fun k hd => ⟨Nat.lt_of_lt_of_le (h.ro k hd).1 e4, (h.ro k hd).2⟩, fun c hc => ?_, fun c y' hc => ?_, fun c y' g hc hl hg => ?_, fun c y1 c' y2 g hc hl hc' hl' hg hg' => ?_, fun t => (h.env t).keep (fun _ _ h => h) hK fun _ h => h, h.defers, h.nt, h.ext⟩
  · rw [hk k (by omega) (fun e => ?_)]
    · exact h.old k hlt hM
    · rcases (hnD k e).2 with h1 | h1
      · exact hM h1
      · omega
  · rw [upd_one] at hc
    split at hc
    · cases hc
    · exact h.free c hc
  · rw [upd_one] at hc
    by_cases e : c = b
    · simp only [e, if_true, Option.some.injEq] at hc
      subst hc; subst e; exact hy
    · simp only [e, if_false] at hc
      refine (h.blk c y' hc).keep (fun _ _ h => h) hK (fun _ h => h) ?_
      by_cases hl : y'.live = true
      · exact .inr fun g hg => hk g (h.size_lt hc hl hg) fun e2 => e (h.sep c y' b z g hc hl hz hzl hg e2)
      · left
        cases y' <;> simp [Blk.live] at hl
        rfl
  · rw [upd_one] at hc
    by_cases e : c = b
    · subst e; exact hnD g hg
    · simp only [e, if_false] at hc
      exact h.own c y' g hc hl hg
  · rw [upd_one] at hc hc'
    by_cases e : c = b <;> by_cases e' : c' = b
    · rw [e, e']
    · subst e
      simp only [e', if_false] at hc'; exact h.sep c z c' y2 g hz hzl hc' hl' hg hg'
    · subst e'
      simp only [e, if_false] at hc; exact h.sep c y1 c' z g hc hl hz hzl hg hg'
    · simp only [e, if_false] at hc
      simp only [e', if_false] at hc'; exact h.sep c y1 c' y2 g hc hl hc' hl' hg hg'
theorem Rel.consume (h : Rel C env get a w ρ D) (bs : List Nat) (hb : ∀ b ∈ bs, ∃ z, get b = some z ∧ z.live = true) : ∃ D' : Nat → Prop, Rel C env (upd get (bs.map fun b => (b, .dead))) a w ρ D' ∧ (∀ k, D k → D' k) ∧ ∀ b ∈ bs, ∀ g, blkOf (ρ b) = some g → D' g := by
  have hgt : ∀ c, gt c (bs.map fun b => (b, Blk.dead)) = if c ∈ bs then some .dead else none := by
    intro c; induction bs with
    | nil => rfl
    | cons b bs ih =>
      simp only [List.map_cons, gt, List.mem_cons]; rw [ih fun b hb' => hb b (List.mem_cons_of_mem _ hb')]
      by_cases e : c = b <;> simp [e]
  have hup : ∀ c, upd get (bs.map fun b => (b, Blk.dead)) c = if c ∈ bs then some .dead else get c := by
    intro c; simp only [upd, hgt]; split <;> simp_all
  have hin : ∀ k, D k → D k ∨ ∃ b ∈ bs, blkOf (ρ b) = some k := fun k => .inl
  refine ⟨fun k => D k ∨ ∃ b ∈ bs, blkOf (ρ b) = some k, ⟨h.os, h.tape, h.output, h.size, h.old, fun k hk => ?_, fun c hc => ?_, fun c y hc => ?_, fun c y g hc hl hg => ?_, fun c y1 c' y2 g hc hl hc' hl' hg hg' => ?_, fun t => (h.env t).keep (fun _ _ h => h) (Keeps.refl _ _) hin, h.defers, h.nt, h.ext⟩, hin, fun b hb' g hg => .inr ⟨b, hb', hg⟩⟩
  · rcases hk with hk | ⟨b, hb', hg⟩
    · exact h.ro k hk
    · obtain ⟨z, hz, hl⟩ := hb b hb'
      exact ⟨h.size_lt hz hl hg, .inr (h.own b z k hz hl hg).2⟩
  · rw [hup] at hc
    split at hc
    · cases hc
    · exact h.free c hc
  · rw [hup] at hc
    split at hc
    · cases hc; trivial
    · exact (h.blk c y hc).keep (fun _ _ h => h) (Keeps.refl _ _) hin (.inr fun _ _ => rfl)
  · rw [hup] at hc
    split at hc
    · cases hc; simp [Blk.live] at hl
    · rename_i hn
      obtain ⟨h1, h2⟩ := h.own c y g hc hl hg; refine ⟨?_, h2⟩; rintro (hd | ⟨b, hb', hg'⟩)
      · exact h1 hd
      · obtain ⟨z, hz, hzl⟩ := hb b hb'
        have := h.sep c y b z g hc hl hz hzl hg hg'
        subst this; exact hn hb'
  · rw [hup] at hc hc'
    split at hc
    · cases hc; simp [Blk.live] at hl
    · split at hc'
      · cases hc'; simp [Blk.live] at hl'
      · exact h.sep c y1 c' y2 g hc hl hc' hl' hg hg'
end
/-! ### cells that are laid into read-only memory -/
def TState.toRT (s : TState) : TV → Option (RT × List Nat)
  | .r t => some (t, [])
  | .own b => match s.get b with
    | some (.rows _ k xs) => some (.sl k xs, [b])
    | _ => none
  | _ => none
def TState.toRTs (s : TState) : List TV → Option (List RT × List Nat)
  | [] => some ([], [])
  | t :: ts => match s.toRT t with
    | some (r, bs) => match s.toRTs ts with
      | some (rs, cs) => some (r :: rs, bs ++ cs)
      | none => none
    | none => none
theorem toRT_live {s : TState} {t : TV} {r : RT} {bs : List Nat} (h : s.toRT t = some (r, bs)) : ∀ b ∈ bs, ∃ e k xs, s.get b = some (.rows e k xs) := by
  unfold TState.toRT at h; split at h
  · cases h; intro b hb; cases hb
  · split at h
    · rename_i hg
      cases h; intro b hb; simp only [List.mem_cons, List.not_mem_nil, or_false] at hb; subst hb; exact ⟨_, _, _, hg⟩
    · cases h
  · cases h
theorem toRTs_live {s : TState} : ∀ {ts : List TV} {r : List RT} {bs : List Nat}, s.toRTs ts = some (r, bs) → ∀ b ∈ bs, ∃ e k xs, s.get b = some (.rows e k xs)
  | [], _, _, h => by cases h; intro b hb; cases hb
  | t :: ts, r, bs, h => by
    unfold TState.toRTs at h; split at h
    · rename_i h1
      split at h
      · rename_i h2
        cases h; intro b hb; rcases List.mem_append.1 hb with hb | hb
        · exact toRT_live h1 b hb
        · exact toRTs_live h2 b hb
      · cases h
    · cases h
theorem toRT_rep {C : Ctx} {env : Nat → GV} {get : Nat → Option Blk} {a : Act} {w : World} {ρ : Nat → Option Value} {D D' : Nat → Prop} {s : TState} (hR : Rel C env get a w ρ D) {t : TV} {r : RT} {bs : List Nat} (h : s.toRT t = some (r, bs))
    (hg : ∀ b ∈ bs, get b = s.get b) (hD : ∀ k, D k → D' k) (hb : ∀ b ∈ bs, ∀ g, blkOf (ρ b) = some g → D' g) {v : Value} (hr : TRep ρ w D v t) : RRep w D' v r := by
  unfold TState.toRT at h; split at h
  · cases h
    cases hr with | r hr => exact hr.keep (Keeps.refl _ _) hD
  · rename_i b
    split at h
    · rename_i e k xs hgb
      cases h; have hgb' : get b = some (.rows e k xs) := (hg b (List.mem_cons_self ..)).trans hgb
      obtain ⟨A, c, e1, h1, h2, h3, h4, h5⟩ := hR.blk b _ hgb'
      cases hr with | own hr =>
      rw [e1] at hr
      cases hr; rcases h5 with ⟨rfl, rfl, rfl⟩ | ⟨g, arr, rfl, h6, h7, h8⟩
      · exact .sl0 h2
      · refine .of_row h1 h2 (hb b (List.mem_cons_self ..) g (by rw [e1]; rfl)) fun i y hy => ⟨h4 i y hy, g, 0, rfl, fun j r hj => ⟨arr.getD (i * k + j) undef, ?_, (h8 i y hy j r hj).keep (Keeps.refl _ _) hD⟩⟩
        have hi : i < xs.length := (List.getElem?_eq_some_iff.1 hy).1
        have hj' : j < y.length := (List.getElem?_eq_some_iff.1 hj).1
        rw [h4 i y hy] at hj'; have hlt : i * k + j < arr.size := by
          rw [h7]
          calc i * k + j < i * k + k := by omega
            _ = (i + 1) * k := by rw [Nat.add_mul, Nat.one_mul]
            _ ≤ c * k := Nat.mul_le_mul_right k (by omega)
        simp [World.cell?, h6, Array.getD_eq_getD_getElem?, Array.getElem?_eq_getElem hlt]
    · cases h
  · cases h
theorem toRTs_rep {C : Ctx} {env : Nat → GV} {get : Nat → Option Blk} {a : Act} {w : World} {ρ : Nat → Option Value} {D D' : Nat → Prop} {s : TState} (hR : Rel C env get a w ρ D) (hD : ∀ k, D k → D' k) : ∀ {ts : List TV} {rs : List RT} {bs : List Nat}, s.toRTs ts = some (rs, bs) →
    (∀ b ∈ bs, get b = s.get b) → (∀ b ∈ bs, ∀ g, blkOf (ρ b) = some g → D' g) → rs.length = ts.length ∧ ∀ (i : Nat) (t : TV) (r : RT), ts[i]? = some t → rs[i]? = some r → ∀ v, TRep ρ w D v t → RRep w D' v r
  | [], _, _, h, _, _ => by cases h; exact ⟨rfl, fun i t r ht => by simp at ht⟩
  | t :: ts, rs, bs, h, hg, hb => by
    unfold TState.toRTs at h; split at h
    · rename_i r0 b0 h1
      split at h
      · rename_i rs' b1 h2
        cases h; obtain ⟨ih1, ih2⟩ := toRTs_rep hR hD h2 (fun b hb' => hg b (List.mem_append_right _ hb')) fun b hb' => hb b (List.mem_append_right _ hb')
        refine ⟨by simp [ih1], fun i t' r' ht hr v hv => ?_⟩
        cases i with
        | zero =>
          simp only [List.getElem?_cons_zero, Option.some.injEq] at ht hr; subst ht; subst hr; exact toRT_rep hR h1 (fun b hb' => hg b (List.mem_append_left _ hb')) hD (fun b hb' => hb b (List.mem_append_left _ hb')) hv
        | succ i =>
          simp only [List.getElem?_cons_succ] at ht hr; exact ih2 i t' r' ht hr v hv
      · cases h
    · cases h
end Go.Proofs.Ytjklkppncmhehaa.T
namespace Go.Proofs.Ytjklkppncmhehaa.T
open Go Go.RowKit
theorem OpL.act {P : Program} {E : List PanicEntry → World → Prop} {nt : Nat} {o : Oper} {fr : List (Nat × Option Blk)} {ins : List (Nat × GV)} {gv : GV} {Δ : List (Nat × Blk)} (hd : dstOk o nt = true)
    (h : ∀ C env get a w ρ D, (∀ x ∈ fr, get x.1 = x.2) → (∀ x ∈ ins, env x.1 = x.2) → Rel C env get a w ρ D → ∃ v w' ρ' D', (execOp a.eval o).run P w = .ok (.value v) w' ∧ Rel C env (upd get Δ) a w' ρ' D' ∧ GRep ρ' w' D' v gv) : OpL P E nt o fr ins gv Δ := by
  intro C env get a w K Q hn hf hi hR hK hE; obtain ⟨ρ, D, hR⟩ := hR; obtain ⟨v, w', ρ', D', hv, hR', hg⟩ := h C env get a w ρ D hf hi hR; unfold Oper.wp; rw [hv, Oper.upon_value]; refine hK _ _ ⟨ρ', D', hR'.put (fun d e => ?_) hg⟩
  unfold dstOk at hd; rw [e] at hd; simpa [hn] using hd
theorem OpL.skip {P : Program} {E : List PanicEntry → World → Prop} {nt : Nat} {o : Oper} {fr : List (Nat × Option Blk)} {ins : List (Nat × GV)} {Δ : List (Nat × Blk)} (hd : dstOk o nt = true)
    (h : ∀ C env get a w ρ D, (∀ x ∈ fr, get x.1 = x.2) → (∀ x ∈ ins, env x.1 = x.2) → Rel C env get a w ρ D → ∃ w' ρ' D', (execOp a.eval o).run P w = .ok .skip w' ∧ Rel C env (upd get Δ) a w' ρ' D') : OpL P E nt o fr ins .u Δ := by
  intro C env get a w K Q hn hf hi hR hK hE; obtain ⟨ρ, D, hR⟩ := hR; obtain ⟨w', ρ', D', hv, hR'⟩ := h C env get a w ρ D hf hi hR; unfold Oper.wp; rw [hv, Oper.upon_skip]; refine hK _ _ ⟨ρ', D', hR'.put (fun d e => ?_) .u⟩
  unfold dstOk at hd; rw [e] at hd; simpa [hn] using hd
/-! ### arrays of cells -/
def splice {α : Type} (cs : List α) (off : Nat) (ys : List α) : List α := cs.take off ++ ys ++ cs.drop (off + ys.length)
theorem splice_get {α : Type} {cs ys : List α} {off : Nat} (h : off + ys.length ≤ cs.length) (i : Nat) : (splice cs off ys)[i]? = if off ≤ i ∧ i < off + ys.length then ys[i - off]? else cs[i]? := by
  unfold splice; rw [List.append_assoc, List.getElem?_append]; simp only [List.length_take]; rw [Nat.min_eq_left (by omega)]
  by_cases h1 : i < off
  · rw [if_pos h1, if_neg (by omega), List.getElem?_take, if_pos h1]
  · rw [if_neg h1, List.getElem?_append]
    by_cases h2 : i < off + ys.length
    · rw [if_pos (by omega), if_pos ⟨by omega, h2⟩]
    · rw [if_neg (by omega), if_neg (by omega), List.getElem?_drop]
      congr 1; omega
theorem splice_length {α : Type} {cs ys : List α} {off : Nat} (h : off + ys.length ≤ cs.length) : (splice cs off ys).length = cs.length := by
  simp only [splice, List.length_append, List.length_take, List.length_drop]; omega
theorem foldSet (vs : Array Value) (off : Nat) (cells : Array Value) : ∀ (n : Nat), n ≤ vs.size → ∀ l, l = (vs.zipIdx.toList.take n) → (l.foldl (fun cs (x : Value × Nat) => cs.setIfInBounds (off + x.2) x.1) cells).size = cells.size ∧
    ∀ i, (l.foldl (fun cs (x : Value × Nat) => cs.setIfInBounds (off + x.2) x.1) cells)[i]? = if off ≤ i ∧ i < off + n ∧ i < cells.size then vs[i - off]? else cells[i]? := by
  intro n; induction n with
  | zero =>
    intro _ l hl; subst hl; refine ⟨rfl, fun i => ?_⟩
    rw [if_neg (by omega)]
    rfl
  | succ n ih =>
    intro hn l hl; subst hl; have e : vs.zipIdx.toList.take (n + 1) = vs.zipIdx.toList.take n ++ [(vs[n], n)] := by
      rw [List.take_add_one]; congr 1
      simp [Array.getElem?_zipIdx, show n < vs.size by omega]
    obtain ⟨h1, h2⟩ := ih (by omega) _ rfl
    rw [e, List.foldl_append]; simp only [List.foldl_cons, List.foldl_nil]; refine ⟨by rw [Array.size_setIfInBounds, h1], fun i => ?_⟩
    rw [Array.getElem?_setIfInBounds, h2, h1]; by_cases e2 : off + n = i
    · subst e2
      simp only [if_true]; by_cases h3 : off + n < cells.size
      · rw [if_pos h3, if_pos ⟨by omega, by omega, h3⟩, Nat.add_sub_cancel_left]
        simp
      · rw [if_neg h3, if_neg (by omega), Array.getElem?_eq_none (by omega)]
    · rw [if_neg e2]
      by_cases h4 : off ≤ i ∧ i < off + n ∧ i < cells.size
      · rw [if_pos h4, if_pos (by omega)]
      · rw [if_neg h4, if_neg (by omega)]
theorem foldSet_all (vs : Array Value) (off : Nat) (cells : Array Value) : (vs.zipIdx.foldl (fun cs (x : Value × Nat) => cs.setIfInBounds (off + x.2) x.1) cells).size = cells.size ∧
    ∀ i, (vs.zipIdx.foldl (fun cs (x : Value × Nat) => cs.setIfInBounds (off + x.2) x.1) cells)[i]? = if off ≤ i ∧ i < off + vs.size ∧ i < cells.size then vs[i - off]? else cells[i]? := by
  have := foldSet vs off cells vs.size (Nat.le_refl _) _ rfl
  rw [show vs.zipIdx.toList.take vs.size = vs.zipIdx.toList from List.take_of_length_le (by simp), Array.foldl_toList] at this
  exact this
def CRep (ρ : Nat → Option Value) (w : World) (D : Nat → Prop) (arr : Array Value) (cs : List TV) : Prop := arr.size = cs.length ∧ ∀ (i : Nat) (t : TV), cs[i]? = some t → TRep ρ w D (arr.getD i undef) t
theorem CRep.splice {ρ : Nat → Option Value} {w : World} {D : Nat → Prop} {arr vs : Array Value} {cs ys : List TV} {off : Nat} (h : CRep ρ w D arr cs) (hv : CRep ρ w D vs ys) (hl : off + ys.length ≤ cs.length) {arr' : Array Value} (hs : arr'.size = arr.size)
    (hg : ∀ i, arr'[i]? = if off ≤ i ∧ i < off + vs.size ∧ i < arr.size then vs[i - off]? else arr[i]?) : CRep ρ w D arr' (splice cs off ys) := by
  refine ⟨by rw [hs, h.1, splice_length hl], fun i t ht => ?_⟩
  rw [splice_get hl] at ht; simp only [Array.getD_eq_getD_getElem?, hg]; split at ht
  · rename_i hc
    have := hv.2 _ _ ht
    rw [if_pos ⟨hc.1, by rw [hv.1]; exact hc.2, by rw [h.1]; omega⟩]
    simpa [Array.getD_eq_getD_getElem?] using this
  · rename_i hc
    have := h.2 _ _ ht
    rw [if_neg (by rw [hv.1]; omega)]
    simpa [Array.getD_eq_getD_getElem?] using this
def fillT (place : Nat → Option (Nat × Nat)) : List TV → List (Nat × GV) → Option (List TV)
  | cs, [] => some cs
  | cs, (i, g) :: rest => match place i with
    | some (off, size) => match g.cells? with
      | some ys => if ys.length = size ∧ off + size ≤ cs.length then fillT place (splice cs off ys) rest else none
      | none => none
    | none => none
theorem fill_rep {ρ : Nat → Option Value} {w : World} {D : Nat → Prop} {place : Nat → Option (Nat × Nat)} : ∀ {parts : List (Nat × GV)} {vs : List (Nat × Value)} {arr : Array Value} {cs cs' : List TV}, CRep ρ w D arr cs → fillT place cs parts = some cs' →
    vs.length = parts.length → (∀ (i : Nat) (x : Nat × GV) (y : Nat × Value), parts[i]? = some x → vs[i]? = some y → x.1 = y.1 ∧ GRep ρ w D y.2 x.2) → ∃ arr', Instr.fill place arr vs = some arr' ∧ CRep ρ w D arr' cs'
  | [], vs, arr, cs, cs', hc, h, hl, _ => by
    cases h; obtain rfl : vs = [] := List.eq_nil_of_length_eq_zero hl
    exact ⟨arr, rfl, hc⟩
  | (i, g) :: rest, [], arr, cs, cs', hc, h, hl, hp => by cases hl
  | (i, g) :: rest, (j, v) :: vs, arr, cs, cs', hc, h, hl, hp => by
    unfold fillT at h; obtain ⟨e0, hg⟩ := hp 0 _ _ rfl rfl; simp only at e0
    subst e0; split at h
    · rename_i off size hpl
      split at h
      · rename_i ys hys
        split at h
        · rename_i hcond
          obtain ⟨c1, c2⟩ := hcond; have hv := cells?_rep hys hg; obtain ⟨f1, f2⟩ := foldSet_all v.cells off arr; have hs := hc.splice (off := off) (show CRep ρ w D v.cells ys from hv) (by omega) f1 f2
          obtain ⟨arr', r1, r2⟩ := fill_rep (vs := vs) hs h (by simpa using hl) fun k x y hx hy => hp (k + 1) x y (by simpa using hx) (by simpa using hy)
          refine ⟨arr', ?_, r2⟩; rw [Instr.fill, hpl]; simp only
          rw [if_neg (by have h1 := hc.1; have h2 := hv.1; simp only [ne_eq, Bool.or_eq_true, decide_eq_true_eq, not_or, Decidable.not_not, gt_iff_lt, Nat.not_lt]; exact ⟨by rw [h2, c1], by rw [h1, h2]; omega⟩)]
          exact r1
        · cases h
      · cases h
    · cases h
theorem CRep.zero {ρ : Nat → Option Value} {w : World} {D : Nat → Prop} {z : List Value} (h : ∀ x ∈ z, x.oneCell' = true) : CRep ρ w D z.toArray (z.map fun x => .r (rtOf x)) := by
  refine ⟨by simp, fun i t ht => ?_⟩
  rw [List.getElem?_map, Option.map_eq_some_iff] at ht; obtain ⟨x, hx, rfl⟩ := ht; simp only [Array.getD_eq_getD_getElem?, List.getElem?_toArray, hx, Option.getD_some]; exact .r (rtOf_rep (h x (List.mem_of_getElem? hx)))
theorem CRep.keep {ρ ρ' : Nat → Option Value} {w w' : World} {D D' : Nat → Prop} (hρ : ∀ b x, ρ b = some x → ρ' b = some x) (hk : Keeps D w w') (hD : ∀ b, D b → D' b) {arr : Array Value} {cs : List TV} (h : CRep ρ w D arr cs) : CRep ρ' w' D' arr cs :=
  ⟨h.1, fun i t ht => (h.2 i t ht).keep hρ hk hD⟩
theorem bRep_box {ρ : Nat → Option Value} {w : World} {D : Nat → Prop} {g : Nat} {arr : Array Value} {ty : TypeId} {cs : List TV} (hg : w.heap[g]? = some (.cells arr ty (0, 0))) (h : CRep ρ w D arr cs) : BRep ρ w D (some (.pointer (some ⟨g, 0, none⟩))) (.box cs) := ⟨g, arr, ty, rfl, hg, h.1, h.2⟩
theorem alloc_new (w : World) (o : Obj) : (w.alloc o).heap[w.heap.size]? = some o := heap_alloc_new w o
theorem alloc_old (w : World) (o : Obj) {k : Nat} (h : k < w.heap.size) : (w.alloc o).heap[k]? = w.heap[k]? := Below.heap_alloc w o k h
theorem alloc_size (w : World) (o : Obj) : w.heap.size ≤ (w.alloc o).heap.size := by simp
section
variable {P : Program} {E : List PanicEntry → World → Prop} {nt : Nat} {o : Oper} {s : TState}
theorem run_newVar (w : World) (t : TypeId) (v : Value) : (newVar t v).run P w = .ok ⟨w.heap.size, 0, none⟩ (w.alloc (.cells v.cells t)) := by simp [newVar, newRow]
theorem run_zero_td {t : TypeId} {d : TD} (h : tdOf P t = some d) (w : World) : ∃ z, (zeroValue t).run P w = .ok z w ∧ z.cells.toList = d.zero := by
  obtain ⟨i, u, z, h1, _, h3, _, _, h6, _⟩ := tdOf_some h; exact ⟨z, by simp [zeroValue, typeInfo, h1, h3], h6⟩
theorem newBox {C : Ctx} {env : Nat → GV} {get : Nat → Option Blk} {a : Act} {w : World} {ρ : Nat → Option Value} {D : Nat → Prop} (hR : Rel C env get a w ρ D) {b : Nat} (hb : get b = none) {arr : Array Value} {cs : List TV} (t : TypeId) (hc : CRep ρ w D arr cs) :
    ∃ ρ', Rel C env (upd get [(b, .box cs)]) a (w.alloc (.cells arr t)) ρ' D ∧ GRep ρ' (w.alloc (.cells arr t)) D (.pointer (some ⟨w.heap.size, 0, none⟩)) (.s (.ptr b 0)) := by
  have hρ : ∀ c x, ρ c = some x → (fun c => if c = b then some (Value.pointer (some ⟨w.heap.size, 0, none⟩)) else ρ c) c = some x := fun c x hc => by
    have : c ≠ b := by rintro rfl; rw [hR.free _ hb] at hc; cases hc
    simp [this, hc]
  refine ⟨_, hR.alloc (x' := .pointer (some ⟨w.heap.size, 0, none⟩)) hb rfl rfl rfl (alloc_size _ _) (fun k hk => alloc_old _ _ hk) (fun g hg => ?_) (bRep_box (alloc_new _ _) (hc.keep hρ (fun k hd => alloc_old _ _ (hR.ro k hd).1) fun _ h => h)), ?_⟩
  · injection hg with hg
    simp at hg; omega
  · exact .s (.ptr (by simp))
theorem op_alloc {t b : Nat} (ho : o.op = .alloc t) (hd : dstOk o nt = true) {d : TD} (ht : tdOf P t = some d) : OpL P E nt o [(b, none)] [] (.s (.ptr b 0)) [(b, .box (d.zero.map fun x => .r (rtOf x)))] := by
  refine .act hd fun C env get a w ρ D hf hi hR => ?_; obtain ⟨z, hz, hz'⟩ := run_zero_td ht w; obtain ⟨ρ', h1, h2⟩ := newBox hR (hf _ (List.mem_cons_self ..)) t (CRep.zero (tdOf_all ht).2.2.1); rw [← hz', Array.toArray_toList] at h1 h2; rw [← hz']; exact ⟨_, _, ρ', D, by simp [execOp, ho, Instr.alloc, hz, run_newVar], h1, h2⟩
theorem op_box {t b : Nat} {x : Operand} (ho : o.op = .box t x) (hd : dstOk o nt = true) {cs : List TV} (hc : (s.ev x).cells? = some cs) : OpL P E nt o [(b, none)] (insOf s.env [x]) (.s (.ptr b 0)) [(b, .box cs)] := by
  refine .act hd fun C env get a w ρ D hf hi hR => ?_; have hr := ev_rep hR hi (x := x) (by simp)
  obtain ⟨ρ', h1, h2⟩ := newBox hR (hf _ (List.mem_cons_self ..)) t (show CRep ρ w D _ cs from cells?_rep hc hr)
  exact ⟨_, _, ρ', D, by simp [execOp, ho, Instr.box, run_newVar], h1, h2⟩
def placeOf (T : TypeId → Option TD) : TK → Nat → Option (Nat × Nat)
  | .struct fs, i => match fs[i]? with
    | some (o, t) => (T t).map fun d => (o, d.size)
    | none => none
  | .array _ e, i => (T e).map fun d => (i * d.size, d.size)
  | _, _ => none
def TK.subs : TK → List TypeId
  | .struct fs => fs.map (·.2)
  | .array _ e => [e]
  | _ => []
def evParts (s : TState) (ps : List (Nat × Operand)) : List (Nat × GV) := ps.map fun x => (x.1, s.ev x.2)
theorem fill_congr {p q : Nat → Option (Nat × Nat)} : ∀ (vs : List (Nat × Value)) (c : Array Value), (∀ x ∈ vs, p x.1 = q x.1) → Instr.fill p c vs = Instr.fill q c vs
  | [], c, _ => rfl
  | (i, v) :: vs, c, h => by
    have h0 : p i = q i := h (i, v) (List.mem_cons_self ..)
    have ih : ∀ c, Instr.fill p c vs = Instr.fill q c vs := fun c => fill_congr vs c fun x hx => h x (List.mem_cons_of_mem _ hx)
    simp only [Instr.fill, h0, ih]
theorem fillT_place {p : Nat → Option (Nat × Nat)} : ∀ {ps : List (Nat × GV)} {c c' : List TV}, fillT p c ps = some c' → ∀ x ∈ ps, ∃ y, p x.1 = some y
  | [], _, _, _, x, hx => by cases hx
  | (i, g) :: ps, c, c', h, x, hx => by
    unfold fillT at h; split at h
    · rename_i hpl
      split at h
      · split at h
        · rcases List.mem_cons.1 hx with rfl | hx
          · exact ⟨_, hpl⟩
          · exact fillT_place h x hx
        · cases h
      · cases h
    · cases h
theorem mapM_run {α β : Type} (f : α → Sem β) (g : α → β) (w : World) : ∀ (l : List α), (∀ x ∈ l, (f x).run P w = .ok (g x) w) → (l.mapM f).run P w = .ok (l.map g) w
  | [], _ => by simp
  | x :: l, h => by
    simp [List.mapM_cons, h x (List.mem_cons_self ..), mapM_run f g w l fun y hy => h y (List.mem_cons_of_mem _ hy)]
theorem op_build {t : Nat} {ps : Array (Nat × Operand)} (ho : o.op = .build t ps) (hd : dstOk o nt = true) {d : TD} (ht : tdOf P t = some d) (hall : d.k.subs.all (fun t => (tdOf P t).isSome) = true)
    {cs : List TV} (hc : fillT (placeOf (tdOf P) d.k) (d.zero.map fun x => .r (rtOf x)) (evParts s ps.toList) = some cs) (hag : d.k.agg = true) : OpL P E nt o [] (insOf s.env (ps.toList.map (·.2))) (.a cs) [] := by
  refine .still hd fun C env get a w ρ D hf hi hR => ?_; obtain ⟨z, hz, hz'⟩ := run_zero_td ht w; have hz0 : CRep ρ w D z.cells (d.zero.map fun x => .r (rtOf x)) := by
    have := CRep.zero (ρ := ρ) (w := w) (D := D) (tdOf_all ht).2.2.1
    rwa [← hz', Array.toArray_toList, hz'] at this
  have hps : ∀ (i : Nat) (x : Nat × GV) (y : Nat × Value), (evParts s ps.toList)[i]? = some x → (ps.toList.map fun x => (x.1, a.eval x.2))[i]? = some y → x.1 = y.1 ∧ GRep ρ w D y.2 x.2 := by
    intro i x y hx hy; simp only [evParts, List.getElem?_map, Option.map_eq_some_iff] at hx hy; obtain ⟨x', h1, rfl⟩ := hx; obtain ⟨y', h2, rfl⟩ := hy; rw [h1] at h2; cases h2; exact ⟨rfl, ev_rep hR hi (List.mem_map.2 ⟨x', List.mem_of_getElem? h1, rfl⟩)⟩
  obtain ⟨arr', r1, r2⟩ := fill_rep hz0 hc (by simp [evParts]) hps
  refine ⟨.agg arr', ?_, .a r2.1 r2.2⟩; have hm : (ps.map fun x => (x.1, a.eval x.2)).toList = ps.toList.map fun x => (x.1, a.eval x.2) := by simp
  cases hk : d.k with
  | sc => rw [hk] at hag; cases hag
  | slice e => rw [hk] at hag; cases hag
  | array n e =>
    have hu := td_array ht hk; rw [hk] at r1 hc; obtain ⟨de, hde⟩ : ∃ de, tdOf P e = some de := by
      rw [hk] at hall; simp only [TK.subs, List.all_cons, List.all_nil, Bool.and_true] at hall; exact Option.isSome_iff_exists.1 hall
    have hp : (fun i => some (i * de.size, de.size)) = placeOf (tdOf P) (.array n e) := by funext i; simp [placeOf, hde]
    rw [← hp] at r1; simp [execOp, ho, Instr.build, hz, run_underlying hu, rSz hde, r1]
  | struct fs =>
    obtain ⟨gs, u1, u2⟩ := td_struct ht hk; rw [hk] at r1 hc; have hsz : ∀ f ∈ gs.toList, ∃ d', tdOf P f.type = some d' := fun f hf => by
      rw [hk] at hall; simp only [TK.subs, List.all_eq_true, List.mem_map, forall_exists_index, and_imp] at hall; exact Option.isSome_iff_exists.1 (hall f.type (f.offset, f.type) (by rw [← u2]; exact List.mem_map.2 ⟨f, hf, rfl⟩) rfl)
    have hmm : (gs.mapM fun f => Functor.map (Prod.mk f.offset) (sizeOf f.type)).run P w = .ok (gs.map fun f => (f.offset, ((tdOf P f.type).map TD.size).getD 0)) w := by
      rw [Array.mapM_eq_mapM_toList]; have := mapM_run (P := P) (fun f : Field => Functor.map (Prod.mk f.offset) (sizeOf f.type)) (fun f => (f.offset, ((tdOf P f.type).map TD.size).getD 0)) w gs.toList (fun f hf => by
        obtain ⟨d', hd'⟩ := hsz f hf; simp [rSz hd', hd'])
      rw [Sem.run_map, this, Result.andThen_ok]; congr 1
      rw [← List.map_toArray]
    have hp : Instr.fill (fun i => (gs[i]?).map fun f => (f.offset, ((tdOf P f.type).map TD.size).getD 0)) z.cells (ps.toList.map fun x => (x.1, a.eval x.2)) = some arr' := by
      rw [fill_congr (q := placeOf (tdOf P) (.struct fs)) _ _ (fun x hx => ?_)]
      · exact r1
      · obtain ⟨y, hy, rfl⟩ := List.mem_map.1 hx
        obtain ⟨y0, hy0⟩ := fillT_place hc (y.1, s.ev y.2) (List.mem_map.2 ⟨y, hy, rfl⟩); simp only at hy0 ⊢
        rw [hy0]; simp only [placeOf, ← u2, List.getElem?_map] at hy0
        cases hgi : gs[y.1]? with
        | none => simp [hgi] at hy0
        | some f =>
          simp only [Array.getElem?_toList, hgi, Option.map_some] at hy0; obtain ⟨d', hd', rfl⟩ := Option.map_eq_some_iff.1 hy0; simp [hgi, hd']
    simp [execOp, ho, Instr.build, hz, run_underlying u1, hmm]; rw [hp]; rfl
end
end Go.Proofs.Ytjklkppncmhehaa.T
namespace Go.Proofs.Ytjklkppncmhehaa.T
open Go Go.RowKit
theorem row_lt {i i' k j : Nat} (h : i' < i) (hj : j < k) : i' * k + j < i * k := by
  calc i' * k + j < i' * k + k := by omega
    _ = (i' + 1) * k := by rw [Nat.add_mul, Nat.one_mul]
    _ ≤ i * k := Nat.mul_le_mul_right k h
theorem toArray_get {l : List Value} {i : Nat} : l.toArray[i]? = l[i]? := by simp
section
variable {P : Program} {E : List PanicEntry → World → Prop} {nt : Nat} {o : Oper} {s : TState}
theorem run_storeVar_td {t : TypeId} {d : TD} (ht : tdOf P t = some d) {w : World} {g off : Nat} {arr : Array Value} {ty : TypeId} (hg : w.heap[g]? = some (.cells arr ty (0, 0))) {v : Value} (hv : v.cells.size = d.size) (hl : off + d.size ≤ arr.size) (h1 : ∀ x ∈ v.cells.toList, x.oneCell' = true) :
    (storeVar t ⟨g, off, none⟩ v).run P w = .ok () (w.setRow g (splice arr.toList off v.cells.toList).toArray) := by
  have := run_storeCells_at P g off ty v.cells.toList 0 arr w hg (by simp only [Array.length_toList]; omega) h1
  simp only [storeVar, Sem.run_bind, rSz ht, Result.andThen_ok, hv, ne_eq, not_true, if_false]; rw [this]; simp [splice]
theorem crep_one {ρ : Nat → Option Value} {w : World} {D : Nat → Prop} {arr : Array Value} {cs : List TV} (h : CRep ρ w D arr cs) : ∀ x ∈ arr.toList, x.oneCell' = true := by
  intro x hx; obtain ⟨i, hi, rfl⟩ := List.getElem_of_mem hx; have hi' : i < arr.size := by simpa using hi
  have hi2 : i < cs.length := by have := h.1; omega
  have := h.2 i cs[i] (List.getElem?_eq_getElem hi2)
  simp only [Array.getD_eq_getD_getElem?, Array.getElem?_eq_getElem hi', Option.getD_some] at this; simpa using this.one
theorem setRow_frame {w : World} {g : Nat} {cs : Array Value} {x : Option Value} (hx : blkOf x = some g) : ∀ k, k < w.heap.size → blkOf x ≠ some k → (w.setRow g cs).heap[k]? = w.heap[k]? :=
  fun k _ hk => setRow_other w g k cs fun e => hk (by rw [e]; exact hx)
theorem op_storeBox {t : TypeId} {ax vx : Operand} (ho : o.op = .store t ax vx) (hd : dstOk o nt = true) {d : TD} (ht : tdOf P t = some d) {b off : Nat} {cs : List TV} (ha : s.ev ax = .s (.ptr b off)) (hb : s.get b = some (.box cs)) {ys : List TV} (hy : (s.ev vx).cells? = some ys)
    (h1 : ys.length = d.size) (h2 : off + ys.length ≤ cs.length) : OpL P E nt o [(b, some (.box cs))] (insOf s.env [ax, vx]) .u [(b, .box (splice cs off ys))] := by
  refine .skip hd fun C env get a w ρ D hf hi hR => ?_; have hgb := hf _ (List.mem_cons_self ..); obtain ⟨g, arr, ty, e1, h3, h4, h5⟩ := hR.blk b _ hgb; have hr := ev_rep hR hi (x := ax) (by simp)
  have hv : CRep ρ w D _ ys := cells?_rep hy (ev_rep hR hi (x := vx) (by simp))
  rw [ha] at hr; generalize hav : a.eval ax = av at hr
  cases hr with | s hr => cases hr with | ptr hr =>
  rw [e1] at hr
  cases hr; have hst := run_storeVar_td ht h3 (v := a.eval vx) (off := off) (by rw [hv.1, h1]) (by omega) (crep_one hv)
  refine ⟨w.setRow g (splice arr.toList off (a.eval vx).cells.toList).toArray, ρ, D, by simp [execOp, ho, Instr.storeAt, hav, Instr.sureAddr, hst], hR.change hgb rfl (setRow_os _ _ _) (setRow_tape _ _ _) (setRow_output _ _ _) (by rw [setRow_size]; exact Nat.le_refl _) (setRow_frame (by rw [e1]; rfl)) ?_⟩
  rw [e1]; refine bRep_box (setRow_heap w g arr _ ty _ h3) ?_; have hK : Keeps D w (w.setRow g (splice arr.toList off (a.eval vx).cells.toList).toArray) := fun k hdk => setRow_other _ _ _ _ fun e => (hR.own b _ g hgb rfl (by rw [e1]; rfl)).1 (e ▸ hdk)
  have hc : CRep ρ w D arr cs := ⟨h4, h5⟩
  refine (hc.splice hv h2 (arr' := (splice arr.toList off (a.eval vx).cells.toList).toArray) ?_ fun i => ?_).keep (fun _ _ h => h) hK fun _ h => h
  · have := hv.1
    rw [List.size_toArray, splice_length (by simp only [Array.length_toList]; omega)]; simp
  · have := hv.1
    rw [toArray_get, splice_get (by simp only [Array.length_toList]; omega)]
    simp only [Array.length_toList, Array.getElem?_toList]; by_cases hc : off ≤ i ∧ i < off + (a.eval vx).cells.size
    · rw [if_pos hc, if_pos ⟨hc.1, hc.2, by omega⟩]
    · rw [if_neg hc, if_neg fun h => hc ⟨h.1, h.2.1⟩]
theorem op_storeRow {t : TypeId} {ax vx : Operand} (ho : o.op = .store t ax vx) (hd : dstOk o nt = true) {d : TD} (ht : tdOf P t = some d) {b k i off e : Nat} {xs : List (List RT)} (ha : s.ev ax = .s (.row b k i off)) (hb : s.get b = some (.rows e k xs)) {ys : List TV} (hy : (s.ev vx).cells? = some ys)
    {y : List RT} (hxi : xs[i]? = some y) (h1 : ys.length = d.size) (h2 : off + ys.length ≤ y.length) {rs : List RT} {bs : List Nat} (hrt : s.toRTs ys = some (rs, bs)) (hnb : b ∉ bs) :
    OpL P E nt o ((b, some (.rows e k xs)) :: bs.map fun c => (c, s.get c)) (insOf s.env [ax, vx]) .u ((b, .rows e k (xs.set i (splice y off rs))) :: bs.map fun c => (c, .dead)) := by
  refine .skip hd fun C env get a w ρ D hf hi hR0 => ?_; have hgb0 := hf _ (List.mem_cons_self ..); have hgs : ∀ c ∈ bs, get c = s.get c := fun c hc => hf (c, s.get c) (List.mem_cons_of_mem _ (List.mem_map.2 ⟨c, hc, rfl⟩))
  obtain ⟨D', hR, hDD, hDb⟩ := hR0.consume bs fun c hc => by
    obtain ⟨e, k, xs, h⟩ := toRTs_live hrt c hc; exact ⟨_, (hgs c hc).trans h, rfl⟩
  have hgb : upd get (bs.map fun c => (c, Blk.dead)) b = some (.rows e k xs) := by
    have : gt b (bs.map fun c => (c, Blk.dead)) = none := by
      clear hgs hrt hDb hR hf; induction bs with
      | nil => rfl
      | cons c bs ih =>
        simp only [List.mem_cons, not_or] at hnb; simp only [List.map_cons, gt, if_neg hnb.1]; exact ih hnb.2
    simp only [upd, this]; exact hgb0
  obtain ⟨A, c, e1, q1, q2, q3, q4, q5⟩ := hR.blk b _ hgb; have hr := ev_rep hR0 hi (x := ax) (by simp)
  have hv : CRep ρ w D _ ys := cells?_rep hy (ev_rep hR0 hi (x := vx) (by simp))
  obtain ⟨t1, t2⟩ := toRTs_rep hR0 hDD hrt hgs hDb; rw [ha] at hr; generalize hav : a.eval ax = av at hr
  cases hr with | s hr => cases hr with | @row _ _ _ _ g n' c' hr =>
  have hii : i < xs.length := (List.getElem?_eq_some_iff.1 hxi).1
  rcases q5 with ⟨_, rfl, _⟩ | ⟨g', arr, rfl, q6, q7, q8⟩
  · simp at hii
  rw [e1] at hr
  cases hr; have hyk : y.length = k := q4 i y hxi
  have hfit : i * k + off + d.size ≤ arr.size := by
    rw [q7]
    calc i * k + off + d.size ≤ i * k + k := by omega
      _ = (i + 1) * k := by rw [Nat.add_mul, Nat.one_mul]
      _ ≤ c * k := Nat.mul_le_mul_right k (by omega)
  have hvs := hv.1; have hst := run_storeVar_td ht q6 (v := a.eval vx) (off := i * k + off) (by rw [hv.1, h1]) hfit (crep_one hv)
  refine ⟨w.setRow g (splice arr.toList (i * k + off) (a.eval vx).cells.toList).toArray, ρ, D', by simp [execOp, ho, Instr.storeAt, hav, Instr.sureAddr, hst], ?_⟩
  rw [upd_cons]; refine hR.change hgb rfl (setRow_os _ _ _) (setRow_tape _ _ _) (setRow_output _ _ _) (by rw [setRow_size]; exact Nat.le_refl _) (setRow_frame (by rw [e1]; rfl)) ?_
  have hK : Keeps D' w (w.setRow g (splice arr.toList (i * k + off) (a.eval vx).cells.toList).toArray) := fun m hdk => setRow_other _ _ _ _ fun e' => (hR.own b _ g hgb rfl (by rw [e1]; rfl)).1 (e' ▸ hdk)
  rw [e1]; refine ⟨_, c, by rw [List.length_set], by rw [List.length_set]; exact q1, q2, q3, fun i' y' hy' => ?_, .inr ⟨g, _, rfl, setRow_heap w g arr _ e _ q6, ?_, fun i' y' hy' j r hj => ?_⟩⟩
  · rw [List.getElem?_set, if_pos hii] at hy'
    split at hy'
    · cases hy'
      rw [splice_length (by omega)]
      exact hyk
    · exact q4 i' y' hy'
  · rw [List.size_toArray, splice_length (by simp only [Array.length_toList]; omega)]
    simpa using q7
  · simp only [Array.getD_eq_getD_getElem?, toArray_get]
    rw [splice_get (by simp only [Array.length_toList]; omega)]
    simp only [Array.length_toList, Array.getElem?_toList]; rw [List.getElem?_set, if_pos hii] at hy'; split at hy'
    · rename_i ei
      subst ei
      cases hy'; rw [splice_get (by omega)] at hj
      split at hj
      · rename_i hc
        rw [if_pos (by omega)]
        have hlt : j - off < ys.length := by omega
        have := t2 (j - off) ys[j - off] r (List.getElem?_eq_getElem hlt) hj _ (hv.2 _ _ (List.getElem?_eq_getElem hlt))
        rw [show i * k + j - (i * k + off) = j - off by omega]
        simpa [Array.getD_eq_getD_getElem?] using this.keep hK fun _ h => h
      · rename_i hc
        rw [if_neg (by omega)]
        have := q8 i y hxi j r hj
        simpa [Array.getD_eq_getD_getElem?] using this.keep hK fun _ h => h
    · rename_i ei
      have hjk : j < k := by rw [← q4 i' y' hy']; exact (List.getElem?_eq_some_iff.1 hj).1
      rw [if_neg (fun hc => by
        rcases Nat.lt_or_ge i' i with hlt | hge
        · have := row_lt hlt hjk; omega
        · have := row_lt (i := i') (i' := i) (j := off + ys.length - 1) (k := k) (by omega) (by omega); omega)]
      have := q8 i' y' hy' j r hj
      simpa [Array.getD_eq_getD_getElem?] using this.keep hK fun _ h => h
/-! ### new rows -/
def rowsT (s : TState) (k : Nat) : Nat → List (Nat × Operand) → Option (List (List RT) × List Nat)
  | _, [] => some ([], [])
  | i, (j, x) :: ps => if j = i then match (s.ev x).cells? with
    | some ts => if ts.length = k then match s.toRTs ts with
      | some (r, bs) => match rowsT s k (i + 1) ps with
        | some (rs, cs) => some (r :: rs, bs ++ cs)
        | none => none
      | none => none
      else none
    | none => none
    else none
theorem rowsT_live {s : TState} {k : Nat} : ∀ {ps : List (Nat × Operand)} {i : Nat} {xs : List (List RT)} {bs : List Nat}, rowsT s k i ps = some (xs, bs) → ∀ b ∈ bs, ∃ e k xs, s.get b = some (.rows e k xs)
  | [], _, _, _, h => by cases h; intro b hb; cases hb
  | (j, x) :: ps, i, xs, bs, h => by
    unfold rowsT at h; split at h
    · split at h
      · split at h
        · split at h
          · rename_i h1
            split at h
            · rename_i h2
              cases h; intro b hb; rcases List.mem_append.1 hb with hb | hb
              · exact toRTs_live h1 b hb
              · exact rowsT_live h2 b hb
            · cases h
          · cases h
        · cases h
      · cases h
    · cases h
theorem rowsT_rep {C : Ctx} {env : Nat → GV} {get : Nat → Option Blk} {a : Act} {w : World} {ρ : Nat → Option Value} {D D' : Nat → Prop} (hR : Rel C env get a w ρ D) (hD : ∀ k, D k → D' k) {all : List Operand} (hi : ∀ x ∈ insOf s.env all, env x.1 = x.2) {k : Nat} :
    ∀ {ps : List (Nat × Operand)} {i : Nat} {xs : List (List RT)} {bs : List Nat}, rowsT s k i ps = some (xs, bs) → (∀ x ∈ ps, x.2 ∈ all) → (∀ b ∈ bs, get b = s.get b) → (∀ b ∈ bs, ∀ g, blkOf (ρ b) = some g → D' g) →
    xs.length = ps.length ∧ ∀ (p : Nat) (x : Nat × Operand), ps[p]? = some x → x.1 = i + p ∧ (a.eval x.2).cells.size = k ∧ (∀ v ∈ (a.eval x.2).cells.toList, v.oneCell' = true) ∧ ∃ y, xs[p]? = some y ∧ y.length = k ∧ ∀ (j : Nat) (r : RT), y[j]? = some r → RRep w D' ((a.eval x.2).cells.getD j undef) r
  | [], _, _, _, h, _, _, _ => by cases h; exact ⟨rfl, fun p x hx => by simp at hx⟩
  | (j, x) :: ps, i, xs, bs, h, hall, hg, hb => by
    unfold rowsT at h; split at h
    · rename_i hji
      split at h
      · rename_i ts hts
        split at h
        · rename_i hk
          split at h
          · rename_i r b1 h1
            split at h
            · rename_i rs' b2 h2
              cases h; obtain ⟨ih1, ih2⟩ := rowsT_rep hR hD hi h2 (fun x hx => hall x (List.mem_cons_of_mem _ hx)) (fun b hb' => hg b (List.mem_append_right _ hb')) fun b hb' => hb b (List.mem_append_right _ hb')
              have hc : CRep ρ w D _ ts := cells?_rep hts (ev_rep hR hi (hall (j, x) (List.mem_cons_self ..)))
              obtain ⟨t1, t2⟩ := toRTs_rep hR hD h1 (fun b hb' => hg b (List.mem_append_left _ hb')) fun b hb' => hb b (List.mem_append_left _ hb')
              refine ⟨by simp [ih1], fun p z hz => ?_⟩
              cases p with
              | zero =>
                simp only [List.getElem?_cons_zero, Option.some.injEq] at hz; subst hz; refine ⟨hji, by rw [hc.1, hk], crep_one hc, r, rfl, by rw [t1, hk], fun q r' hq => ?_⟩
                have hlt : q < ts.length := by rw [← t1]; exact (List.getElem?_eq_some_iff.1 hq).1
                exact t2 q ts[q] r' (List.getElem?_eq_getElem hlt) hq _ (hc.2 _ _ (List.getElem?_eq_getElem hlt))
              | succ p =>
                obtain ⟨a1, a2, a3, y, a4, a5⟩ := ih2 p z (by simpa using hz)
                exact ⟨by omega, a2, a3, y, by simpa using a4, a5⟩
            · cases h
          · cases h
        · cases h
      · cases h
    · cases h
theorem fill_rows {k : Nat} : ∀ (vs : List (Nat × Value)) (i0 : Nat) (cells : Array Value), (∀ (p : Nat) (x : Nat × Value), vs[p]? = some x → x.1 = i0 + p ∧ x.2.cells.size = k) → (i0 + vs.length) * k ≤ cells.size →
    ∃ c', Instr.fill (fun i => some (i * k, k)) cells vs = some c' ∧ c'.size = cells.size ∧ (∀ t, t < i0 * k → c'[t]? = cells[t]?) ∧ ∀ (p : Nat) (x : Nat × Value), vs[p]? = some x → ∀ j, j < k → c'[(i0 + p) * k + j]? = x.2.cells[j]?
  | [], i0, cells, _, _ => ⟨cells, rfl, rfl, fun _ _ => rfl, fun p x hx => by simp at hx⟩
  | (i, v) :: vs, i0, cells, h, hl => by
    obtain ⟨e0, hk⟩ := h 0 _ rfl; simp only [Nat.add_zero] at e0 hk; subst e0; have hl' : (i + 1 + vs.length) * k ≤ cells.size := by simp only [List.length_cons] at hl; rw [show i + 1 + vs.length = i + (vs.length + 1) by omega]; exact hl
    have h1 : (i + 1) * k ≤ (i + 1 + vs.length) * k := Nat.mul_le_mul_right k (by omega)
    have h2 : (i + 1) * k = i * k + k := by rw [Nat.add_mul, Nat.one_mul]
    obtain ⟨f1, f2⟩ := foldSet_all v.cells (i * k) cells; obtain ⟨c', r1, r2, r3, r4⟩ := fill_rows vs (i + 1) _ (fun p x hx => by
      obtain ⟨a1, a2⟩ := h (p + 1) x (by simpa using hx)
      exact ⟨by omega, a2⟩) (by rw [f1]; exact hl')
    refine ⟨c', ?_, by rw [r2, f1], fun t ht => ?_, fun p x hx j hj => ?_⟩
    · rw [Instr.fill]
      simp only
      rw [if_neg (by simp only [ne_eq, Bool.or_eq_true, decide_eq_true_eq, not_or, Decidable.not_not, gt_iff_lt, Nat.not_lt]; exact ⟨hk, by omega⟩)]
      exact r1
    · rw [r3 t (by omega), f2, if_neg (by omega)]
    · cases p with
      | zero =>
        simp only [List.getElem?_cons_zero, Option.some.injEq] at hx; subst hx; rw [Nat.add_zero, r3 _ (by omega), f2, if_pos (by omega)]
        congr 1; omega
      | succ p =>
        have := r4 p x (by simpa using hx) j hj
        rw [show i + (p + 1) = i + 1 + p by omega]
        exact this
theorem newRowT {C : Ctx} {env : Nat → GV} {get : Nat → Option Blk} {a : Act} {w : World} {ρ : Nat → Option Value} {D : Nat → Prop} (hR : Rel C env get a w ρ D) {b : Nat} (hb : get b = none) {arr : Array Value} {e k c : Nat} {xs : List (List RT)} (hk : 0 < k) (hc : xs.length ≤ c) (hm : c ≤ maxLen) (hs : arr.size = c * k)
    (hx : ∀ (i : Nat) (y : List RT), xs[i]? = some y → y.length = k ∧ ∀ (j : Nat) (r : RT), y[j]? = some r → RRep w D (arr.getD (i * k + j) undef) r) :
    ∃ ρ', Rel C env (upd get [(b, .rows e k xs)]) a (w.alloc (.cells arr e)) ρ' D ∧ GRep ρ' (w.alloc (.cells arr e)) D (.slice (some ⟨w.heap.size, 0, none⟩) xs.length c) (.s (.own b)) := by
  refine ⟨_, hR.alloc (x' := .slice (some ⟨w.heap.size, 0, none⟩) xs.length c) hb rfl rfl rfl (alloc_size _ _) (fun k hk => alloc_old _ _ hk) (fun g hg => ?_) ?_, ?_⟩
  · injection hg with hg
    simp at hg; omega
  · exact ⟨_, c, rfl, hc, hm, hk, fun i y hy => (hx i y hy).1, .inr ⟨_, arr, rfl, alloc_new _ _, hs, fun i y hy j r hj => ((hx i y hy).2 j r hj).keep (fun m hd => alloc_old _ _ (hR.ro m hd).1) fun _ h => h⟩⟩
  · exact .s (.own (by simp))
theorem op_buildSlice {t n b : Nat} {ps : Array (Nat × Operand)} (ho : o.op = .buildSlice t n ps) (hd : dstOk o nt = true) {d de : TD} {e : TypeId} (ht : tdOf P t = some d) (hk : d.k = .slice e) (he : tdOf P e = some de) (h0 : 0 < de.size) (hn : ps.toList.length = n) (hsm : n * de.size ≤ 16777216)
    {xs : List (List RT)} {bs : List Nat} (hx : rowsT s de.size 0 ps.toList = some (xs, bs)) :
    OpL P E nt o ((b, none) :: bs.map fun c => (c, s.get c)) (insOf s.env (ps.toList.map (·.2))) (.s (.own b)) ((b, .rows e de.size xs) :: bs.map fun c => (c, .dead)) := by
  refine .act hd fun C env get a w ρ D hf hi hR0 => ?_; have hb0 := hf _ (List.mem_cons_self ..); have hgs : ∀ c ∈ bs, get c = s.get c := fun c hc => hf (c, s.get c) (List.mem_cons_of_mem _ (List.mem_map.2 ⟨c, hc, rfl⟩))
  obtain ⟨D', hR, hDD, hDb⟩ := hR0.consume bs fun c hc => by
    obtain ⟨e, k, xs, h⟩ := rowsT_live hx c hc; exact ⟨_, (hgs c hc).trans h, rfl⟩
  have hgb : upd get (bs.map fun c => (c, Blk.dead)) b = none := by
    have hnb : b ∉ bs := fun hbb => by
      obtain ⟨e, k, xs, h⟩ := rowsT_live hx b hbb; rw [← hgs b hbb] at h; simp only at hb0
      rw [hb0] at h; cases h
    have : gt b (bs.map fun c => (c, Blk.dead)) = none := by
      clear hgs hx hDb hR hf; induction bs with
      | nil => rfl
      | cons c bs ih =>
        simp only [List.mem_cons, not_or] at hnb; simp only [List.map_cons, gt, if_neg hnb.1]; exact ih hnb.2
    simp only [upd, this]; exact hb0
  obtain ⟨r1, r2⟩ := rowsT_rep hR0 hDD hi hx (fun x hx => List.mem_map.2 ⟨x, hx, rfl⟩) hgs hDb
  obtain ⟨z, hz, hz'⟩ := run_zero_td he w; have hu := td_slice ht hk; have hzs : z.cells.size = de.size := by have := (tdOf_all he).2.1; rw [← hz'] at this; simpa using this
  have hlen : ∀ c0 : Array Value, c0.size = n * de.size → ∃ c', Instr.fill (fun i => some (i * de.size, de.size)) c0 (ps.toList.map fun x => (x.1, a.eval x.2)) = some c' ∧ c'.size = c0.size ∧
      ∀ (p : Nat) (x : Nat × Operand), ps.toList[p]? = some x → ∀ j, j < de.size → c'[p * de.size + j]? = (a.eval x.2).cells[j]? := by
    intro c0 hc0; obtain ⟨c', f1, f2, _, f4⟩ := fill_rows (ps.toList.map fun x => (x.1, a.eval x.2)) 0 c0 (fun p x hx => by
      rw [List.getElem?_map, Option.map_eq_some_iff] at hx; obtain ⟨x', hx', rfl⟩ := hx; obtain ⟨a1, a2, _⟩ := r2 p x' hx'; exact ⟨a1, a2⟩) (by rw [hc0, Nat.zero_add, List.length_map, hn]; exact Nat.le_refl _)
    refine ⟨c', f1, f2, fun p x hx j hj => ?_⟩
    have := f4 p (x.1, a.eval x.2) (by rw [List.getElem?_map, hx]; rfl) j hj
    rwa [Nat.zero_add] at this
  obtain ⟨c', f1, f2, f3⟩ := hlen ((Array.range (n * de.size)).map fun i => (if n * de.size = 0 then #[] else z.cells)[i % (if n * de.size = 0 then #[] else z.cells).size]!) (by simp)
  have hrun : (execOp a.eval o).run P w = .ok (.value (.slice (some ⟨w.heap.size, 0, none⟩) n n)) (w.alloc (.cells c' e)) := by
    have hm : (ps.map fun x => (x.1, a.eval x.2)).toList = ps.toList.map fun x => (x.1, a.eval x.2) := by simp
    have hg' : ¬ (2 ^ 24 < n * de.size) := by omega
    by_cases hz0 : n * de.size = 0
    · simp only [hz0, if_true] at f1
      simp [execOp, ho, Instr.buildSlice, run_underlying hu, rSz he, hz0, newRow]; simp at f1
      rw [f1]; simp
    · simp only [hz0, if_false] at f1
      simp [execOp, ho, Instr.buildSlice, run_underlying hu, rSz he, hz0, newRow, hz]; rw [f1]; simp
      exact hsm
  have hxn : xs.length = n := by rw [r1]; exact hn
  obtain ⟨ρ', g1, g2⟩ := newRowT hR hgb (arr := c') (e := e) (k := de.size) (c := n) (xs := xs) h0 (by omega) (by simp only [maxLen]; have := Nat.le_mul_of_pos_right n h0; omega) (by rw [f2]; simp) (fun i y hy => by
    have hi' : i < ps.toList.length := by rw [← r1]; exact (List.getElem?_eq_some_iff.1 hy).1
    obtain ⟨_, b2, _, y', b4, b5, b6⟩ := r2 i _ (List.getElem?_eq_getElem hi'); rw [hy] at b4; cases b4; refine ⟨b5, fun j r hj => ?_⟩
    have hj' : j < de.size := by rw [← b5]; exact (List.getElem?_eq_some_iff.1 hj).1
    have := b6 j r hj
    simp only [Array.getD_eq_getD_getElem?] at this ⊢; rw [f3 i _ (List.getElem?_eq_getElem hi') j hj']; exact this)
  rw [hxn] at g2; rw [upd_cons]; exact ⟨_, _, ρ', D', hrun, g1, g2⟩
end
end Go.Proofs.Ytjklkppncmhehaa.T
