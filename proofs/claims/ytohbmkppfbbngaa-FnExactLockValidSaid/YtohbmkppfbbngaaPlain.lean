/-
  What is proved: plain facts about locks as numbers and lists: when a lock is valid, and the steps of the loops that look for it. No program.
-/
namespace Go.Proofs.Ytohbmkppfbbngaa

/-- The line of a lock: consumers, none of them the holder, each once. -/
def lineOk (h : Int) (zs : List Int) : Prop := (∀ z ∈ zs, 0 ≤ z ∧ z ≤ 3 ∧ z ≠ h) ∧ zs.Nodup
instance (h : Int) (zs : List Int) : Decidable (lineOk h zs) := by unfold lineOk; exact inferInstance
def LV (h f : Int) (zs : List Int) : Prop := -1 ≤ h ∧ h ≤ 3 ∧ 0 ≤ f ∧ f ≤ 99 ∧ (h = -1 → zs = []) ∧ (h ≠ -1 → f ≠ 0) ∧ lineOk h zs
instance (h f : Int) (zs : List Int) : Decidable (LV h f zs) := by unfold LV; exact inferInstance
def lvB (h f : Int) (zs : List Int) : Bool := decide (LV h f zs)

theorem lineOk_nil (h : Int) : lineOk h [] := by simp [lineOk]
theorem lineOk_bad {h z : Int} {zs : List Int} {k : Nat} (hz : zs[k]? = some z) (hb : z < 0 ∨ 3 < z ∨ z = h ∨ z ∈ zs.take k) : ¬ lineOk h zs := by
  rintro ⟨h1, h2⟩
  have hm : z ∈ zs := List.mem_of_getElem? hz
  have := h1 z hm
  rcases hb with hb | hb | hb | hb
  · omega
  · omega
  · exact this.2.2 hb
  · have hk : k < zs.length := (List.getElem?_eq_some_iff.1 hz).1
    have hzs : zs = zs.take k ++ zs.drop k := (List.take_append_drop k zs).symm
    rw [hzs, List.nodup_append] at h2
    have hd : z ∈ zs.drop k := by
      rw [List.drop_eq_getElem_cons hk]
      have : zs[k] = z := by rw [List.getElem?_eq_getElem hk] at hz; exact Option.some.inj hz
      rw [this]; exact List.mem_cons_self
    exact h2.2.2 z hb z hd rfl
theorem lineOk_step {h z : Int} {zs : List Int} {k : Nat} (hz : zs[k]? = some z) (ho : lineOk h (zs.take k)) (h0 : 0 ≤ z) (h3 : z ≤ 3) (hh : z ≠ h) (hm : ¬ z ∈ zs.take k) : lineOk h (zs.take (k + 1)) := by
  obtain ⟨h1, h2⟩ := ho
  have e : zs.take (k + 1) = zs.take k ++ [z] := by rw [List.take_add_one, hz]; rfl
  rw [e]
  refine ⟨fun y hy => ?_, ?_⟩
  · rcases List.mem_append.1 hy with hy | hy
    · exact h1 y hy
    · rw [List.mem_singleton.1 hy]; exact ⟨h0, h3, hh⟩
  · rw [List.nodup_append]
    refine ⟨h2, by simp, fun a ha b hb => ?_⟩
    rw [List.mem_singleton.1 hb]
    rintro rfl
    exact hm ha
theorem lvB_true {h f : Int} {zs : List Int} (hl : LV h f zs) : lvB h f zs = true := by simp [lvB, hl]
theorem lvB_false {h f : Int} {zs : List Int} (hl : ¬ LV h f zs) : lvB h f zs = false := by simp [lvB, hl]
theorem lvB_out {h f : Int} {zs : List Int} (hb : h < -1 ∨ 3 < h ∨ f < 0 ∨ 99 < f) : lvB h f zs = false := lvB_false fun hl => by unfold LV at hl; omega
theorem lvB_line {h f : Int} {zs : List Int} (hb : ¬ lineOk h zs) : lvB h f zs = false := lvB_false fun hl => hb hl.2.2.2.2.2.2
theorem lvB_zero {h : Int} {zs : List Int} (hb : h ≠ -1) : lvB h 0 zs = false := lvB_false fun hl => hl.2.2.2.2.2.1 hb rfl
theorem lvB_free {f : Int} {zs : List Int} (h1 : 0 ≤ f) (h2 : f ≤ 99) : lvB (-1) f zs = decide (zs.length = 0) := by
  by_cases h : zs = []
  · subst h
    rw [lvB_true]; simp
    exact ⟨by omega, by omega, h1, h2, fun _ => rfl, fun h => absurd rfl h, lineOk_nil _⟩
  · rw [lvB_false fun hl => h (hl.2.2.2.2.1 rfl)]
    have : zs.length ≠ 0 := fun h' => h (List.eq_nil_of_length_eq_zero h')
    simp [this]
theorem lvB_mk {h f : Int} {zs : List Int} (h1 : 0 ≤ h) (h2 : h ≤ 3) (h3 : 0 < f) (h4 : f ≤ 99) (ho : lineOk h zs) : lvB h f zs = true :=
  lvB_true ⟨by omega, h2, by omega, h4, fun e => by omega, fun _ => by omega, ho⟩
end Go.Proofs.Ytohbmkppfbbngaa
