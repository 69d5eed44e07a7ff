/-
  What is proved: plain facts about locks as numbers and lists: when a lock is valid, and the steps of the loops that look for it. No program.
-/
namespace Go.Proofs.YtohbmkppfbbngaaDoor

/-- The line of a lock: consumers, none of them the holder, each once. -/
def lineOk (h : Int) (zs : List Int) : Prop := (∀ z ∈ zs, 0 ≤ z ∧ z ≤ 3 ∧ z ≠ h) ∧ zs.Nodup
instance (h : Int) (zs : List Int) : Decidable (lineOk h zs) := by unfold lineOk; exact inferInstance
def LV (h f : Int) (zs : List Int) : Prop := -1 ≤ h ∧ h ≤ 3 ∧ 0 ≤ f ∧ f ≤ 99 ∧ (h = -1 → zs = []) ∧ (h ≠ -1 → f ≠ 0) ∧ lineOk h zs
instance (h f : Int) (zs : List Int) : Decidable (LV h f zs) := by unfold LV; exact inferInstance
def lvB (h f : Int) (zs : List Int) : Bool := decide (LV h f zs)

theorem lineOk_nil (h : Int) : lineOk h [] := by simp [lineOk]
theorem lineOk_bad {h z : Int} {zs : List Int} {k : Nat} (hz : zs[k]? = some z) (hb : z < 0 ∨ 3 < z ∨ z = h ∨ z ∈ zs.take k) : ¬ lineOk h zs := by
  rintro ⟨h1, h2⟩
  have hm : z ∈ zs := List.mem_of_getElem? hz
  have := h1 z hm
  rcases hb with hb | hb | hb | hb
  · omega
  · omega
  · exact this.2.2 hb
  · have hk : k < zs.length := (List.getElem?_eq_some_iff.1 hz).1
    have hzs : zs = zs.take k ++ zs.drop k := (List.take_append_drop k zs).symm
    rw [hzs, List.nodup_append] at h2
    have hd : z ∈ zs.drop k := by
      rw [List.drop_eq_getElem_cons hk]
      have : zs[k] = z := by rw [List.getElem?_eq_getElem hk] at hz; exact Option.some.inj hz
      rw [this]; exact List.mem_cons_self
    exact h2.2.2 z hb z hd rfl
theorem lineOk_step {h z : Int} {zs : List Int} {k : Nat} (hz : zs[k]? = some z) (ho : lineOk h (zs.take k)) (h0 : 0 ≤ z) (h3 : z ≤ 3) (hh : z ≠ h) (hm : ¬ z ∈ zs.take k) : lineOk h (zs.take (k + 1)) := by
  obtain ⟨h1, h2⟩ := ho
  have e : zs.take (k + 1) = zs.take k ++ [z] := by rw [List.take_add_one, hz]; rfl
  rw [e]
  refine ⟨fun y hy => ?_, ?_⟩
  · rcases List.mem_append.1 hy with hy | hy
    · exact h1 y hy
    · rw [List.mem_singleton.1 hy]; exact ⟨h0, h3, hh⟩
  · rw [List.nodup_append]
    refine ⟨h2, by simp, fun a ha b hb => ?_⟩
    rw [List.mem_singleton.1 hb]
    rintro rfl
    exact hm ha
theorem lvB_true {h f : Int} {zs : List Int} (hl : LV h f zs) : lvB h f zs = true := by simp [lvB, hl]
theorem lvB_false {h f : Int} {zs : List Int} (hl : ¬ LV h f zs) : lvB h f zs = false := by simp [lvB, hl]
theorem lvB_out {h f : Int} {zs : List Int} (hb : h < -1 ∨ 3 < h ∨ f < 0 ∨ 99 < f) : lvB h f zs = false := lvB_false fun hl => by unfold LV at hl; omega
theorem lvB_line {h f : Int} {zs : List Int} (hb : ¬ lineOk h zs) : lvB h f zs = false := lvB_false fun hl => hb hl.2.2.2.2.2.2
theorem lvB_zero {h : Int} {zs : List Int} (hb : h ≠ -1) : lvB h 0 zs = false := lvB_false fun hl => hl.2.2.2.2.2.1 hb rfl
theorem lvB_free {f : Int} {zs : List Int} (h1 : 0 ≤ f) (h2 : f ≤ 99) : lvB (-1) f zs = decide (zs.length = 0) := by
  by_cases h : zs = []
  · subst h
    rw [lvB_true]; simp
    exact ⟨by omega, by omega, h1, h2, fun _ => rfl, fun h => absurd rfl h, lineOk_nil _⟩
  · rw [lvB_false fun hl => h (hl.2.2.2.2.1 rfl)]
    have : zs.length ≠ 0 := fun h' => h (List.eq_nil_of_length_eq_zero h')
    simp [this]
theorem lvB_mk {h f : Int} {zs : List Int} (h1 : 0 ≤ h) (h2 : h ≤ 3) (h3 : 0 < f) (h4 : f ≤ 99) (ho : lineOk h zs) : lvB h f zs = true :=
  lvB_true ⟨by omega, h2, by omega, h4, fun e => by omega, fun _ => by omega, ho⟩

theorem nodup_len : ∀ (m : Nat) (xs : List Int), xs.Nodup → (∀ x ∈ xs, 0 ≤ x ∧ x < m) → xs.length ≤ m
  | 0, xs, _, h => by
    cases xs with
    | nil => simp
    | cons a r => have := h a List.mem_cons_self; omega
  | m + 1, xs, hn, h => by
    have h1 : (xs.erase (m : Int)).length ≤ m := nodup_len m _ (hn.erase _) fun x hx => by
      rw [hn.mem_erase_iff] at hx
      have := h x hx.2
      omega
    rw [List.length_erase] at h1
    split at h1 <;> omega
theorem lineOk_len {h : Int} {zs : List Int} (ho : lineOk h zs) : zs.length ≤ 4 :=
  nodup_len 4 zs ho.2 fun x hx => by have := ho.1 x hx; omega
theorem lvB_len {h f : Int} {zs : List Int} (hv : lvB h f zs = true) : zs.length ≤ 4 := by
  simp only [lvB, decide_eq_true_eq] at hv
  exact lineOk_len hv.2.2.2.2.2.2
theorem lvB_LV {h f : Int} {zs : List Int} (hv : lvB h f zs = true) : LV h f zs := by simpa [lvB] using hv

/-- The place of a number in a list, -1 if it is not there. -/
def idxI (xs : List Int) (who : Int) : Int := if who ∈ xs then (xs.idxOf who : Int) else -1
theorem idxI_at {xs : List Int} {who : Int} {k : Nat} (hk : xs[k]? = some who) (hno : ¬ who ∈ xs.take k) : idxI xs who = k := by
  have hm : who ∈ xs := List.mem_of_getElem? hk
  unfold idxI
  rw [if_pos hm]
  have hlt : k < xs.length := (List.getElem?_eq_some_iff.1 hk).1
  have e : xs = xs.take k ++ who :: xs.drop (k + 1) := by
    have h1 : xs.drop k = who :: xs.drop (k + 1) := by
      rw [List.drop_eq_getElem_cons hlt]
      congr 1
      rw [List.getElem?_eq_getElem hlt] at hk
      exact Option.some.inj hk
    rw [← h1, List.take_append_drop]
  have : (xs.idxOf who) = k := by
    rw [e, List.idxOf_append, if_neg hno, List.idxOf_cons_self]
    rw [List.length_take]; omega
  rw [this]
theorem idxI_no {xs : List Int} {who : Int} (hno : ¬ who ∈ xs) : idxI xs who = -1 := by unfold idxI; rw [if_neg hno]
theorem idxI_none {xs : List Int} {who : Int} {k : Nat} (hno : ¬ who ∈ xs.take k) (hk : xs.length ≤ k) : idxI xs who = -1 := idxI_no (by rwa [List.take_of_length_le hk] at hno)
/-- The place in a lock's line, the holder first. -/
def placeI (h : Int) (zs : List Int) (who : Int) : Int := idxI (h :: zs) who
theorem placeI_holder {h : Int} {zs : List Int} : placeI h zs h = 0 := idxI_at (k := 0) rfl (by simp)
theorem placeI_line {h who : Int} {zs : List Int} {k : Nat} (hk : zs[k]? = some who) (hh : ¬ h = who) (hno : ¬ who ∈ zs.take k) : placeI h zs who = (k : Int) + 1 := by
  have := idxI_at (xs := h :: zs) (k := k + 1) (by simpa using hk) (by rw [List.take_succ_cons]; simp [hno]; omega)
  unfold placeI
  rw [this]
  omega
theorem placeI_no {h who : Int} {zs : List Int} (hh : ¬ h = who) (hno : ¬ who ∈ zs) : placeI h zs who = -1 := idxI_no (by simp [hno]; omega)
/-- The place that LockPlace gives. -/
def lpI (h f : Int) (zs : List Int) (who : Int) : Int := if lvB h f zs = true ∧ 0 ≤ who ∧ who ≤ 3 then placeI h zs who else -1
end Go.Proofs.YtohbmkppfbbngaaDoor
