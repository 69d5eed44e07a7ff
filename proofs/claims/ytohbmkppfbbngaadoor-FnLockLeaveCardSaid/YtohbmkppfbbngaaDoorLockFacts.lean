/-
  What is proved: plain facts on what LockAsk and LockFree give: the laws' own words. No program.
-/
import Derived.Test.YtohbmkppfbbngaaDoorImpl
namespace Go.Proofs.YtohbmkppfbbngaaDoor
open Go.RowKit

theorem ask_ok {h f who rh rf : Int} {zs rz : List Int} {ro : Bool} (hres : askP h f zs who = ((rh, rf, rz), ro)) (hv : lvB h f zs = true) (hw : 0 ≤ who ∧ who ≤ 3) :
    (ro = true ∧ ¬ (h = who ∨ who ∈ zs ∨ 99 ≤ f + zs.length) ∧ ((0 ≤ h ∧ rh = h ∧ rf = f ∧ rz = zs ++ [who]) ∨ (h < 0 ∧ rh = who ∧ rf = f + 1 ∧ rz = zs ∧ zs = []))) ∨
      (ro = false ∧ (h = who ∨ who ∈ zs ∨ 99 ≤ f + zs.length) ∧ rh = h ∧ rf = f ∧ rz = zs) := by
  by_cases hb : h = who ∨ who ∈ zs ∨ 99 ≤ f + zs.length
  · rw [ask_no hv hw hb] at hres
    simp only [Prod.mk.injEq] at hres
    obtain ⟨⟨rfl, rfl, rfl⟩, rfl⟩ := hres
    exact .inr ⟨rfl, hb, rfl, rfl, rfl⟩
  · by_cases h0 : 0 ≤ h
    · rw [ask_line hv hw hb h0] at hres
      simp only [Prod.mk.injEq] at hres
      obtain ⟨⟨rfl, rfl, rfl⟩, rfl⟩ := hres
      exact .inl ⟨rfl, hb, .inl ⟨h0, rfl, rfl, rfl⟩⟩
    · rw [ask_free hv hw hb h0] at hres
      simp only [Prod.mk.injEq] at hres
      obtain ⟨⟨rfl, rfl, rfl⟩, rfl⟩ := hres
      have hl := lvB_LV hv
      exact .inl ⟨rfl, hb, .inr ⟨by omega, rfl, rfl, rfl, hl.2.2.2.2.1 (by have := hl.1; omega)⟩⟩
theorem lpI_pos {h f who : Int} {zs : List Int} (hv : lvB h f zs = true) (hw : 0 ≤ who ∧ who ≤ 3) : 0 ≤ lpI h f zs who ↔ (h = who ∨ who ∈ zs) := by
  unfold lpI
  rw [if_pos ⟨hv, hw⟩]
  unfold placeI idxI
  by_cases hm : who ∈ h :: zs
  · rw [if_pos hm]
    rw [List.mem_cons] at hm
    constructor
    · intro _; rcases hm with e | e
      · exact .inl e.symm
      · exact .inr e
    · intro _; omega
  · rw [if_neg hm]
    rw [List.mem_cons] at hm
    constructor
    · intro h1; omega
    · rintro (e | e)
      · exact absurd (.inl e.symm) hm
      · exact absurd (.inr e) hm
theorem free_ok {h f who rh rf : Int} {zs rz : List Int} {ro : Bool} (hres : freeP h f zs who = ((rh, rf, rz), ro)) (hv : lvB h f zs = true) (hw : 0 ≤ who ∧ who ≤ 3) :
    (h = who ∧ ro = true ∧ zs ≠ [] ∧ f < 99 ∧ rh = zs.headD 0 ∧ rf = f + 1 ∧ rz = zs.tail) ∨ (h = who ∧ ro = true ∧ (zs = [] ∨ 99 ≤ f) ∧ rh = -1 ∧ rf = f ∧ rz = zs) ∨
      (h ≠ who ∧ ro = decide ((zs.filter (· ≠ who)).length < zs.length) ∧ rh = h ∧ rf = f ∧ rz = zs.filter (· ≠ who)) := by
  by_cases hh : h = who
  · by_cases hf : zs ≠ [] ∧ f < 99
    · cases zs with
      | nil => exact absurd rfl hf.1
      | cons z r =>
        rw [free_next hv hw hh hf.2] at hres
        simp only [Prod.mk.injEq] at hres
        obtain ⟨⟨rfl, rfl, rfl⟩, rfl⟩ := hres
        exact .inl ⟨hh, rfl, hf.1, hf.2, rfl, rfl, rfl⟩
    · rw [free_none hv hw hh hf] at hres
      simp only [Prod.mk.injEq] at hres
      obtain ⟨⟨rfl, rfl, rfl⟩, rfl⟩ := hres
      refine .inr (.inl ⟨hh, rfl, ?_, rfl, rfl, rfl⟩)
      by_cases hz : zs = []
      · exact .inl hz
      · exact .inr (by have h9 : ¬ f < 99 := fun e => hf ⟨hz, e⟩; omega)
  · rw [free_line hv hw hh] at hres
    simp only [Prod.mk.injEq] at hres
    obtain ⟨⟨rfl, rfl, rfl⟩, rfl⟩ := hres
    exact .inr (.inr ⟨hh, rfl, rfl, rfl, rfl⟩)
theorem free_valid {h f who rh rf : Int} {zs rz : List Int} (hres : freeP h f zs who = ((rh, rf, rz), true)) : lvB h f zs = true ∧ 0 ≤ who ∧ who ≤ 3 := by
  by_cases hb : lvB h f zs = true ∧ 0 ≤ who ∧ who ≤ 3
  · exact hb
  · rw [free_bad hb] at hres
    simp at hres
theorem filter_snoc {zs : List Int} {who : Int} (hn : ¬ who ∈ zs) : (zs ++ [who]).filter (· ≠ who) = zs := by
  rw [List.filter_append]
  have e : zs.filter (· ≠ who) = zs := List.filter_eq_self.2 fun a ha => by simp; rintro rfl; exact hn ha
  rw [e]
  simp
/-- Asking and leaving. -/
theorem back_ok {h f who rh rf : Int} {zs rz : List Int} (hres : askP h f zs who = ((rh, rf, rz), true)) (h0 : 0 ≤ h) : freeP rh rf rz who = ((h, f, zs), true) := by
  obtain ⟨hv, hw, hc⟩ : lvB h f zs = true ∧ (0 ≤ who ∧ who ≤ 3) ∧ True := by
    by_cases hb : lvB h f zs = true ∧ 0 ≤ who ∧ who ≤ 3
    · exact ⟨hb.1, hb.2, trivial⟩
    · rw [ask_bad hb] at hres
      simp at hres
  rcases ask_ok hres hv hw with ⟨_, hn, hl | hl⟩ | ⟨he, _⟩
  · obtain ⟨_, rfl, rfl, rfl⟩ := hl
    have hh : ¬ rh = who := fun e => hn (.inl e)
    have hm : ¬ who ∈ zs := fun e => hn (.inr (.inl e))
    have hl := lvB_LV hv
    have hv' : lvB rh rf (zs ++ [who]) = true := lvB_true ⟨hl.1, hl.2.1, hl.2.2.1, hl.2.2.2.1, fun e => by omega, hl.2.2.2.2.2.1, by
      obtain ⟨o1, o2⟩ := hl.2.2.2.2.2.2
      refine ⟨fun y hy => ?_, ?_⟩
      · rcases List.mem_append.1 hy with hy | hy
        · exact o1 y hy
        · rw [List.mem_singleton.1 hy]; exact ⟨hw.1, hw.2, fun e => hh e.symm⟩
      · rw [List.nodup_append]
        refine ⟨o2, by simp, fun a ha b hb => ?_⟩
        rw [List.mem_singleton.1 hb]
        rintro rfl
        exact hm ha⟩
    rw [free_line hv' hw hh, filter_snoc hm]
    simp
  · omega
  · cases he
/-- What LockAsk gives is valid. -/
theorem ask_lvB {h f who rh rf : Int} {zs rz : List Int} {ro : Bool} (hres : askP h f zs who = ((rh, rf, rz), ro)) (hv : lvB h f zs = true) (hw : 0 ≤ who ∧ who ≤ 3) : lvB rh rf rz = true := by
  have hl := lvB_LV hv
  rcases ask_ok hres hv hw with ⟨rfl, hn, hc | hc⟩ | ⟨_, _, rfl, rfl, rfl⟩
  · obtain ⟨h0, rfl, rfl, rfl⟩ := hc
    have hh : ¬ rh = who := fun e => hn (.inl e)
    have hm : ¬ who ∈ zs := fun e => hn (.inr (.inl e))
    refine lvB_true ⟨hl.1, hl.2.1, hl.2.2.1, hl.2.2.2.1, fun e => by omega, hl.2.2.2.2.2.1, ?_⟩
    obtain ⟨o1, o2⟩ := hl.2.2.2.2.2.2
    refine ⟨fun y hy => ?_, ?_⟩
    · rcases List.mem_append.1 hy with hy | hy
      · exact o1 y hy
      · rw [List.mem_singleton.1 hy]; exact ⟨hw.1, hw.2, fun e => hh e.symm⟩
    · rw [List.nodup_append]
      refine ⟨o2, by simp, fun a ha b hb => ?_⟩
      rw [List.mem_singleton.1 hb]
      rintro rfl
      exact hm ha
  · obtain ⟨h0, rfl, rfl, rfl, rfl⟩ := hc
    have h9 : ¬ 99 ≤ f + (([] : List Int).length : Int) := fun e => hn (.inr (.inr e))
    have hf := hl.2.2.1
    refine lvB_mk hw.1 hw.2 (by omega) ?_ (lineOk_nil _)
    simp at h9
    omega
  · exact hv
/-- What LockFree gives is valid, if the fence can still grow. -/
theorem free_lvB {h f who rh rf : Int} {zs rz : List Int} {ro : Bool} (hres : freeP h f zs who = ((rh, rf, rz), ro)) (hv : lvB h f zs = true) (hw : 0 ≤ who ∧ who ≤ 3) (h9 : f ≠ 99) : lvB rh rf rz = true := by
  have hl := lvB_LV hv
  obtain ⟨o1, o2⟩ := hl.2.2.2.2.2.2
  rcases free_ok hres hv hw with ⟨rfl, rfl, hz, hf, rfl, rfl, rfl⟩ | ⟨rfl, rfl, hc, rfl, rfl, rfl⟩ | ⟨hh, rfl, rfl, rfl, rfl⟩
  · cases zs with
    | nil => exact absurd rfl hz
    | cons z r =>
      have h1 := o1 z List.mem_cons_self
      have hf0 := hl.2.2.1
      refine lvB_mk h1.1 h1.2.1 (by omega) (by omega) ⟨fun y hy => ?_, (List.nodup_cons.1 o2).2⟩
      have h2 := o1 y (List.mem_cons_of_mem _ hy)
      refine ⟨h2.1, h2.2.1, fun e => ?_⟩
      have e' : y = z := e
      subst e'
      exact (List.nodup_cons.1 o2).1 hy
  · have h99 := hl.2.2.2.1
    rcases hc with rfl | hc
    · rw [lvB_free hl.2.2.1 h99]; rfl
    · omega
  · refine lvB_true ⟨hl.1, hl.2.1, hl.2.2.1, hl.2.2.2.1, fun e => ?_, hl.2.2.2.2.2.1, fun y hy => o1 y (List.mem_filter.1 hy).1, o2.filter _⟩
    rw [hl.2.2.2.2.1 e]
    rfl
end Go.Proofs.YtohbmkppfbbngaaDoor
