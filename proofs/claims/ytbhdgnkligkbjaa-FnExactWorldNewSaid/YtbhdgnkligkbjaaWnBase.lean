/-
  What is proved: words on rows of groups whose lists are empty, and the contracts of the functions of laws at empty lists. Conditions: those that each theorem states.
-/
import Derived.Test.YtbhdgnkligkbjaaProg
import Derived.Test.YtbhdgnkligkbjaaWords
import Derived.WalkKit
import Derived.ProofKit
import Derived.OneCell
import Derived.LoopTactic
namespace Go.Proofs.Ytbhdgnkligkbjaa
open Go.RowKit

/-- The cells of n groups: numbers f, clocks g, two empty lists each. -/
def Grps (f g : Nat → Int) (xs : List Value) (n : Nat) : Prop :=
  xs.length = n * 4 ∧ ∀ i, i < n → xs[i * 4]? = some (.int .i64 (f i)) ∧ xs[i * 4 + 1]? = some (.int .i64 (g i)) ∧ ∃ A c A' c', xs[i * 4 + 2]? = some (.slice A 0 c) ∧ xs[i * 4 + 3]? = some (.slice A' 0 c')
theorem Grps.nil (f g : Nat → Int) : Grps f g [] 0 := ⟨rfl, fun i hi => by omega⟩
theorem Grps.snoc {f g : Nat → Int} {xs : List Value} {n : Nat} (h : Grps f g xs n) {a b : Int} (ha : a = f n) (hb : b = g n) (A A' : Option Addr) (c c' : Nat) :
    Grps f g (xs ++ [.int .i64 a, .int .i64 b, .slice A 0 c, .slice A' 0 c']) (n + 1) := by
  subst ha hb
  refine ⟨by rw [List.length_append, h.1]; simp; omega, fun i hi => ?_⟩
  have hl := h.1
  by_cases hin : i < n
  · obtain ⟨h0, h1, B, d, B', d', h2, h3⟩ := h.2 i hin
    refine ⟨?_, ?_, B, d, B', d', ?_, ?_⟩ <;> rw [List.getElem?_append_left (by omega)] <;> assumption
  · have e : i = n := by omega
    subst e
    refine ⟨?_, ?_, A, c, A', c', ?_, ?_⟩ <;> rw [List.getElem?_append_right (by omega), hl]
    · rw [show i * 4 - i * 4 = 0 from by omega]; rfl
    · rw [show i * 4 + 1 - i * 4 = 1 from by omega]; rfl
    · rw [show i * 4 + 2 - i * 4 = 2 from by omega]; rfl
    · rw [show i * 4 + 3 - i * 4 = 3 from by omega]; rfl
theorem Grps.congr {f g f' g' : Nat → Int} {xs : List Value} {n : Nat} (h : Grps f g xs n) (hf : ∀ i, i < n → f i = f' i) (hg : ∀ i, i < n → g i = g' i) : Grps f' g' xs n :=
  ⟨h.1, fun i hi => by
    obtain ⟨h0, h1, h2⟩ := h.2 i hi
    exact ⟨by rw [h0, hf i hi], by rw [h1, hg i hi], h2⟩⟩
theorem Grps.set0 {f g : Nat → Int} {xs : List Value} {n k : Nat} (h : Grps f g xs n) (hk : k < n) (a : Int) : Grps (fun i => if i = k then a else f i) g (xs.set (k * 4) (.int .i64 a)) n := by
  refine ⟨by rw [List.length_set]; exact h.1, fun i hi => ?_⟩
  obtain ⟨h0, h1, A, c, A', c', h2, h3⟩ := h.2 i hi
  have hl := h.1
  refine ⟨?_, ?_, A, c, A', c', ?_, ?_⟩
  · by_cases e : i = k
    · subst e; simp only [if_pos]; rw [List.getElem?_set_self (by omega)]
    · simp only [if_neg e]; rw [List.getElem?_set_ne (by omega)]; exact h0
  · rw [List.getElem?_set_ne (by omega)]; exact h1
  · rw [List.getElem?_set_ne (by omega)]; exact h2
  · rw [List.getElem?_set_ne (by omega)]; exact h3
theorem Grps.set1 {f g : Nat → Int} {xs : List Value} {n k : Nat} (h : Grps f g xs n) (hk : k < n) (a : Int) : Grps f (fun i => if i = k then a else g i) (xs.set (k * 4 + 1) (.int .i64 a)) n := by
  refine ⟨by rw [List.length_set]; exact h.1, fun i hi => ?_⟩
  obtain ⟨h0, h1, A, c, A', c', h2, h3⟩ := h.2 i hi
  have hl := h.1
  refine ⟨?_, ?_, A, c, A', c', ?_, ?_⟩
  · rw [List.getElem?_set_ne (by omega)]; exact h0
  · by_cases e : i = k
    · subst e; simp only [if_pos]; rw [List.getElem?_set_self (by omega)]
    · simp only [if_neg e]; rw [List.getElem?_set_ne (by omega)]; exact h1
  · rw [List.getElem?_set_ne (by omega)]; exact h2
  · rw [List.getElem?_set_ne (by omega)]; exact h3

/-- A row of n groups in a block of its own. -/
def GRow (w : World) (base g c n : Nat) (f h : Nat → Int) : Prop := ∃ xs, w.ownsRow base 35 4 (.slice (some ⟨g, 0, none⟩) n c) n xs ∧ Grps f h xs n
section
variable {w w' : World} {base g c n : Nat} {f h : Nat → Int}
theorem GRow.at_ (s : GRow w base g c n f h) {i : Nat} (hi : i < n) : w.cell? ⟨g, i * 4, none⟩ = some (.int .i64 (f i)) ∧ w.cell? ⟨g, i * 4 + 1, none⟩ = some (.int .i64 (h i)) ∧
    ∃ A c A' c', w.cell? ⟨g, i * 4 + 2, none⟩ = some (.slice A 0 c) ∧ w.cell? ⟨g, i * 4 + 3, none⟩ = some (.slice A' 0 c') := by
  obtain ⟨xs, ho, hx⟩ := s
  obtain ⟨h0, h1, A, c, A', c', h2, h3⟩ := hx.2 i hi
  exact ⟨(ho.cellAt _ (by omega)).trans h0, (ho.cellAt _ (by omega)).trans h1, A, c, A', c', (ho.cellAt _ (by omega)).trans h2, (ho.cellAt _ (by omega)).trans h3⟩
theorem GRow.lt (s : GRow w base g c n f h) : base ≤ g ∧ g < w.heap.size := by
  obtain ⟨xs, ho, hx⟩ := s
  exact World.ownsRow.lt ho g rfl
theorem GRow.caps (s : GRow w base g c n f h) : n ≤ c ∧ c ≤ maxLen := by
  obtain ⟨xs, ho, hx⟩ := s
  rcases ho.2 with ⟨he, _⟩ | ⟨g', cap, cur, he, _, _, h1, h2, _⟩
  · cases he
  · simp only [Value.slice.injEq] at he
    obtain ⟨_, _, rfl⟩ := he
    exact ⟨h1, h2⟩
theorem GRow.below (s : GRow w base g c n f h) (hb : Below w.heap.size w w') : GRow w' base g c n f h := by
  obtain ⟨xs, ho, hx⟩ := s
  refine ⟨xs, ⟨ho.1, ?_⟩, hx⟩
  rcases ho.2 with hn | ⟨g', cap, cur, he, hb', hgg, rest⟩
  · exact .inl hn
  · exact .inr ⟨g', cap, cur, he, hb', (hb.block g' (Array.getElem?_eq_some_iff.1 hgg).1).trans hgg, rest⟩
theorem GRow.kept (s : GRow w base g c n f h) {row : Option Nat} (hg : w.grownBy w' row) (hne : some g ≠ row) : GRow w' base g c n f h := by
  obtain ⟨xs, ho, hx⟩ := s
  exact ⟨xs, ho.kept hg (.inr hne), hx⟩
theorem GRow.mono {b : Nat} (s : GRow w base g c n f h) (hb : b ≤ base) : GRow w b g c n f h := by
  obtain ⟨xs, ho, hx⟩ := s
  exact ⟨xs, own_mono ho hb, hx⟩
theorem GRow.congr {f' h' : Nat → Int} (s : GRow w base g c n f h) (hf : ∀ i, i < n → f i = f' i) (hh : ∀ i, i < n → h i = h' i) : GRow w base g c n f' h' := by
  obtain ⟨xs, ho, hx⟩ := s
  exact ⟨xs, ho, hx.congr hf hh⟩
theorem GRow.frozen (s : GRow w base g c n f h) (j : Nat) : w.frozen? ⟨g, j, none⟩ = false := by
  obtain ⟨xs, ho, hx⟩ := s
  exact ho.frozenAt j
theorem GRow.set0 (s : GRow w base g c n f h) {k : Nat} (hk : k < n) (a : Int) : GRow (w.setCell ⟨g, k * 4, none⟩ (.int .i64 a)) base g c n (fun i => if i = k then a else f i) h ∧ w.grownBy (w.setCell ⟨g, k * 4, none⟩ (.int .i64 a)) (some g) := by
  obtain ⟨xs, ho, hx⟩ := s
  have := ho.stored (k * 4) (.int .i64 a)
  exact ⟨⟨_, this.1, hx.set0 hk a⟩, this.2⟩
theorem GRow.set1 (s : GRow w base g c n f h) {k : Nat} (hk : k < n) (a : Int) : GRow (w.setCell ⟨g, k * 4 + 1, none⟩ (.int .i64 a)) base g c n f (fun i => if i = k then a else h i) ∧ w.grownBy (w.setCell ⟨g, k * 4 + 1, none⟩ (.int .i64 a)) (some g) := by
  obtain ⟨xs, ho, hx⟩ := s
  have := ho.stored (k * 4 + 1) (.int .i64 a)
  exact ⟨⟨_, this.1, hx.set1 hk a⟩, this.2⟩
end
theorem grown_trans {a b c : World} {row : Option Nat} (h : a.grownBy b row) (k : b.grownBy c row) : a.grownBy c row :=
  ⟨k.os.trans h.os, k.tape.trans h.tape, k.output.trans h.output, Nat.le_trans h.size k.size, fun i hi hne => (k.block i (Nat.lt_of_lt_of_le hi h.size) hne).trans (h.block i hi hne)⟩
theorem grown_of_below {a b : World} {row : Option Nat} (h : Below a.heap.size a b) : a.grownBy b row := ⟨h.os, h.tape, h.output, h.size, fun i hi _ => h.block i hi⟩

/-! ### the functions at empty lists -/
set_option maxRecDepth 100000 in
theorem eqIntSS_nil (A A' : Option Addr) (c c' : Nat) (w : World) : Calls Try.prog 11 #[.slice A 0 c, .slice A' 0 c'] w fun e w' => e = .returned (.bool true) ∧ w = w' := by
  go_enter Try.func11, Try.ntmps11
  go_wp2
  go_loop [5] (fun i => i = .int .i64 0) (fun _ => 0)
  case atStart => rfl
  case round =>
    subst hrel
    go_wp2
    go_ret
    exact ⟨rfl, rfl⟩
set_option maxRecDepth 100000 in
theorem eqRoundS_nil (A A' : Option Addr) (c c' : Nat) (w : World) : Calls Try.prog 13 #[.slice A 0 c, .slice A' 0 c'] w fun e w' => e = .returned (.bool true) ∧ w = w' := by
  go_enter Try.func13, Try.ntmps13
  go_wp2
  go_loop [5] (fun i => i = .int .i64 0) (fun _ => 0)
  case atStart => rfl
  case round =>
    subst hrel
    go_wp2
    go_ret
    exact ⟨rfl, rfl⟩
set_option maxRecDepth 100000 in
theorem eqBoolS_nil (A A' : Option Addr) (c c' : Nat) (w : World) : Calls Try.prog 14 #[.slice A 0 c, .slice A' 0 c'] w fun e w' => e = .returned (.bool true) ∧ w = w' := by
  go_enter Try.func14, Try.ntmps14
  go_wp2
  go_loop [5] (fun i => i = .int .i64 0) (fun _ => 0)
  case atStart => rfl
  case round =>
    subst hrel
    go_wp2
    go_ret
    exact ⟨rfl, rfl⟩
set_option maxRecDepth 100000 in
theorem eqPacketS_nil (A A' : Option Addr) (c c' : Nat) (w : World) : Calls Try.prog 15 #[.slice A 0 c, .slice A' 0 c'] w fun e w' => e = .returned (.bool true) ∧ w = w' := by
  go_enter Try.func15, Try.ntmps15
  go_wp2
  go_loop [5] (fun i => i = .int .i64 0) (fun _ => 0)
  case atStart => rfl
  case round =>
    subst hrel
    go_wp2
    go_ret
    exact ⟨rfl, rfl⟩
set_option maxRecDepth 100000 in
theorem eqEntryS_nil (A A' : Option Addr) (c c' : Nat) (w : World) : Calls Try.prog 39 #[.slice A 0 c, .slice A' 0 c'] w fun e w' => e = .returned (.bool true) ∧ w = w' := by
  go_enter Try.func39, Try.ntmps39
  go_wp2
  go_loop [5] (fun i => i = .int .i64 0) (fun _ => 0)
  case atStart => rfl
  case round =>
    subst hrel
    go_wp2
    go_ret
    exact ⟨rfl, rfl⟩
set_option maxRecDepth 100000 in
theorem markIntSS_nil (A : Option Addr) (c : Nat) (k : Int) (w : World) : Calls Try.prog 16 #[.slice A 0 c, .int .i64 k] w fun e w' => e = .returned (.int .i64 k) ∧ w = w' := by
  go_enter Try.func16, Try.ntmps16
  go_wp2
  go_loop [1, 5] (fun v i => i = .int .i64 0 ∧ v = .int .i64 k) (fun _ _ => 0)
  case atStart => exact ⟨rfl, rfl⟩
  case round =>
    obtain ⟨rfl, rfl⟩ := hrel
    go_wp2
    go_ret
    exact ⟨rfl, rfl⟩
set_option maxRecDepth 100000 in
theorem markRoundS_nil (A : Option Addr) (c : Nat) (k : Int) (w : World) : Calls Try.prog 18 #[.slice A 0 c, .int .i64 k] w fun e w' => e = .returned (.int .i64 k) ∧ w = w' := by
  go_enter Try.func18, Try.ntmps18
  go_wp2
  go_loop [1, 5] (fun v i => i = .int .i64 0 ∧ v = .int .i64 k) (fun _ _ => 0)
  case atStart => exact ⟨rfl, rfl⟩
  case round =>
    obtain ⟨rfl, rfl⟩ := hrel
    go_wp2
    go_ret
    exact ⟨rfl, rfl⟩
set_option maxRecDepth 100000 in
theorem markBoolS_nil (A : Option Addr) (c : Nat) (k : Int) (w : World) : Calls Try.prog 19 #[.slice A 0 c, .int .i64 k] w fun e w' => e = .returned (.int .i64 k) ∧ w = w' := by
  go_enter Try.func19, Try.ntmps19
  go_wp2
  go_loop [1, 5] (fun v i => i = .int .i64 0 ∧ v = .int .i64 k) (fun _ _ => 0)
  case atStart => exact ⟨rfl, rfl⟩
  case round =>
    obtain ⟨rfl, rfl⟩ := hrel
    go_wp2
    go_ret
    exact ⟨rfl, rfl⟩
set_option maxRecDepth 100000 in
theorem markPacketS_nil (A : Option Addr) (c : Nat) (k : Int) (w : World) : Calls Try.prog 20 #[.slice A 0 c, .int .i64 k] w fun e w' => e = .returned (.int .i64 k) ∧ w = w' := by
  go_enter Try.func20, Try.ntmps20
  go_wp2
  go_loop [1, 5] (fun v i => i = .int .i64 0 ∧ v = .int .i64 k) (fun _ _ => 0)
  case atStart => exact ⟨rfl, rfl⟩
  case round =>
    obtain ⟨rfl, rfl⟩ := hrel
    go_wp2
    go_ret
    exact ⟨rfl, rfl⟩
set_option maxRecDepth 100000 in
theorem markEntryS_nil (A : Option Addr) (c : Nat) (k : Int) (w : World) : Calls Try.prog 33 #[.slice A 0 c, .int .i64 k] w fun e w' => e = .returned (.int .i64 k) ∧ w = w' := by
  go_enter Try.func33, Try.ntmps33
  go_wp2
  go_loop [1, 5] (fun v i => i = .int .i64 0 ∧ v = .int .i64 k) (fun _ _ => 0)
  case atStart => exact ⟨rfl, rfl⟩
  case round =>
    obtain ⟨rfl, rfl⟩ := hrel
    go_wp2
    go_ret
    exact ⟨rfl, rfl⟩
set_option maxRecDepth 100000 in
theorem heldIntSS_nil (A : Option Addr) (c : Nat) (k : Int) (w : World) : Calls Try.prog 21 #[.slice A 0 c, .int .i64 k] w fun e w' => e = .returned (.int .i64 k) ∧ w = w' := by
  go_enter Try.func21, Try.ntmps21
  go_wp2
  go_loop [1, 5] (fun v i => i = .int .i64 0 ∧ v = .int .i64 k) (fun _ _ => 0)
  case atStart => exact ⟨rfl, rfl⟩
  case round =>
    obtain ⟨rfl, rfl⟩ := hrel
    go_wp2
    go_ret
    exact ⟨rfl, rfl⟩
set_option maxRecDepth 100000 in
theorem heldRoundS_nil (A : Option Addr) (c : Nat) (k : Int) (w : World) : Calls Try.prog 23 #[.slice A 0 c, .int .i64 k] w fun e w' => e = .returned (.int .i64 k) ∧ w = w' := by
  go_enter Try.func23, Try.ntmps23
  go_wp2
  go_loop [1, 5] (fun v i => i = .int .i64 0 ∧ v = .int .i64 k) (fun _ _ => 0)
  case atStart => exact ⟨rfl, rfl⟩
  case round =>
    obtain ⟨rfl, rfl⟩ := hrel
    go_wp2
    go_ret
    exact ⟨rfl, rfl⟩
set_option maxRecDepth 100000 in
theorem heldBoolS_nil (A : Option Addr) (c : Nat) (k : Int) (w : World) : Calls Try.prog 24 #[.slice A 0 c, .int .i64 k] w fun e w' => e = .returned (.int .i64 k) ∧ w = w' := by
  go_enter Try.func24, Try.ntmps24
  go_wp2
  go_loop [1, 5] (fun v i => i = .int .i64 0 ∧ v = .int .i64 k) (fun _ _ => 0)
  case atStart => exact ⟨rfl, rfl⟩
  case round =>
    obtain ⟨rfl, rfl⟩ := hrel
    go_wp2
    go_ret
    exact ⟨rfl, rfl⟩
set_option maxRecDepth 100000 in
theorem heldPacketS_nil (A : Option Addr) (c : Nat) (k : Int) (w : World) : Calls Try.prog 25 #[.slice A 0 c, .int .i64 k] w fun e w' => e = .returned (.int .i64 k) ∧ w = w' := by
  go_enter Try.func25, Try.ntmps25
  go_wp2
  go_loop [1, 5] (fun v i => i = .int .i64 0 ∧ v = .int .i64 k) (fun _ _ => 0)
  case atStart => exact ⟨rfl, rfl⟩
  case round =>
    obtain ⟨rfl, rfl⟩ := hrel
    go_wp2
    go_ret
    exact ⟨rfl, rfl⟩
set_option maxRecDepth 100000 in
theorem heldEntryS_nil (A : Option Addr) (c : Nat) (k : Int) (w : World) : Calls Try.prog 36 #[.slice A 0 c, .int .i64 k] w fun e w' => e = .returned (.int .i64 k) ∧ w = w' := by
  go_enter Try.func36, Try.ntmps36
  go_wp2
  go_loop [1, 5] (fun v i => i = .int .i64 0 ∧ v = .int .i64 k) (fun _ _ => 0)
  case atStart => exact ⟨rfl, rfl⟩
  case round =>
    obtain ⟨rfl, rfl⟩ := hrel
    go_wp2
    go_ret
    exact ⟨rfl, rfl⟩
end Go.Proofs.Ytbhdgnkligkbjaa
