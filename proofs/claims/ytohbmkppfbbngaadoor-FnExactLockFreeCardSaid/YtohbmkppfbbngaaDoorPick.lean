/-
  What is proved: the contract of the reader that draws: (*l6Rd).pick returns a number from 0 to n-1 and moves the reader on by one place; nothing else changes. Condition: n is positive, and the reader has gone fewer than a million places.
-/
import Derived.Test.YtohbmkppfbbngaaDoorWords
import Derived.Test.YtohbmkppfbbngaaDoorProg
import Derived.WalkKit
import Derived.BigQuiet
import Derived.Deep.QuietTactic
import Derived.Laws.BitsAllLaws
import Derived.Laws.BitsLemmas
import Derived.WalkSmall
import Derived.WalkSpells
namespace Go.Proofs.YtohbmkppfbbngaaDoor
open Go.RowKit

theorem ofInt_i64 (a : Nat) (ha : a < 9223372036854775808) : (BitVec.ofInt 64 (a : Int)).toNat = a := by
  rw [BitVec.ofInt_natCast, BitVec.toNat_ofNat]; exact Nat.mod_eq_of_lt (by omega)
theorem i64_xor_nat (a b : Nat) (ha : a < 9223372036854775808) (hb : b < 9223372036854775808) : bits .xor .i64 (a : Int) (b : Int) = ((a ^^^ b : Nat) : Int) := by
  have hx : a ^^^ b < 2 ^ 63 := Nat.xor_lt_two_pow (by omega) (by omega)
  show IntKind.i64.wrap ((BitVec.ofInt 64 (a : Int) ^^^ BitVec.ofInt 64 (b : Int)).toNat : Int) = _
  rw [BitVec.toNat_xor, ofInt_i64 a ha, ofInt_i64 b hb, IntKind.wrap_i64]
  omega

/-- Bytes as values. -/
def bys (bs : List Int) : List Value := bs.map (Value.int .u8)
def Bytes (bs : List Int) : Prop := ∀ b ∈ bs, 0 ≤ b ∧ b ≤ 255
theorem bys_at {bs : List Int} {k : Nat} {u : Value} (hb : Bytes bs) (h : (bys bs)[k]? = some u) : ∃ z, 0 ≤ z ∧ z ≤ 255 ∧ u = .int .u8 z := by
  unfold bys at h
  rw [List.getElem?_map] at h
  cases hz : bs[k]? with
  | none => rw [hz] at h; cases h
  | some z => rw [hz] at h; have := hb z (List.mem_of_getElem? hz); exact ⟨z, this.1, this.2, by injection h with h; exact h.symm⟩

/-- The reader at block g: its bytes lie below block B, it has gone at most P places. -/
def Rd (w : World) (B g P : Nat) : Prop := ∃ A n c p bs, Blk w g 59 #[.slice A n c, .int .i64 (p : Nat)] ∧ Reads w B 1 A n (bys bs) ∧ Bytes bs ∧ n ≤ 2000 ∧ p ≤ P ∧ B ≤ g

def PickPost (w : World) (B g P : Nat) (n : Int) (e : Ending) (w' : World) : Prop :=
  ∃ m : Int, e = .returned (.int .i64 m) ∧ 0 ≤ m ∧ m < n ∧ Rd w' B g (P + 1) ∧ w.grownBy w' (some g) ∧ w'.heap.size = w.heap.size

theorem only_drewN {a w : World} {row : Option Nat} (h : a.grownBy w row) (n : Nat) : a.grownBy (w.drewN n) row := ⟨h.os, h.tape, h.output, h.size, h.block⟩
theorem only_setCell {a w : World} {g : Nat} (h : a.grownBy w (some g)) {p : Addr} (hp : p.block = g ∨ a.heap.size ≤ p.block) (u : Value) : a.grownBy (w.setCell p u) (some g) :=
  ⟨h.os, h.tape, h.output, by simpa [World.setCell] using h.size, fun i hi hne => (Below.heap_setCell w p u i (by
    rintro rfl
    rcases hp with hp | hp
    · exact hne (by rw [hp])
    · omega)).trans (h.block i hi hne)⟩
theorem size_setCell (w : World) (p : Addr) (u : Value) : (w.setCell p u).heap.size = w.heap.size := by simp [World.setCell]

/-- The end of pick: the reader behind it. -/
theorem pick_end {w : World} {B g P n c p : Nat} {A : Option Addr} {bs : List Int} {N m : Int} {e : Ending} {w' : World} {a : Nat}
    (hk : Blk w g 59 #[.slice A n c, .int .i64 (p : Nat)]) (hr : Reads w B 1 A n (bys bs)) (hb : Bytes bs) (hn : n ≤ 2000) (hp : p ≤ P) (hB : B ≤ g)
    (he : e = .returned (.int .i64 m)) (h0 : 0 ≤ m) (hm : m < N) (hw : w' = (w.setCell ⟨g, 1, none⟩ (.int .i64 ((p + 1 : Nat) : Int))).drewN a) : PickPost w B g P N e w' := by
  subst hw
  refine ⟨m, he, h0, hm, ⟨A, n, c, p + 1, bs, ?_, ?_, hb, hn, by omega, hB⟩, ?_, ?_⟩
  · have := hk.set_ 1 (.int .i64 ((p + 1 : Nat) : Int))
    exact this.drewN a
  · exact (hr.setCell hB _).drewN a
  · exact only_drewN (only_setCell (World.grownBy.refl w _) (.inl rfl) _) a
  · exact size_setCell w _ _

theorem xor_nat (x : Nat) (h : x ≤ 100000000) : bits .xor .i64 (x : Int) ((x : Int) / 64) = ((x ^^^ (x / 64) : Nat) : Int) := by
  rw [show ((x : Int) / 64) = ((x / 64 : Nat) : Int) from by omega]
  exact i64_xor_nat x (x / 64) (by omega) (by omega)
theorem xor_ge {X : Int} (h0 : 0 ≤ X) (h1 : X ≤ 100000000) : 0 ≤ bits .xor .i64 X (X / 64) := by
  obtain ⟨x, rfl⟩ := Int.eq_ofNat_of_zero_le h0
  rw [xor_nat x (by omega)]; omega
theorem xor_le {X : Int} (h0 : 0 ≤ X) (h1 : X ≤ 100000000) : bits .xor .i64 X (X / 64) ≤ 1000000000 := by
  obtain ⟨x, rfl⟩ := Int.eq_ofNat_of_zero_le h0
  rw [xor_nat x (by omega)]
  have : x ^^^ (x / 64) < 2 ^ 27 := Nat.xor_lt_two_pow (by omega) (by omega)
  omega

set_option maxRecDepth 100000 in
set_option maxHeartbeats 1000000 in
theorem pick_any (B g P : Nat) (N : Int) (w : World) (hr : Rd w B g P) (hP : P ≤ 1000000) (hN : 1 ≤ N) (hN2 : N ≤ 1000000) :
    Calls Tryd.prog 46 #[.pointer (some ⟨g, 0, none⟩), .int .i64 N] w (PickPost w B g P N) := by
  obtain ⟨A, n, c, p, bs, hk, hrd, hbs, hn, hp, hB⟩ := hr
  have k1 := hk.cell
  have f1 := hk.frozen
  have HK := Lib.hid hk
  have HB := Lib.hid hbs
  have HR := Lib.hid hrd
  clear hk hbs hrd
  have hN' : ¬ N < 1 := by omega
  by_cases hn0 : n = 0
  · subst hn0
    go_enter Tryd.func46, Tryd.ntmps46
    go_wp2
    go_ret
    exact pick_end (a := 0) HK.out HR.out HB.out hn hp hB rfl (by omega) (by omega) rfl
  · have hn1 : 0 < n := by omega
    have hr1 := HR.out.setCell (p := ⟨g, 1, none⟩) hB (.int .i64 ((p : Int) + 1))
    have hne : ((n : Int) == 0) = false := by simp; omega
    by_cases hlt : p < n
    · obtain ⟨ad, u, rfl, _, hx, hc⟩ := hr1.at_ hlt
      obtain ⟨z, z0, z1, rfl⟩ := bys_at HB.out hx
      have m0 : 0 ≤ z % N := Int.emod_nonneg _ (by omega)
      have m1 : z % N < N := Int.emod_lt_of_pos _ (by omega)
      clear hx hr1
      go_enter Tryd.func46, Tryd.ntmps46
      go_wp2
      go_ret
      exact pick_end (a := 0) HK.out HR.out HB.out hn hp hB rfl m0 m1 rfl
    · have hk1 : p % n < n := Nat.mod_lt _ hn1
      have hk2 : (p * 7 + 3) % n < n := Nat.mod_lt _ hn1
      obtain ⟨ad, u, rfl, _, hx, hc⟩ := hr1.at_ hk1
      obtain ⟨z, z0, z1, rfl⟩ := bys_at HB.out hx
      obtain ⟨ad', u', e', _, hx', hc'⟩ := hr1.at_ hk2
      obtain rfl := Option.some.inj e'
      obtain ⟨z', z0', z1', rfl⟩ := bys_at HB.out hx'
      clear hx hx' hr1 e'
      have hkk := (HK.out.set_ 1 (.int .i64 ((p : Int) + 1))).cell
      go_enter Tryd.func46, Tryd.ntmps46
      go_wp2
      have j2 : (((p : Int) * 7 + 3) % (n : Int)) = (((p * 7 + 3) % n : Nat) : Int) := by simp
      have i0 : 0 ≤ ((p : Int) * 7 + 3) % (n : Int) := by rw [j2]; omega
      have i1 : ((p : Int) * 7 + 3) % (n : Int) < (n : Int) := by rw [j2]; omega
      have i2 : (((p : Int) * 7 + 3) % (n : Int)).toNat = (p * 7 + 3) % n := by rw [j2]; rfl
      clear j2
      have q0 : 0 ≤ (p : Int) / (n : Int) := Int.ediv_nonneg (by omega) (by omega)
      have q1 : (p : Int) / (n : Int) ≤ 1000000 := Int.le_trans (Int.ediv_le_self _ (by omega)) (by omega)
      clear k1 f1
      have HW : Hid (w.setCell ⟨g, 1, none⟩ (.int .i64 (((p + 1 : Nat) : Int))) = w.setCell ⟨g, 1, none⟩ (.int .i64 ((p : Int) + 1))) := Lib.hid (by rw [Int.natCast_add]; rfl)
      generalize w.setCell ⟨g, 1, none⟩ (.int .i64 ((p : Int) + 1)) = w1 at hc hc' hkk HW ⊢
      refine wp_region_quiet_lit (by kernel_rfl) (by kernel_rfl) ?_
      repeat (first | go_big_quiet_step (fail) | quiet_step (fail))
      refine wpQuiet_nil ?_
      intro _ hw'
      obtain ⟨nq, hw''⟩ := hw'
      subst hw''
      have x0 : 0 ≤ z * 131 + z' * 1117 + (p : Int) * 29 + (p : Int) / (n : Int) * 53 := by omega
      have x1 : z * 131 + z' * 1117 + (p : Int) * 29 + (p : Int) / (n : Int) * 53 ≤ 100000000 := by omega
      clear i0 i1 i2 q0 q1 hc hc' hkk
      generalize z * 131 + z' * 1117 + (p : Int) * 29 + (p : Int) / (n : Int) * 53 = X at x0 x1 ⊢
      have b0 := xor_ge x0 x1
      have b1 := xor_le x0 x1
      have m0 : 0 ≤ bits .xor .i64 X (X / 64) % N := Int.emod_nonneg _ (by omega)
      have m1 : bits .xor .i64 X (X / 64) % N < N := Int.emod_lt_of_pos _ (by omega)
      go_wp2
      go_ret
      exact pick_end (a := nq) HK.out HR.out HB.out hn hp hB rfl m0 m1 (by rw [← HW.out])
def OpenPost (w : World) (e : Ending) (w' : World) : Prop :=
  e = .returned (.pointer (some ⟨w.heap.size, 0, none⟩)) ∧ Rd w' w.heap.size w.heap.size 0 ∧ Below w.heap.size w w' ∧ w'.heap.size = w.heap.size + 1

theorem reads_cut {w : World} {B n : Nat} {A : Option Addr} {xs : List Value} (h : Reads w B 1 A n xs) {k : Nat} (hk : k ≤ n) : Reads w B 1 A k (xs.take k) :=
  ⟨by have := h.1; rw [List.length_take]; omega, fun h0 => by
    obtain ⟨ad, e, hb, hc⟩ := h.2 (by omega)
    refine ⟨ad, e, hb, fun j u hu => hc j u ?_⟩
    rw [List.getElem?_take] at hu
    split at hu
    · exact hu
    · cases hu⟩

theorem open_end {w : World} {A : Option Addr} {n c B : Nat} {bs : List Int} (hr : Reads w B 1 A n (bys bs)) (hB : B ≤ w.heap.size) (hb : Bytes bs) (hn : n ≤ 2000) :
    OpenPost w (.returned (.pointer (some ⟨w.heap.size, 0, none⟩))) (w.alloc (.cells #[.slice A n c, .int .i64 0] 59)) :=
  ⟨rfl, ⟨A, n, c, 0, bs, Blk.new w _ _, (hr.alloc hB _).more hB, hb, hn, Nat.le_refl _, Nat.le_refl _⟩, (Below.refl _ _).alloc (Nat.le_refl _) _, by simp⟩

set_option maxRecDepth 100000 in
set_option maxHeartbeats 400000 in
theorem l6Open_any (A : Option Addr) (n c B : Nat) (bs : List Int) (w : World) (hr : Reads w B 1 A n (bys bs)) (hB : B ≤ w.heap.size) (hb : Bytes bs) (hnc : n ≤ c) (hc : c ≤ maxLen) :
    Calls Tryd.prog 31 #[.slice A n c] w (OpenPost w) := by
  unfold maxLen at hc
  have HR := Lib.hid hr
  have HB := Lib.hid hb
  clear hr hb
  by_cases h : 2000 < n
  · go_enter Tryd.func31, Tryd.ntmps31
    go_wp2
    go_ret
    have h1 := reads_cut HR.out (k := 2000) (by omega)
    refine open_end (bs := bs.take 2000) (B := B) ?_ hB (fun b hb => HB.out b (List.mem_of_mem_take hb)) (Nat.le_refl _)
    unfold bys at h1 ⊢
    rw [List.map_take]
    exact h1
  · go_enter Tryd.func31, Tryd.ntmps31
    go_wp2
    go_ret
    exact open_end HR.out hB HB.out (by omega)

theorem Rd.keep {w w' : World} {B g P : Nat} (h : Rd w B g P) (hb : Below (g + 1) w w') : Rd w' B g P := by
  obtain ⟨A, n, c, p, bs, hk, hr, hbs, hn, hp, hB⟩ := h
  exact ⟨A, n, c, p, bs, hk.below hb (by omega), hr.below (hb.mono (by omega)), hbs, hn, hp, hB⟩
theorem Rd.more {w : World} {B g P Q : Nat} (h : Rd w B g P) (hq : P ≤ Q) : Rd w B g Q := by
  obtain ⟨A, n, c, p, bs, hk, hr, hbs, hn, hp, hB⟩ := h
  exact ⟨A, n, c, p, bs, hk, hr, hbs, hn, by omega, hB⟩
theorem Rd.lt {w : World} {B g P : Nat} (h : Rd w B g P) : g < w.heap.size := by
  obtain ⟨A, n, c, p, bs, hk, _⟩ := h
  exact hk.lt
theorem Rd.drew {w : World} {B g P : Nat} (h : Rd w B g P) : Rd w.drew B g P := h
theorem Rd.alloc {w : World} {B g P : Nat} (h : Rd w B g P) (o : Obj) : Rd (w.alloc o) B g P := h.keep ((Below.refl _ _).alloc (by have := h.lt; omega) _)
theorem Rd.setCell {w : World} {B g P : Nat} (h : Rd w B g P) {a : Addr} (ha : g < a.block) (u : Value) : Rd (w.setCell a u) B g P := h.keep ((Below.refl _ _).setCell (by omega) _)
theorem Rd.grown {w w' : World} {B g P : Nat} {row : Option Nat} (h : Rd w B g P) (hg : w.grownBy w' row) (hr : ∀ k, row = some k → g < k) : Rd w' B g P :=
  h.keep ((Below.refl _ _).grown hg (by have := h.lt; omega) (fun k hk => by have := hr k hk; omega))

end Go.Proofs.YtohbmkppfbbngaaDoor
