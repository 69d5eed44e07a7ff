/-
  What is proved: the state of memory in the exact laws of LockAsk and LockFree, and that it is kept by what leaves old memory alone and by marking a line. No program's text is walked.
-/
import Derived.Test.YtohbmkppfbbngaaDoorMark
import Derived.Test.YtohbmkppfbbngaaDoorGives
namespace Go.Proofs.YtohbmkppfbbngaaDoor
open Go.RowKit

/-- The state: the argument's line, the reference's result, the argument handed to the program, the program's result. -/
structure ESt (w : World) (h f : Int) (A : Option Addr) (n c B : Nat) (zs : List Int) (rh rf : Int) (rz : List Int) (A3 : Option Addr) (c3 : Nat) (A4 : Option Addr) (n4 c4 : Nat) (xs4 : List Int) (A5 : Option Addr) (c5 : Nat) (xs5 : List Int) (b3 b4 b5 : Nat) (wr : World) : Prop where
  ra : Reads wr B 1 A n (ints zs)
  r3 : Reads wr b3 1 A3 rz.length (ints rz)
  o4 : wr.ownsRow (b3 + 1) 3 1 (.slice A4 n4 c4) n4 (ints xs4)
  o5 : wr.ownsRow (b4 + 1) 3 1 (.slice A5 rz.length c5) rz.length (ints xs5)
  kl : Blk wr w.heap.size 31 #[.int .i64 h, .int .i64 f, .slice A n c]
  k3 : Blk wr b3 25 #[.int .i64 rh, .int .i64 rf, .slice A3 rz.length c3]
  k4 : Blk wr b4 25 #[.int .i64 h, .int .i64 f, .slice A4 n4 c4]
  k5 : Blk wr b5 25 #[.int .i64 rh, .int .i64 rf, .slice A5 rz.length c5]
  bel : Below w.heap.size w wr
  l4 : ∀ k, (Value.slice A4 n4 c4).ownBlock = some k → k < b4
  l5 : ∀ k, (Value.slice A5 rz.length c5).ownBlock = some k → k < b5
  hB : B ≤ w.heap.size
  h3 : w.heap.size < b3
  h4 : b3 < b4
  h5 : b4 < b5
  hg : Held wr

section
variable {w : World} {h f : Int} {A : Option Addr} {n c B : Nat} {zs : List Int} {rh rf : Int} {rz : List Int} {A3 : Option Addr} {c3 : Nat} {A4 : Option Addr} {n4 c4 : Nat} {xs4 xs4' : List Int} {A5 : Option Addr} {c5 : Nat} {xs5 xs5' : List Int} {b3 b4 b5 : Nat} {wr wr' : World}
theorem ESt.lt (s : ESt w h f A n c B zs rh rf rz A3 c3 A4 n4 c4 xs4 A5 c5 xs5 b3 b4 b5 wr) : b5 < wr.heap.size := s.k5.lt
theorem below_own' {v : Value} {e : TypeId} {base n size : Nat} {xs : List Value} (ho : wr.ownsRow base e size v n xs) (hb : Below wr.heap.size wr wr') : wr'.ownsRow base e size v n xs := by
  refine ⟨ho.1, ?_⟩
  rcases ho.2 with hn | ⟨g, cap, cur, rfl, hb', hgg, rest⟩
  · exact .inl hn
  · exact .inr ⟨g, cap, cur, rfl, hb', (hb.block g (Array.getElem?_eq_some_iff.1 hgg).1).trans hgg, rest⟩
theorem ESt.below (s : ESt w h f A n c B zs rh rf rz A3 c3 A4 n4 c4 xs4 A5 c5 xs5 b3 b4 b5 wr) (hb : Below wr.heap.size wr wr') : ESt w h f A n c B zs rh rf rz A3 c3 A4 n4 c4 xs4 A5 c5 xs5 b3 b4 b5 wr' := by
  have hl := s.lt
  have h3 := s.h3
  have h4 := s.h4
  have h5 := s.h5
  have hB := s.hB
  exact ⟨s.ra.below (hb.mono (by omega)), s.r3.below (hb.mono (by omega)), below_own' s.o4 hb, below_own' s.o5 hb, s.kl.below hb (by omega), s.k3.below hb (by omega), s.k4.below hb (by omega), s.k5.below hb hl,
    s.bel.trans (hb.mono (by omega)), s.l4, s.l5, hB, h3, h4, h5, s.hg.below hb⟩
theorem ESt.alloc (s : ESt w h f A n c B zs rh rf rz A3 c3 A4 n4 c4 xs4 A5 c5 xs5 b3 b4 b5 wr) (o : Obj) : ESt w h f A n c B zs rh rf rz A3 c3 A4 n4 c4 xs4 A5 c5 xs5 b3 b4 b5 (wr.alloc o) := s.below ((Below.refl _ _).alloc (Nat.le_refl _) _)
theorem ESt.drew (s : ESt w h f A n c B zs rh rf rz A3 c3 A4 n4 c4 xs4 A5 c5 xs5 b3 b4 b5 wr) : ESt w h f A n c B zs rh rf rz A3 c3 A4 n4 c4 xs4 A5 c5 xs5 b3 b4 b5 wr.drew := s.below (Below.refl _ _).drew
theorem held_grown {row : Option Nat} (hh : Held wr) (hg : wr.grownBy wr' row) (hr : row ≠ some 0) : Held wr' :=
  (World.cell?_of_block (a := ⟨0, 0, none⟩) (hg.block 0 hh.lt (fun e => hr e.symm))).trans hh
/-- Marking the argument that was handed to the program. -/
theorem ESt.mark4 (s : ESt w h f A n c B zs rh rf rz A3 c3 A4 n4 c4 xs4 A5 c5 xs5 b3 b4 b5 wr) (ho : wr'.ownsRow (b3 + 1) 3 1 (.slice A4 n4 c4) n4 (ints xs4')) (hg : wr.grownBy wr' (Value.slice A4 n4 c4).ownBlock) :
    ESt w h f A n c B zs rh rf rz A3 c3 A4 n4 c4 xs4' A5 c5 xs5 b3 b4 b5 wr' := by
  have hl := s.lt
  have h3 := s.h3
  have h4 := s.h4
  have h5 := s.h5
  have hB := s.hB
  have hlo := own_lo s.o4
  have hhi := s.l4
  have hne : ∀ b, b ≤ b3 ∨ b4 ≤ b → some b ≠ (Value.slice A4 n4 c4).ownBlock := fun b hb e => by
    have h1 := hlo b e.symm
    have h2 := hhi b e.symm
    omega
  have hk : (Value.slice A5 rz.length c5).ownBlock = none ∨ (Value.slice A5 rz.length c5).ownBlock ≠ (Value.slice A4 n4 c4).ownBlock := by
    cases h5b : (Value.slice A5 rz.length c5).ownBlock with
    | none => exact .inl rfl
    | some g => exact .inr (fun e => by have h1 := own_lo s.o5 g h5b; have h2 := hhi g e.symm; omega)
  exact ⟨s.ra.grown hg (by omega) (fun g e => by have := hlo g e; omega), s.r3.grown hg (by omega) (fun g e => by have := hlo g e; omega), ho, s.o5.kept hg hk, s.kl.grown hg (hne _ (by omega)), s.k3.grown hg (hne _ (by omega)), s.k4.grown hg (hne _ (by omega)), s.k5.grown hg (hne _ (by omega)),
    s.bel.grown hg s.bel.size (fun g e => by have := hlo g e; omega), s.l4, s.l5, hB, h3, h4, h5, held_grown s.hg hg (fun e => by have := hlo 0 e; omega)⟩
/-- Marking the program's result. -/
theorem ESt.mark5 (s : ESt w h f A n c B zs rh rf rz A3 c3 A4 n4 c4 xs4 A5 c5 xs5 b3 b4 b5 wr) (ho : wr'.ownsRow (b4 + 1) 3 1 (.slice A5 rz.length c5) rz.length (ints xs5')) (hg : wr.grownBy wr' (Value.slice A5 rz.length c5).ownBlock) :
    ESt w h f A n c B zs rh rf rz A3 c3 A4 n4 c4 xs4 A5 c5 xs5' b3 b4 b5 wr' := by
  have hl := s.lt
  have h3 := s.h3
  have h4 := s.h4
  have h5 := s.h5
  have hB := s.hB
  have hlo := own_lo s.o5
  have hhi := s.l5
  have hne : ∀ b, b ≤ b4 ∨ b5 ≤ b → some b ≠ (Value.slice A5 rz.length c5).ownBlock := fun b hb e => by
    have h1 := hlo b e.symm
    have h2 := hhi b e.symm
    omega
  have hk : (Value.slice A4 n4 c4).ownBlock = none ∨ (Value.slice A4 n4 c4).ownBlock ≠ (Value.slice A5 rz.length c5).ownBlock := by
    cases h4b : (Value.slice A4 n4 c4).ownBlock with
    | none => exact .inl rfl
    | some g => exact .inr (fun e => by have h1 := s.l4 g h4b; have h2 := hlo g e.symm; omega)
  exact ⟨s.ra.grown hg (by omega) (fun g e => by have := hlo g e; omega), s.r3.grown hg (by omega) (fun g e => by have := hlo g e; omega), s.o4.kept hg hk, ho, s.kl.grown hg (hne _ (by omega)), s.k3.grown hg (hne _ (by omega)), s.k4.grown hg (hne _ (by omega)), s.k5.grown hg (hne _ (by omega)),
    s.bel.grown hg s.bel.size (fun g e => by have := hlo g e; omega), s.l4, s.l5, hB, h3, h4, h5, held_grown s.hg hg (fun e => by have := hlo 0 e; omega)⟩
theorem freeP_len {h f who rh rf : Int} {zs rz : List Int} {ro : Bool} (hres : freeP h f zs who = ((rh, rf, rz), ro)) : rz.length ≤ zs.length := by
  have : rz = (freeP h f zs who).1.2.2 := by rw [hres]
  rw [this]
  unfold freeP
  split
  · split
    · split
      · simp
      · exact Nat.le_refl _
    · exact List.length_filter_le _ _
  · simp
theorem askP_len {h f who rh rf : Int} {zs rz : List Int} {ro : Bool} (hres : askP h f zs who = ((rh, rf, rz), ro)) : rz.length ≤ zs.length + 1 := by
  have : rz = (askP h f zs who).1.2.2 := by rw [hres]
  rw [this]
  unfold askP
  split
  · split
    · simp
    · split
      · simp
      · simp
  · simp
end
end Go.Proofs.YtohbmkppfbbngaaDoor
