/-
  What is proved: impl.LockAsk, impl.LockFree and their references give one lock: the contracts that the laws use. Conditions: those of the contracts.
-/
import Derived.Test.YtohbmkppfbbngaaDoorImpl
import Derived.Test.YtohbmkppfbbngaaDoorSame
import Derived.Test.YtohbmkppfbbngaaDoorDrawn
namespace Go.Proofs.YtohbmkppfbbngaaDoor
open Go.RowKit

/-- An append in a region that draws, its guard being true. -/
theorem step_append_want {P : Program} (w : World) {ops : Array Oper} {o : Oper} {a : Act} {K : Act → World → Prop} {Q : Exit → Act → World → Prop} {E : Prop} (hw : Region.wanted o (yielded ops a.tmps) = true) (s x : Operand) (t : TypeId)
    (ho : o.op = .call { callee := .builtin .append, args := #[s, x], argTypes := #[t, t] })
    (base : Nat) (e : TypeId) (i : TypeInfo) (z : Value) (size bytes : Nat) (ht : P.underlying t = some (.slice e)) (hi : P.info? e = some i) (hz : i.zero = some z)
    (hsize : i.size = size) (hby : i.bytes = bytes) (hzs : z.cells.size = size) (hsz : 0 < size)
    (v : Value) (n : Nat) (xs : List Value) (hs : a.eval s = v) (hown : w.ownsRow base e size v n xs)
    (B : Nat) (A : Option Addr) (m c : Nat) (news : List Value) (hx : a.eval x = .slice A m c) (hr : Reads w B size A m news) (h1 : ∀ u ∈ news, u.oneCell' = true)
    (h63 : n + m ≤ maxLen) (hbytes : (n + m) * bytes ≤ 140737488355328) (hbase : base ≤ w.heap.size)
    (h : ∀ v' w', w'.ownsRow base e size v' (n + m) (xs ++ news) → w.grownBy w' v.ownBlock → (v'.ownBlock = v.ownBlock ∨ v'.ownBlock = some w.heap.size) → K (a.put o.dst v') w') :
    if Region.wanted o (yielded ops a.tmps) = true then Oper.wp P o a w K Q else E := by
  rw [if_pos hw]
  exact wp_append_any w s x t ho base e i z size bytes ht hi hz hsize hby hzs hsz v n xs hs hown B A m c news hx hr h1 h63 hbytes hbase h

/-- A result that is this lock, its line of the call's own, and this Bool. -/
def IsLock (w : World) (rh rf : Int) (rz : List Int) (ro : Bool) (e : Ending) (w' : World) : Prop :=
  ∃ A c, e = .returned (.tuple #[.agg #[.int .i64 rh, .int .i64 rf, .slice A rz.length c], .bool ro]) ∧ w'.ownsRow w.heap.size 3 1 (.slice A rz.length c) rz.length (ints rz) ∧ Below w.heap.size w w'
theorem isLock_of {w w' : World} {rh rf : Int} {rz : List Int} {ro : Bool} {e : Ending} (h : RetLockOk w.heap.size ((rh, rf, rz), ro) e w' ∧ Below w.heap.size w w') : IsLock w rh rf rz ro e w' := by
  obtain ⟨⟨A, n, c, he, hown⟩, hb⟩ := h
  have hn : n = rz.length := by
    have := hown.1
    rw [ints_len] at this
    dsimp only at this
    omega
  subst hn
  exact ⟨A, c, he, hown, hb⟩
theorem implAsk_r {h f who rh rf : Int} {zs rz : List Int} {ro : Bool} (hres : askP h f zs who = ((rh, rf, rz), ro)) (A : Option Addr) (n c B : Nat) (w : World) (hr : Reads w B 1 A n (ints zs)) (hB : B ≤ w.heap.size) (hn : n ≤ c) (hc : c ≤ maxLen) (hn2 : n ≤ 1048576) (hg : Held w) :
    Calls Tryd.prog 20 #[.agg #[.int .i64 h, .int .i64 f, .slice A n c], .int .i64 who] w (IsLock w rh rf rz ro) :=
  (implAsk_any h f who A n c B zs w hr hB hn hc hn2 hg).mono fun _ _ hh => isLock_of (by rw [hres] at hh; exact hh)
theorem specAsk_r {h f who rh rf : Int} {zs rz : List Int} {ro : Bool} (hres : askP h f zs who = ((rh, rf, rz), ro)) (A : Option Addr) (n c B : Nat) (w : World) (hr : Reads w B 1 A n (ints zs)) (hB : B ≤ w.heap.size) (hn : n ≤ c) (hc : c ≤ maxLen) :
    Calls Tryd.prog 18 #[.agg #[.int .i64 h, .int .i64 f, .slice A n c], .int .i64 who] w (IsLock w rh rf rz ro) :=
  (specAsk_any h f who A n c B zs w hr hB hn hc).mono fun _ _ hh => isLock_of (by rw [hres] at hh; exact hh)
theorem implFree_r {h f who rh rf : Int} {zs rz : List Int} {ro : Bool} (hres : freeP h f zs who = ((rh, rf, rz), ro)) (A : Option Addr) (n c B : Nat) (w : World) (hr : Reads w B 1 A n (ints zs)) (hB : B ≤ w.heap.size) (hn : n ≤ c) (hc : c ≤ maxLen) (hn2 : n ≤ 1048576) (hg : Held w) :
    Calls Tryd.prog 16 #[.agg #[.int .i64 h, .int .i64 f, .slice A n c], .int .i64 who] w (IsLock w rh rf rz ro) :=
  (implFree_any h f who A n c B zs w hr hB hn hc hn2 hg).mono fun _ _ hh => isLock_of (by rw [hres] at hh; exact hh)
theorem specFree_r {h f who rh rf : Int} {zs rz : List Int} {ro : Bool} (hres : freeP h f zs who = ((rh, rf, rz), ro)) (A : Option Addr) (n c B : Nat) (w : World) (hr : Reads w B 1 A n (ints zs)) (hB : B ≤ w.heap.size) (hn : n ≤ c) (hc : c ≤ maxLen) :
    Calls Tryd.prog 27 #[.agg #[.int .i64 h, .int .i64 f, .slice A n c], .int .i64 who] w (IsLock w rh rf rz ro) :=
  (specFree_any h f who A n c B zs w hr hB hn hc).mono fun _ _ hh => isLock_of (by rw [hres] at hh; exact hh)
theorem ask_true {h f who rh rf : Int} {zs rz : List Int} (hres : askP h f zs who = ((rh, rf, rz), true)) :
    lvB h f zs = true ∧ (0 ≤ who ∧ who ≤ 3) ∧ ((0 ≤ h ∧ rh = h ∧ rf = f ∧ rz = zs ++ [who]) ∨ (h < 0 ∧ rh = who ∧ rf = f + 1 ∧ rz = zs ∧ zs = [])) := by
  unfold askP at hres
  split at hres
  · rename_i hv
    split at hres
    · simp at hres
    · split at hres
      · rename_i h0
        simp only [Prod.mk.injEq, and_true] at hres
        obtain ⟨rfl, rfl, rfl⟩ := hres
        exact ⟨hv.1, hv.2, .inl ⟨h0, rfl, rfl, rfl⟩⟩
      · rename_i h0
        simp only [Prod.mk.injEq, and_true] at hres
        obtain ⟨rfl, rfl, rfl⟩ := hres
        have hl := lvB_LV hv.1
        exact ⟨hv.1, hv.2, .inr ⟨by omega, rfl, rfl, rfl, hl.2.2.2.2.1 (by have := hl.1; omega)⟩⟩
  · simp at hres
theorem own_of_blk {w : World} {base g n : Nat} {e : TypeId} {xs : List Value} (h : Blk w g e xs.toArray) (hb : base ≤ g) (hn : xs.length = n) (hm : n ≤ maxLen) : w.ownsRow base e 1 (.slice (some ⟨g, 0, none⟩) n n) n xs :=
  ⟨by omega, .inr ⟨g, n, xs.toArray, rfl, hb, h, Nat.le_refl _, hm, by simp [hn], by rw [List.take_of_length_le (by simp [hn])]⟩⟩
theorem reads_of_blk {w : World} {g n : Nat} {e : TypeId} {xs : List Value} (h : Blk w g e xs.toArray) (hn : xs.length = n) : Reads w (g + 1) 1 (some ⟨g, 0, none⟩) n xs :=
  ⟨by omega, fun _ => ⟨_, rfl, by simp, fun j u hu => by rw [Addr.add_lit, Nat.zero_add, h.cell j]; simpa using hu⟩⟩
theorem by_way {P Q : Prop} (h : P) (k : P → Q) : Q := k h
theorem own_lo {w : World} {base n : Nat} {e : TypeId} {size : Nat} {v : Value} {xs : List Value} (h : w.ownsRow base e size v n xs) : ∀ k, v.ownBlock = some k → base ≤ k := by
  intro k hk
  rcases h.2 with ⟨rfl, _⟩ | ⟨g, cap, cur, rfl, hge, _⟩
  · simp [Value.ownBlock] at hk
  · simp [Value.ownBlock] at hk; omega
theorem eqB_self (xs : List Int) : eqB xs xs = true := by simp [eqB]
theorem own_snoc {w : World} {base : Nat} {v : Value} {zs : List Int} {who : Int} (h : w.ownsRow base 3 1 v (zs.length + 1) (ints zs ++ [.int .i64 who])) : w.ownsRow base 3 1 v (zs.length + 1) (ints (zs ++ [who])) := by
  rw [show ints (zs ++ [who]) = ints zs ++ [.int .i64 who] from by simp [ints]]
  exact h
end Go.Proofs.YtohbmkppfbbngaaDoor
