/-
  What is proved: the contracts of the functions of exact.go that count, copy and compare lists and locks: szIntS, szLock, toIntS, toLock, eqIntS, eqLock. Condition: the lists that they take read as lists.
-/
import Derived.Test.YtohbmkppfbbngaaDoorScan
import Derived.Test.YtohbmkppfbbngaaDoorPlain
import Derived.WalkSmall
namespace Go.Proofs.YtohbmkppfbbngaaDoor
open Go.RowKit

theorem int_info : (Tryd.prog.info? 3).map (fun i => (i.zero, i.size, i.bytes)) = some (some (.int .i64 0), 1, 8) := by kernel_rfl

/-- A result that is a slice of the call's own, which reads as the list. -/
def RetRow (base : Nat) (zs : List Int) (ev : Ending) (w' : World) : Prop := ∃ A n c, ev = .returned (.slice A n c) ∧ w'.ownsRow base 3 1 (.slice A n c) n (ints zs)
theorem own_caps {w : World} {base e : Nat} {A : Option Addr} {n c : Nat} {xs : List Value} (h : w.ownsRow base e 1 (.slice A n c) n xs) : n ≤ c ∧ c ≤ maxLen := by
  rcases h.2 with ⟨h1, h2⟩ | ⟨g, cap, cur, h1, _, _, h2, h3, _⟩
  · injection h1 with _ _ hc
    subst hc; subst h2
    exact ⟨Nat.le_refl _, Nat.zero_le _⟩
  · injection h1 with _ _ hc
    subst hc
    exact ⟨h2, h3⟩

def szB (n left : Int) : Int := if left - n < 0 then -1 else left - n
theorem szIntS_any (A : Option Addr) (n c : Nat) (left : Int) (w : World) (hn : n ≤ maxLen) (hl : 0 ≤ left) (hL : left ≤ 1048576) :
    Calls Tryd.prog 39 #[.slice A n c, .int .i64 left] w fun e w' => e = .returned (.int .i64 (szB n left)) ∧ w = w' := by
  unfold maxLen at hn
  by_cases h : left - n < 0
  · go_enter Tryd.func39, Tryd.ntmps39
    go_wp2
    go_ret
    exact ⟨ret_int (by unfold szB; rw [if_pos (by omega)]), rfl⟩
  · go_enter Tryd.func39, Tryd.ntmps39
    go_wp2
    go_ret
    exact ⟨ret_int (by unfold szB; rw [if_neg (by omega)]), rfl⟩
theorem szLock_any (h f : Int) (A : Option Addr) (n c : Nat) (left : Int) (w : World) (hn : n ≤ maxLen) (hl : 0 ≤ left) (hL : left ≤ 1048576) :
    Calls Tryd.prog 17 #[.agg #[.int .i64 h, .int .i64 f, .slice A n c], .int .i64 left] w fun e w' => e = .returned (.int .i64 (szB n left)) ∧ Below w.heap.size w w' := by
  by_cases hs : szB n left < 0
  · have hs1 : szB n left = -1 := by unfold szB at hs ⊢; split <;> simp_all
    have HS := Lib.hid hs1
    clear hs1
    go_enter Tryd.func17, Tryd.ntmps17
    go_wp2_with (go_at_call 39; refine (szIntS_any _ _ _ _ _ hn hl hL).mono ?_; rintro e w' ⟨rfl, rfl⟩)
    go_ret
    exact ⟨ret_int HS.out.symm, (Below.refl _ _).alloc (Nat.le_refl _) _⟩
  · go_enter Tryd.func17, Tryd.ntmps17
    go_wp2_with (go_at_call 39; refine (szIntS_any _ _ _ _ _ hn hl hL).mono ?_; rintro e w' ⟨rfl, rfl⟩)
    go_ret
    exact ⟨rfl, (Below.refl _ _).alloc (Nat.le_refl _) _⟩

theorem ints_set {zs : List Int} {k m : Nat} {z : Int} (hz : zs[k]? = some z) :
    (ints (zs.take k ++ List.replicate (m + 1) 0)).set k (.int .i64 z) = ints (zs.take (k + 1) ++ List.replicate m 0) := by
  have hk : k < zs.length := (List.getElem?_eq_some_iff.1 hz).1
  have hl : (zs.take k).length = k := by rw [List.length_take]; omega
  unfold ints
  rw [← List.map_set]
  congr 1
  rw [List.set_append_right k z (by omega), hl, Nat.sub_self, List.replicate_succ, List.set_cons_zero, List.take_add_one, hz]
  simp

set_option maxRecDepth 100000 in
set_option maxHeartbeats 1000000 in
theorem toIntS_any (A : Option Addr) (n c B : Nat) (zs : List Int) (w : World) (hr : Reads w B 1 A n (ints zs)) (hB : B ≤ w.heap.size) (hn : n ≤ 1048576) :
    Calls Tryd.prog 41 #[.slice A n c] w fun e w' => RetRow w.heap.size zs e w' ∧ Below w.heap.size w w' := by
  obtain ⟨i0, hi0, hz0, hz1, hz2⟩ := info_parts int_info
  have hl := hr.len_ints
  have HL := Lib.hid hl
  have HR := Lib.hid hr
  clear hl hr
  go_enter Tryd.func41, Tryd.ntmps41
  go_wp2_with (at_make; refine wpList_make_full _ rfl (.tmp 6) (.tmp 6) _ rfl w.heap.size 3 i0 (.int .i64 0) 1 Tryd.underlying23 hi0 hz0 hz1 .i64 .i64 n n n rfl rfl rfl rfl (by rw [hz2]; omega) (by unfold maxLen; omega) (Nat.le_refl _) ?_; intro w1 hown1 hg1)
  have hb1 : Below w.heap.size w w1 := (Below.refl _ _).grown hg1 (Nat.le_refl _) (by simp)
  have hstart : w1.ownsRow w.heap.size 3 1 (.slice (some ⟨w.heap.size, 0, none⟩) n n) n (ints (zs.take 0 ++ List.replicate (n - 0) 0)) := by
    have e : (madeCells (Value.int .i64 0).cells (n * 1)).toList = ints (zs.take 0 ++ List.replicate (n - 0) 0) := by
      rw [show (Value.int .i64 0).cells = #[.int .i64 0] from rfl, Nat.mul_one, toList_madeCells_one]
      simp [ints]
    rw [← e]; exact hown1
  have HS := Lib.hid hstart
  clear hstart hown1 hg1
  go_loopw [4] (fun i wr => ∃ k : Nat, k ≤ n ∧ i = .int .i64 k ∧ Hid (wr.ownsRow w.heap.size 3 1 (.slice (some ⟨w.heap.size, 0, none⟩) n n) n (ints (zs.take k ++ List.replicate (n - k) 0))) ∧ Below w.heap.size w wr) (fun i _ => n - (intOf i).toNat)
  case atStart => exact ⟨0, Nat.zero_le _, rfl, HS, hb1⟩
  case round =>
    clear hb1 HS
    obtain ⟨k, hk, rfl, HO, hb⟩ := hrel
    by_cases hlt : k < n
    · obtain ⟨ad, u, rfl, _, hx, hcell⟩ := ((HR.out).below (hb.mono hB)).at_ hlt
      obtain ⟨z, hz, rfl⟩ := ints_at hx
      have HZ := Lib.hid hz
      obtain ⟨m, hm⟩ : ∃ m, n - k = m + 1 := ⟨n - k - 1, by omega⟩
      have hzz : (zs.take k ++ List.replicate (n - k) 0)[k]? = some 0 := by
        rw [List.getElem?_append_right (by rw [List.length_take]; omega), List.length_take, hm]
        have := HL.out
        rw [Nat.min_eq_left (by omega), Nat.sub_self]
        rfl
      have hc0 : wr.cell? ⟨w.heap.size, k, none⟩ = some (.int .i64 0) := by
        rw [HO.out.cellAt k (by omega)]
        unfold ints
        rw [List.getElem?_map, hzz]
        rfl
      have hf0 : wr.frozen? ⟨w.heap.size, k, none⟩ = false := HO.out.frozenAt k
      have hst := (HO.out.stored k (.int .i64 z)).1
      rw [hm, ints_set hz] at hst
      have HST := Lib.hid hst
      have HM := Lib.hid hm
      clear hst hz hx hzz hm
      go_wp2
      go_roundw
      case rel => exact ⟨k + 1, by omega, by go_num, by rw [show n - (k + 1) = m from by have := HM.out; omega]; exact HST, hb.setCell (Nat.le_refl _) _⟩
      case measure => simp [intOf]; omega
    · go_wp2
      go_ret
      have h1 := HO.out
      rw [List.take_of_length_le (by have := HL.out; omega), show n - k = 0 from by omega] at h1
      exact ⟨⟨_, _, _, rfl, by simpa using h1⟩, hb⟩

/-- A result that is a lock, its line of the call's own. -/
def RetLock (base : Nat) (h f : Int) (zs : List Int) (ev : Ending) (w' : World) : Prop :=
  ∃ A n c, ev = .returned (.agg #[.int .i64 h, .int .i64 f, .slice A n c]) ∧ w'.ownsRow base 3 1 (.slice A n c) n (ints zs)

theorem bcell {W w1 : World} (hb : Below W.heap.size W w1) : (∀ b o, b < W.heap.size → w1.cell? ⟨b, o, none⟩ = W.cell? ⟨b, o, none⟩) ∧ (∀ b o, b < W.heap.size → w1.frozen? ⟨b, o, none⟩ = W.frozen? ⟨b, o, none⟩) :=
  ⟨fun b o h => hb.cell (p := ⟨b, o, none⟩) h, fun b o h => hb.frozen (p := ⟨b, o, none⟩) h⟩

set_option maxRecDepth 100000 in
set_option maxHeartbeats 1000000 in
theorem toLock_any (h f : Int) (A : Option Addr) (n c B : Nat) (zs : List Int) (w : World) (hr : Reads w B 1 A n (ints zs)) (hB : B ≤ w.heap.size) (hn : n ≤ 1048576) :
    Calls Tryd.prog 19 #[.agg #[.int .i64 h, .int .i64 f, .slice A n c]] w fun e w' => RetLock w.heap.size h f zs e w' ∧ Below w.heap.size w w' := by
  have HR := Lib.hid hr
  clear hr
  go_enter Tryd.func19, Tryd.ntmps19
  go_wp2_with (fail)
  refine (toIntS_any A n c B zs _ (((HR.out.alloc hB _).alloc (by simp; omega) _).alloc (by simp; omega) _) (by simp; omega) hn).mono ?_
  rintro e w1 ⟨⟨A1, n1, c1, rfl, hown⟩, hb⟩
  obtain ⟨hc, hf⟩ := bcell hb
  have hz : w.heap.size + 1 + 1 < w1.heap.size := by have := hb.size; simp at this; omega
  have HO := Lib.hid hown
  have HB := Lib.hid hb
  clear hown hb
  go_wp2_with (fail)
  refine bodyPost_ret (v := .agg #[.int .i64 h, .int .i64 f, .slice A1 n1 c1]) (by simp [results, Tryd.results19, go_sem, hc]) rfl ⟨⟨A1, n1, c1, rfl, ?_⟩, ?_⟩
  · refine own_mono (b := w.heap.size + 1 + 1 + 1) ?_ (by omega)
    refine ownsRow_setCell_below (ownsRow_setCell_below (ownsRow_setCell_below (ownsRow_setCell_below ?_ ?_ _) ?_ _) ?_ _) ?_ _
    · simpa using HO.out
    all_goals (simp; try omega)
  · exact ((((((((Below.refl _ _).alloc (Nat.le_refl _) _).alloc (by simp) _).alloc (by simp; omega) _).trans (HB.out.mono (by simp; omega))).setCell (by simp only []; omega) _).setCell (by simp only []; omega) _).setCell (by simp only []; omega) _).setCell (by simp only []; omega) _

def eqB (xs ys : List Int) : Bool := decide (xs = ys)
theorem eqB_len {xs ys : List Int} (h : xs.length ≠ ys.length) : eqB xs ys = false := by
  simp only [eqB, decide_eq_false_iff_not]; rintro rfl; exact h rfl
theorem eqB_at {xs ys : List Int} {k : Nat} {x y : Int} (hx : xs[k]? = some x) (hy : ys[k]? = some y) (h : x ≠ y) : eqB xs ys = false := by
  simp only [eqB, decide_eq_false_iff_not]; rintro rfl; rw [hx] at hy; exact h (Option.some.inj hy)
theorem eqB_all {xs ys : List Int} (h : xs.take xs.length = ys.take xs.length) (hl : xs.length = ys.length) : eqB xs ys = true := by
  rw [List.take_length, hl, List.take_length] at h
  simp [eqB, h]
theorem take_eq_step {xs ys : List Int} {k : Nat} {x : Int} (hx : xs[k]? = some x) (hy : ys[k]? = some x) (h : xs.take k = ys.take k) : xs.take (k + 1) = ys.take (k + 1) := by
  rw [List.take_add_one, List.take_add_one, hx, hy, h]

set_option maxRecDepth 100000 in
set_option maxHeartbeats 1000000 in
theorem eqIntS_any (A A' : Option Addr) (n n' c c' B B' : Nat) (xs ys : List Int) (w : World) (hr : Reads w B 1 A n (ints xs)) (hr' : Reads w B' 1 A' n' (ints ys)) (hn : n ≤ maxLen) (hn' : n' ≤ maxLen) :
    Calls Tryd.prog 43 #[.slice A n c, .slice A' n' c'] w fun e w' => e = .returned (.bool (eqB xs ys)) ∧ Below w.heap.size w w' := by
  have hl := hr.len_ints
  have hl' := hr'.len_ints
  have HL := Lib.hid hl
  have HL' := Lib.hid hl'
  unfold maxLen at hn hn'
  by_cases hne : n = n'
  · subst hne
    have hb : ((n : Int) != n) = false := by simp
    clear hl hl'
    go_enter Tryd.func43, Tryd.ntmps43
    go_wp2
    go_loopw [5] (fun i wr => ∃ k a : Nat, k ≤ n ∧ i = .int .i64 k ∧ Hid (xs.take k = ys.take k) ∧ wr = w.drewN a) (fun i _ => n - (intOf i).toNat)
    case atStart => exact ⟨0, 0, Nat.zero_le _, rfl, rfl, rfl⟩
    case round =>
      obtain ⟨k, a, hk, rfl, hok, rfl⟩ := hrel
      by_cases hlt : k < n
      · obtain ⟨ad, u, rfl, _, hx, hcell⟩ := hr.at_ hlt
        obtain ⟨z, hz, rfl⟩ := ints_at hx
        obtain ⟨ad', u', rfl, _, hx', hcell'⟩ := hr'.at_ hlt
        obtain ⟨z', hz', rfl⟩ := ints_at hx'
        have HZ := Lib.hid hz
        have HZ' := Lib.hid hz'
        have HR := Lib.hid hr
        have HR' := Lib.hid hr'
        clear hz hz' hr hr' hx hx'
        by_cases hh : z = z'
        · subst hh
          have hb : (z != z) = false := by simp
          go_wp2_with (fail)
          go_quiet (fail)
          go_wp2
          go_roundw
          case rel => exact ⟨k + 1, _, by omega, by go_num, take_eq_step HZ.out HZ'.out hok.out, rfl⟩
          case measure => simp [intOf]; omega
        · have hb : (z != z') = true := by simp [hh]
          go_wp2_with (fail)
          go_quiet (fail)
          go_wp2
          go_ret
          exact ⟨ret_bool (eqB_at HZ.out HZ'.out hh).symm, below_drewN (below_drewN (Below.refl _ _) _) _⟩
      · have HR := Lib.hid hr
        have HR' := Lib.hid hr'
        clear hr hr'
        go_wp2
        go_ret
        refine ⟨ret_bool (eqB_all ?_ ?_).symm, below_drewN (Below.refl _ _) _⟩
        · have h1 := hok.out
          have : n = k := by omega
          rw [HL.out, this]; exact h1
        · rw [HL.out, HL'.out]
  · have hb : ((n : Int) != n') = true := by simp; omega
    clear hl hl' hr hr'
    go_enter Tryd.func43, Tryd.ntmps43
    go_wp2
    go_ret
    exact ⟨ret_bool (eqB_len (by rw [HL.out, HL'.out]; exact hne)).symm, Below.refl _ _⟩

def eqLB (h f : Int) (xs : List Int) (h' f' : Int) (ys : List Int) : Bool := decide (h = h' ∧ f = f' ∧ xs = ys)
theorem eqLB_h {h f : Int} {xs : List Int} {h' f' : Int} {ys : List Int} (e : h ≠ h') : eqLB h f xs h' f' ys = false := by simp [eqLB, e]
theorem eqLB_f {h f : Int} {xs : List Int} {h' f' : Int} {ys : List Int} (e : f ≠ f') : eqLB h f xs h' f' ys = false := by simp [eqLB, e]
theorem eqLB_l {h f : Int} {xs ys : List Int} : eqLB h f xs h f ys = eqB xs ys := by simp [eqLB, eqB]

set_option maxRecDepth 100000 in
set_option maxHeartbeats 1000000 in
theorem eqLock_any (h f h' f' : Int) (A A' : Option Addr) (n n' c c' B B' : Nat) (xs ys : List Int) (w : World) (hr : Reads w B 1 A n (ints xs)) (hr' : Reads w B' 1 A' n' (ints ys)) (hB : B ≤ w.heap.size) (hB' : B' ≤ w.heap.size) (hn : n ≤ maxLen) (hn' : n' ≤ maxLen) :
    Calls Tryd.prog 21 #[.agg #[.int .i64 h, .int .i64 f, .slice A n c], .agg #[.int .i64 h', .int .i64 f', .slice A' n' c']] w fun e w' => e = .returned (.bool (eqLB h f xs h' f' ys)) ∧ Below w.heap.size w w' := by
  have HR := Lib.hid hr
  have HR' := Lib.hid hr'
  clear hr hr'
  by_cases e1 : h = h'
  · subst e1
    have t1 : (h != h) = false := by simp
    by_cases e2 : f = f'
    · subst e2
      have t2 : (f != f) = false := by simp
      have HE : Hid (eqLB h f xs h f ys = eqB xs ys) := Lib.hid eqLB_l
      cases e4 : eqB xs ys
      all_goals
        go_enter Tryd.func21, Tryd.ntmps21
        go_wp2_with (fail)
        refine (eqIntS_any A A' n n' c c' B B' xs ys _ ((HR.out.alloc hB _).alloc (by simp; omega) _) ((HR'.out.alloc hB' _).alloc (by simp; omega) _) hn hn').mono ?_
        rintro e w1 ⟨rfl, hb⟩
        have HB := Lib.hid hb
        clear hb
        go_wp2
        go_ret
        exact ⟨ret_bool (by rw [HE.out, e4]), (((Below.refl _ _).alloc (Nat.le_refl _) _).alloc (by simp) _).trans (HB.out.mono (by simp; omega))⟩
    · have t2 : (f != f') = true := by simp [e2]
      go_enter Tryd.func21, Tryd.ntmps21
      go_wp2
      go_ret
      exact ⟨ret_bool (eqLB_f e2).symm, ((Below.refl _ _).alloc (Nat.le_refl _) _).alloc (by simp) _⟩
  · have t1 : (h != h') = true := by simp [e1]
    go_enter Tryd.func21, Tryd.ntmps21
    go_wp2
    go_ret
    exact ⟨ret_bool (eqLB_h e1).symm, ((Below.refl _ _).alloc (Nat.le_refl _) _).alloc (by simp) _⟩
end Go.Proofs.YtohbmkppfbbngaaDoor
