/-
  What is proved: the contracts of impl.pick at isGroup, and of impl.allGroups, over the second program. Conditions: those that each theorem states.
  What is proved: the contracts of impl.consistent and impl.SystemValid at five groups without entries, over the second program: they return true, or escape. Conditions: those that each theorem states.
  What is proved: the contracts of impl.GroupNew, impl.WorldNew, spec.GroupNew and spec.WorldNew over the second program: five groups with the numbers from 0 on, all lists empty, in memory of the call's own. No condition.
  What is proved: the contracts of the laws' comparisons at runs whose groups have no entries, over the second program. Conditions: those that each theorem states.
  What is proved: the contracts of impl.validMessages, impl.validGroups, impl.WorldValid at runs whose groups have no entries, over the second program. Conditions: those that each theorem states.
-/
import Derived.Test.YtjklkppncmhehaaWn26
import Derived.Test.YtjklkppncmhehaaWn27
import Derived.BigQuiet
set_option linter.unusedVariables false
set_option linter.unusedSimpArgs false
namespace Go.Proofs.Ytjklkppncmhehaa
open Go Go.RowKit

theorem int_info2 : (Tw.prog.info? 3).map (fun i => (i.zero, i.size, i.bytes)) = some (some (.int .i64 0), 1, 8) := by kernel_rfl
def ints5 (k : Nat) : List Value := (List.range k).map fun i : Nat => Value.int .i64 (i : Int)
theorem ints5_length (k : Nat) : (ints5 k).length = k := by simp [ints5]
theorem ints5_succ (k : Nat) : ints5 (k + 1) = ints5 k ++ [.int .i64 (k : Int)] := by simp [ints5, List.range_succ]
theorem int_one (z : Int) : ∀ u ∈ [Value.int .i64 z], u.oneCell' = true := by
  intro u hu
  simp only [List.mem_cons, List.not_mem_nil, or_false] at hu
  subst hu; rfl
/-- A row of the numbers of all groups, in memory of the call's own. -/
def AllG (base : Nat) (e : Ending) (w' : World) : Prop := ∃ g c, e = .returned (.slice (some ⟨g, 0, none⟩) 5 c) ∧ base ≤ g ∧ ∀ i, i < 5 → w'.cell? ⟨g, i, none⟩ = some (.int .i64 (i : Int))

set_option maxRecDepth 100000 in
set_option maxHeartbeats 2000000 in
theorem pick_grp (w : World) : Calls Tw.prog 60 #[.func (.func 33) #[] #[]] w fun e w' => AllG w.heap.size e w' ∧ Below w.heap.size w w' := by
  obtain ⟨i0, hi0, hz0', hza, hzb⟩ := info_parts int_info2
  go_enter Tw.func60, Try.ntmps60
  go_wp2
  go_loopw [3, 6] (fun o i wr => ∃ (k : Nat) (A : Option Addr) (c : Nat), k ≤ 5 ∧ i = .int .i64 k ∧ o = .slice A k c ∧ wr.ownsRow w.heap.size 3 1 (.slice A k c) k (ints5 k) ∧ Below w.heap.size w wr) (fun _ i _ => 5 - (intOf i).toNat)
  case atStart => exact ⟨0, _, 0, by omega, rfl, rfl, own_lit w (xs := []) rfl (Nat.le_refl _) rfl (by unfold maxLen; omega), (Below.refl _ _).alloc (Nat.le_refl _) _⟩
  case round =>
    obtain ⟨k, A, c, hk, rfl, rfl, ho, hb⟩ := hrel
    have HO := Lib.hid ho
    have HB := Lib.hid hb
    have hsz := hb.size
    clear ho hb
    by_cases hlt : k < 5
    · have hgb : isGrpB (k : Int) = true := by simp [isGrpB]; omega
      have HG := Lib.hid hgb
      clear hgb
      go_wp2_with (first
        | (refine (isGroup_any _ _).mono ?_
           rintro e' w2 ⟨rfl, hw⟩
           subst w2
           rw [HG.out])
        | (at_builtin
           refine wpList_append_any _ rfl (.tmp 12) (.tmp 14) _ rfl w.heap.size 3 i0 _ 1 8 Tw.underlying52 hi0 hz0' hza hzb rfl (by omega) (.slice A k c) k (ints5 k) rfl
             (by exact World.ownsRow.alloc HO.out _) (wr.heap.size + 1) (some ⟨wr.heap.size, 0, none⟩) 1 1 [.int .i64 (k : Int)] rfl (by exact reads_new wr rfl rfl) (int_one _) (by unfold maxLen; omega) (by omega) (by simp; omega) ?_
           intro v4 w4 hown4 hg4 hat4
           rw [← ints5_succ] at hown4
           obtain ⟨A4, c4, rfl⟩ := own_slice hown4
           have HB4 : Hid (Below w.heap.size w w4) := Lib.hid (by exact Below.grown (HB.out.alloc hsz (.cells #[.int .i64 (k : Int)] 3)) hg4 (by simp; omega) (fun q hq => (World.ownsRow.lt HO.out q hq).1))
           have HO4 := Lib.hid hown4
           clear hown4 hg4 hat4))
      exact ⟨⟨k + 1, A4, c4, by omega, by go_num, rfl, HO4.out, HB4.out⟩, by simp [intOf]; omega⟩
    · obtain rfl : k = 5 := by omega
      rw [show ((5 : Nat) : Int) = 5 from rfl]
      go_wp2
      go_ret
      refine ⟨?_, HB.out⟩
      obtain ⟨g, cap, he, hg1, hg2⟩ := HO.out.form (by omega)
      simp only [Value.slice.injEq] at he
      obtain ⟨rfl, _, rfl⟩ := he
      refine ⟨g, c, rfl, hg1, fun i hi => ?_⟩
      rw [HO.out.cellAt i (by omega)]
      match i, hi with
      | 0, _ => rfl
      | 1, _ => rfl
      | 2, _ => rfl
      | 3, _ => rfl
      | 4, _ => rfl

set_option maxRecDepth 100000 in
theorem allGroups_any (w : World) : Calls Tw.prog 52 #[] w fun e w' => AllG w.heap.size e w' ∧ Below w.heap.size w w' := by
  go_enter Tw.func52, Try.ntmps52
  go_wp2_with (fail)
  refine (pick_grp _).mono ?_
  rintro e w' ⟨⟨g, c, rfl, h1, h2⟩, hb⟩
  have H2 := Lib.hid h2
  have HB := Lib.hid hb
  clear h2 hb
  go_wp2
  go_ret
  exact ⟨⟨g, c, rfl, h1, H2.out⟩, HB.out⟩
end Go.Proofs.Ytjklkppncmhehaa

namespace Go.Proofs.Ytjklkppncmhehaa
open Go Go.RowKit

/-- An answer: not known. -/
def noA : Sr.AnsV := ⟨0, 0, 0, false, false⟩
theorem askH_nil {ga : Addr} {gc g : Nat} {w : World} (hg : Nil5 w ga) (hga : ga.block < w.heap.size) (hgc : 5 ≤ gc ∧ gc ≤ maxLen) (ms : Int) (hs : ∀ i, i < 5 → w.cell? ⟨g, i, none⟩ = some (.int .i64 (i : Int))) :
    AskH ga 5 gc g 0 5 ms (fun i => (i : Int)) (fun _ => noA) w :=
  ⟨by omega, by omega, fun i hi => by rw [Nat.zero_add]; exact hs i hi, fun i hi u gb mb hu h1 h2 => by
    have hk : Nil5 u ga := hg.keep fun q hq => hu q (by rw [hq]; exact hga)
    have hgu : ga.block < u.heap.size := by
      have := World.block_lt_of_cell? u _ (hk 0 (by omega)).1
      rwa [block_of_add] at this
    exact ask1_nil ga gc i hi hgc ms gb mb u hk h1 h2 hgu⟩
/-- A bool in memory of the call's own, or the escape. -/
def TrueR (w : World) (e : Ending) (w' : World) : Prop := (e = .returned (.bool true) ∧ Below w.heap.size w w') ∨ Sr.Esc e w'

set_option maxRecDepth 100000 in
set_option maxHeartbeats 2000000 in
theorem consistent_nil (ga : Addr) (gc : Nat) (ms : Int) (w : World) (hg : Nil5 w ga) (hga : ga.block < w.heap.size) (hgc : 5 ≤ gc ∧ gc ≤ maxLen) :
    Calls Tw.prog 26 #[.slice (some ga) 5 gc, .int .i64 ms] w (TrueR w) := by
  have HG := Lib.hid hg
  clear hg
  go_enter Tw.func26, Try.ntmps26
  go_wp2_with (fail)
  refine (allGroups_any _).mono ?_
  rintro e w1 ⟨⟨g, c, rfl, hg1, hgs⟩, hb1⟩
  have H1 := Lib.hid (askH_nil (HG.out.below hb1 hga) (Nat.lt_of_lt_of_le hga hb1.size) hgc ms hgs)
  have HB1 := Lib.hid hb1
  clear hgs hb1
  go_wp2_with (fail)
  refine (ask_any ga 5 gc g 0 5 c ms _ _ w1 H1.out).mono ?_
  rintro e w2 (⟨⟨B, rfl, hB, ⟨cs, hcs, hz, hc⟩, -, -⟩, hb2⟩ | ⟨us, rfl, hok⟩)
  · have KB : Hid (Blk w2 B 91 cs) := Lib.hid hcs
    have HC := Lib.hid hc
    have HB2 : Hid (Below w.heap.size w w2) := Lib.hid (HB1.out.trans (hb2.mono HB1.out.size))
    clear hcs hc hb2 hz
    go_wp2_with (fail)
    go_loopw [16] (fun i wr => ∃ k : Nat, k ≤ 5 ∧ i = .int .i64 k ∧ Below w.heap.size w wr ∧ Blk wr B 91 cs) (fun i _ => 5 - (intOf i).toNat)
    case atStart => exact ⟨0, by omega, rfl, HB2.out, KB.out⟩
    case round =>
      obtain ⟨k, hk, rfl, hb, hkb⟩ := hrel
      have HB := Lib.hid hb
      have KR := Lib.hid hkb
      have hsz := hb.size
      have hlB := hkb.lt
      clear hb hkb
      by_cases hlt : k < 5
      · have hc5 := HC.out k
        have y0 : wr.cell? { block := B, off := k * 5 } = some (.int .i64 0) := (KR.out.cell _).trans (by rw [Nat.mul_comm]; exact hc5 0 hlt (by omega))
        have y1 : wr.cell? { block := B, off := k * 5 + 1 } = some (.int .i64 0) := (KR.out.cell _).trans (by rw [Nat.mul_comm]; exact hc5 1 hlt (by omega))
        have y2 : wr.cell? { block := B, off := k * 5 + 2 } = some (.int .i64 0) := (KR.out.cell _).trans (by rw [Nat.mul_comm]; exact hc5 2 hlt (by omega))
        have y3 : wr.cell? { block := B, off := k * 5 + 3 } = some (.bool false) := (KR.out.cell _).trans (by rw [Nat.mul_comm]; exact hc5 3 hlt (by omega))
        have y4 : wr.cell? { block := B, off := k * 5 + 4 } = some (.bool false) := (KR.out.cell _).trans (by rw [Nat.mul_comm]; exact hc5 4 hlt (by omega))
        have k0 : (0 : Int) ≤ (k : Int) := by omega
        have k5 : (k : Int) < 5 := by omega
        clear hc5
        go_wp2
        exact ⟨⟨k + 1, by omega, by go_num, HB.out.alloc hsz _, KR.out.alloc _⟩, by simp [intOf]; omega⟩
      · obtain rfl : k = 5 := by omega
        rw [show ((5 : Nat) : Int) = 5 from rfl]
        go_wp2
        go_ret
        exact Or.inl ⟨rfl, HB.out⟩
  · exact ⟨rfl, Or.inr ⟨_, rfl, hok⟩⟩

set_option maxRecDepth 100000 in
set_option maxHeartbeats 2000000 in
theorem systemValid_nil (ga : Addr) (gc : Nat) (w : World) (hg : Nil5 w ga) (hga : ga.block < w.heap.size) (hgc : 5 ≤ gc ∧ gc ≤ maxLen) :
    Calls Tw.prog 10 #[.slice (some ga) 5 gc] w (TrueR w) := by
  have HG := Lib.hid hg
  clear hg
  go_enter Tw.func10, Try.ntmps10
  go_wp2_with (fail)
  go_loopw [11] (fun i wr => ∃ k : Nat, k ≤ 5 ∧ i = .int .i64 k ∧ Below w.heap.size w wr) (fun i _ => 5 - (intOf i).toNat)
  case atStart => exact ⟨0, by omega, rfl, Below.refl _ _⟩
  case round =>
    obtain ⟨k, hk, rfl, hb⟩ := hrel
    have HB := Lib.hid hb
    have hsz := hb.size
    clear hb
    by_cases hlt : k < 5
    · obtain ⟨g0, g1, ⟨A, g2⟩, A', g3⟩ := (HG.out.below HB.out hga) k hlt
      have hga0 : (ga.add (k * 4)).block < wr.heap.size := by rw [block_of_add]; omega
      have k0 : (0 : Int) ≤ (k : Int) := by omega
      have k5 : (k : Int) < 5 := by omega
      go_wp2_with (go_at_call 25
                   refine (groupValid_nil _ _ (by simp [isGrpB]; omega) (by simp [isTimeB]) _ _ _).mono ?_
                   rintro e' w1 ⟨rfl, hb1⟩
                   have K1 := Lib.hid (blk_cell (Blk.new wr 44 #[.int .i64 (k : Int), .int .i64 0, .slice A 0 0, .slice A' 0 0]) hb1)
                   have x1 := K1.out.cell
                   have HB1 : Hid (Below w.heap.size w w1) := Lib.hid ((HB.out.alloc hsz (.cells #[.int .i64 (k : Int), .int .i64 0, .slice A 0 0, .slice A' 0 0] 44)).trans (hb1.mono (by simp; omega)))
                   clear hb1)
      exact ⟨⟨k + 1, by omega, by go_num, HB1.out⟩, by simp [intOf]; omega⟩
    · obtain rfl : k = 5 := by omega
      rw [show ((5 : Nat) : Int) = 5 from rfl]
      go_wp2_with (fail)
      go_loopw [26] (fun i wr => ∃ k : Nat, k ≤ 12 ∧ i = .int .i64 k ∧ Below w.heap.size w wr) (fun i _ => 12 - (intOf i).toNat)
      case atStart => exact ⟨0, by omega, rfl, HB.out⟩
      case round =>
        obtain ⟨k, hk', rfl, hb⟩ := hrel
        have HB2 := Lib.hid hb
        clear hb
        by_cases hl2 : k < 12
        · go_wp2_with (fail)
          refine (consistent_nil ga gc k _ (HG.out.below HB2.out hga) (Nat.lt_of_lt_of_le hga HB2.out.size) hgc).mono ?_
          rintro e w3 (⟨rfl, hb3⟩ | ⟨us, rfl, hok⟩)
          · have HB3 := Lib.hid (HB2.out.trans (hb3.mono HB2.out.size))
            clear hb3
            go_wp2_with (fail)
            exact ⟨⟨k + 1, by omega, by go_num, HB3.out⟩, by simp [intOf]; omega⟩
          · exact ⟨rfl, Or.inr ⟨_, rfl, hok⟩⟩
        · obtain rfl : k = 12 := by omega
          rw [show ((12 : Nat) : Int) = 12 from rfl]
          go_wp2
          go_ret
          exact Or.inl ⟨rfl, HB2.out⟩
end Go.Proofs.Ytjklkppncmhehaa

namespace Go.Proofs.Ytjklkppncmhehaa
open Go Go.RowKit

/-- The cells of n groups: numbers f, clocks g, two empty lists each. -/
def Grps (f g : Nat → Int) (xs : List Value) (n : Nat) : Prop :=
  xs.length = n * 4 ∧ ∀ i, i < n → xs[i * 4]? = some (.int .i64 (f i)) ∧ xs[i * 4 + 1]? = some (.int .i64 (g i)) ∧ ∃ A A', xs[i * 4 + 2]? = some (.slice A 0 0) ∧ xs[i * 4 + 3]? = some (.slice A' 0 0)
theorem Grps.nil (f g : Nat → Int) : Grps f g [] 0 := ⟨rfl, fun i hi => by omega⟩
theorem Grps.snoc {f g : Nat → Int} {xs : List Value} {n : Nat} (h : Grps f g xs n) {a b : Int} (ha : a = f n) (hb : b = g n) (A A' : Option Addr) :
    Grps f g (xs ++ [.int .i64 a, .int .i64 b, .slice A 0 0, .slice A' 0 0]) (n + 1) := by
  subst ha hb
  refine ⟨by rw [List.length_append, h.1]; simp; omega, fun i hi => ?_⟩
  have hl := h.1
  by_cases hin : i < n
  · obtain ⟨h0, h1, B, B', h2, h3⟩ := h.2 i hin
    refine ⟨?_, ?_, B, B', ?_, ?_⟩ <;> rw [List.getElem?_append_left (by omega)] <;> assumption
  · have e : i = n := by omega
    subst e
    refine ⟨?_, ?_, A, A', ?_, ?_⟩ <;> rw [List.getElem?_append_right (by omega), hl]
    · rw [show i * 4 - i * 4 = 0 from by omega]; rfl
    · rw [show i * 4 + 1 - i * 4 = 1 from by omega]; rfl
    · rw [show i * 4 + 2 - i * 4 = 2 from by omega]; rfl
    · rw [show i * 4 + 3 - i * 4 = 3 from by omega]; rfl
theorem Grps.congr {f g f' g' : Nat → Int} {xs : List Value} {n : Nat} (h : Grps f g xs n) (hf : ∀ i, i < n → f i = f' i) (hg : ∀ i, i < n → g i = g' i) : Grps f' g' xs n :=
  ⟨h.1, fun i hi => by
    obtain ⟨h0, h1, h2⟩ := h.2 i hi
    exact ⟨by rw [h0, hf i hi], by rw [h1, hg i hi], h2⟩⟩
/-- A row of n groups in a block of its own. -/
def GRow (w : World) (base g c n : Nat) (f h : Nat → Int) : Prop := ∃ xs, w.ownsRow base 44 4 (.slice (some ⟨g, 0, none⟩) n c) n xs ∧ Grps f h xs n
section
variable {w w' : World} {base g c n : Nat} {f h : Nat → Int}
theorem GRow.at_ (s : GRow w base g c n f h) {i : Nat} (hi : i < n) : w.cell? ⟨g, i * 4, none⟩ = some (.int .i64 (f i)) ∧ w.cell? ⟨g, i * 4 + 1, none⟩ = some (.int .i64 (h i)) ∧
    ∃ A A', w.cell? ⟨g, i * 4 + 2, none⟩ = some (.slice A 0 0) ∧ w.cell? ⟨g, i * 4 + 3, none⟩ = some (.slice A' 0 0) := by
  obtain ⟨xs, ho, hx⟩ := s
  obtain ⟨h0, h1, A, A', h2, h3⟩ := hx.2 i hi
  exact ⟨(ho.cellAt _ (by omega)).trans h0, (ho.cellAt _ (by omega)).trans h1, A, A', (ho.cellAt _ (by omega)).trans h2, (ho.cellAt _ (by omega)).trans h3⟩
theorem GRow.lt (s : GRow w base g c n f h) : base ≤ g ∧ g < w.heap.size := by
  obtain ⟨xs, ho, hx⟩ := s
  exact World.ownsRow.lt ho g rfl
theorem GRow.caps (s : GRow w base g c n f h) : n ≤ c ∧ c ≤ maxLen := by
  obtain ⟨xs, ho, hx⟩ := s
  rcases ho.2 with ⟨he, _⟩ | ⟨g', cap, cur, he, _, _, h1, h2, _⟩
  · cases he
  · simp only [Value.slice.injEq] at he
    obtain ⟨_, _, rfl⟩ := he
    exact ⟨h1, h2⟩
theorem GRow.below (s : GRow w base g c n f h) (hb : Below w.heap.size w w') : GRow w' base g c n f h := by
  obtain ⟨xs, ho, hx⟩ := s
  refine ⟨xs, ⟨ho.1, ?_⟩, hx⟩
  rcases ho.2 with hn | ⟨g', cap, cur, he, hb', hgg, rest⟩
  · exact .inl hn
  · exact .inr ⟨g', cap, cur, he, hb', (hb.block g' (Array.getElem?_eq_some_iff.1 hgg).1).trans hgg, rest⟩
theorem GRow.kept (s : GRow w base g c n f h) {row : Option Nat} (hg : w.grownBy w' row) (hne : some g ≠ row) : GRow w' base g c n f h := by
  obtain ⟨xs, ho, hx⟩ := s
  exact ⟨xs, ho.kept hg (.inr hne), hx⟩
theorem GRow.mono {b : Nat} (s : GRow w base g c n f h) (hb : b ≤ base) : GRow w b g c n f h := by
  obtain ⟨xs, ho, hx⟩ := s
  exact ⟨xs, own_mono ho hb, hx⟩
theorem GRow.congr {f' h' : Nat → Int} (s : GRow w base g c n f h) (hf : ∀ i, i < n → f i = f' i) (hh : ∀ i, i < n → h i = h' i) : GRow w base g c n f' h' := by
  obtain ⟨xs, ho, hx⟩ := s
  exact ⟨xs, ho, hx.congr hf hh⟩
theorem GRow.frozen (s : GRow w base g c n f h) (j : Nat) : w.frozen? ⟨g, j, none⟩ = false := by
  obtain ⟨xs, ho, hx⟩ := s
  exact ho.frozenAt j
end
theorem grown_trans {a b c : World} {row : Option Nat} (h : a.grownBy b row) (k : b.grownBy c row) : a.grownBy c row :=
  ⟨k.os.trans h.os, k.tape.trans h.tape, k.output.trans h.output, Nat.le_trans h.size k.size, fun i hi hne => (k.block i (Nat.lt_of_lt_of_le hi h.size) hne).trans (h.block i hi hne)⟩
theorem grown_of_below {a b : World} {row : Option Nat} (h : Below a.heap.size a b) : a.grownBy b row := ⟨h.os, h.tape, h.output, h.size, fun i hi _ => h.block i hi⟩


theorem grp_info : (Tw.prog.info? 44).map (fun i => (i.zero, i.size, i.bytes)) = some (some (.agg #[.int .i64 0, .int .i64 0, .slice none 0 0, .slice none 0 0]), 4, 64) := by kernel_rfl
theorem cells_one4 {a b : Value} {A A' : Option Addr} {c c' : Nat} (ha : a.oneCell' = true) (hb : b.oneCell' = true) : ∀ u ∈ [a, b, Value.slice A 0 c, Value.slice A' 0 c'], u.oneCell' = true := by
  intro u hu
  simp only [List.mem_cons, List.mem_nil_iff, or_false] at hu
  rcases hu with rfl | rfl | rfl | rfl
  · exact ha
  · exact hb
  · rfl
  · rfl
theorem reads_new4 (w : World) {t : TypeId} {g : Nat} {xs : List Value} (hg : g = w.heap.size) (hn : xs.length = 4) : Reads (w.alloc (.cells xs.toArray t)) (g + 1) 4 (some ⟨g, 0, none⟩) 1 xs := by
  subst hg
  refine ⟨by omega, fun _ => ⟨_, rfl, by simp, fun j u hu => ?_⟩⟩
  have := (Blk.new w t xs.toArray).cell j
  rw [Addr.add_lit, Nat.zero_add, this]
  simpa using hu

set_option maxRecDepth 100000 in
theorem l1Group_any (k : Nat) (hk : k < 5) (w : World) : Calls Tw.prog 37 #[.int .i64 (k : Int)] w fun e w' => e = .returned (.bool true) ∧ w = w' := by
  have h0 : (0 : Int) ≤ (k : Int) := by omega
  have h1 : (k : Int) ≤ 4 := by omega
  go_enter Tw.func37, Try.ntmps37
  go_wp2_with (fail)
  refine Calls.mono (R := fun e w' => e = .returned (.bool true) ∧ w = w') ?_ ?_
  · go_enter Tw.func53, Try.ntmps53
    go_wp2
    go_ret
    exact ⟨rfl, rfl⟩
  · rintro e w' ⟨rfl, rfl⟩
    go_wp2
    go_ret
    exact ⟨rfl, rfl⟩
set_option maxRecDepth 100000 in
theorem implGroupNew_any (k : Nat) (hk : k < 5) (w : World) : Calls Tw.prog 14 #[.int .i64 (k : Int)] w fun e w' =>
    e = .returned (.tuple #[.agg #[.int .i64 (k : Int), .int .i64 0, .slice none 0 0, .slice none 0 0], .bool true]) ∧ Below w.heap.size w w' := by
  have hgb : Hid (isGrpB (k : Int) = true) := Lib.hid (by simp [isGrpB]; omega)
  go_enter Tw.func14, Try.ntmps14
  go_wp2_with (go_at_call 33; refine (isGroup_any (k : Int) _).mono ?_; rintro e w' ⟨rfl, rfl⟩; rw [hgb.out])
  refine bodyPost_ret (v := .tuple #[.agg #[.int .i64 (k : Int), .int .i64 0, .slice none 0 0, .slice none 0 0], .bool true]) (by simp [results, Try.results14, go_sem]) rfl ⟨rfl, ?_⟩
  exact (Below.refl _ _).alloc (Nat.le_refl _) _
set_option maxRecDepth 100000 in
theorem specGroupNew_any (k : Nat) (hk : k < 5) (w : World) : Calls Tw.prog 19 #[.int .i64 (k : Int)] w fun e w' =>
    (∃ A A', e = .returned (.tuple #[.agg #[.int .i64 (k : Int), .int .i64 0, .slice A 0 0, .slice A' 0 0], .bool true])) ∧ Below w.heap.size w w' := by
  go_enter Tw.func19, Try.ntmps19
  go_wp2_with (go_at_call 37; refine (l1Group_any k hk _).mono ?_; rintro e w' ⟨rfl, rfl⟩)
  refine bodyPost_ret (v := .tuple #[.agg #[.int .i64 (k : Int), .int .i64 0, .slice (some ⟨w.heap.size + 1, 0, none⟩) 0 0, .slice (some ⟨w.heap.size + 1 + 1, 0, none⟩) 0 0], .bool true]) (by simp [results, Try.results19, go_sem]) rfl ⟨⟨_, _, rfl⟩, ?_⟩
  repeat (first | with_reducible exact Below.refl _ _ | with_reducible exact Hid.out (by assumption) | with_reducible refine Below.drew ?_ | with_reducible refine Below.alloc ?_ (by first | omega | (simp; done) | (simp; omega)) _ | with_reducible refine Below.setCell ?_ (by first | omega | (simp; done) | (simp; omega)) _)

/-- A result that is a run of five groups with numbers f and clocks g, all lists empty, in memory of the call's own. -/
def RetW (w : World) (f h : Nat → Int) (e : Ending) (w' : World) : Prop :=
  ∃ A0 A2 A3 A4 g c, e = .returned (.agg #[.slice A0 0 0, .slice (some ⟨g, 0, none⟩) 5 c, .slice A2 0 0, .slice A3 0 0, .slice A4 0 0]) ∧ GRow w' w.heap.size g c 5 f h ∧ Below w.heap.size w w'

/-- The state of WorldNew's loop: b0 holds the result, b1 the run. -/
structure NewSt (w : World) (b0 b1 : Nat) (s0 s2 s3 s4 : Value) (k : Nat) (A : Option Addr) (c : Nat) (xs : List Value) (wr : World) : Prop where
  k0 : Blk wr b0 29 #[.slice none 0 0, .slice none 0 0, .slice none 0 0, .slice none 0 0, .slice none 0 0]
  k1 : Blk wr b1 29 #[s0, .slice A k c, s2, s3, s4]
  ow : wr.ownsRow w.heap.size 44 4 (.slice A k c) k xs
  gr : Grps (fun i => (i : Int)) (fun _ => 0) xs k
  bel : Below w.heap.size w wr
  h0 : w.heap.size ≤ b0
  h1 : w.heap.size ≤ b1
theorem NewSt.below {w : World} {b0 b1 : Nat} {s0 s2 s3 s4 : Value} {k : Nat} {A : Option Addr} {c : Nat} {xs : List Value} {wr wr' : World} (s : NewSt w b0 b1 s0 s2 s3 s4 k A c xs wr) (hb : Below wr.heap.size wr wr') : NewSt w b0 b1 s0 s2 s3 s4 k A c xs wr' := by
  refine ⟨s.k0.below hb s.k0.lt, s.k1.below hb s.k1.lt, ⟨s.ow.1, ?_⟩, s.gr, s.bel.trans (hb.mono s.bel.size), s.h0, s.h1⟩
  rcases s.ow.2 with hn | ⟨g', cap, cur, he, hb', hgg, rest⟩
  · exact .inl hn
  · exact .inr ⟨g', cap, cur, he, hb', (hb.block g' (Array.getElem?_eq_some_iff.1 hgg).1).trans hgg, rest⟩

set_option maxRecDepth 100000 in
set_option maxHeartbeats 2000000 in
theorem implWorldNew_any (w : World) : Calls Tw.prog 5 #[] w (RetW w (fun i => (i : Int)) (fun _ => 0)) := by
  obtain ⟨i0, hi0, hz0', hza, hzb⟩ := info_parts grp_info
  go_enter Tw.func5, Try.ntmps5
  go_wp2
  have HS : NewSt w w.heap.size (w.heap.size + 1) (.slice none 0 0) (.slice none 0 0) (.slice none 0 0) (.slice none 0 0) 0 none 0 [] ((w.alloc (.cells #[.slice none 0 0, .slice none 0 0, .slice none 0 0, .slice none 0 0, .slice none 0 0] 29)).alloc (.cells #[.slice none 0 0, .slice none 0 0, .slice none 0 0, .slice none 0 0, .slice none 0 0] 29)) :=
    ⟨(Blk.new w _ _).alloc _, Blk.new' _ _ _ (by simp), ⟨rfl, .inl ⟨rfl, rfl⟩⟩, Grps.nil _ _, ((Below.refl _ _).alloc (Nat.le_refl _) _).alloc (by simp) _, Nat.le_refl _, by omega⟩
  go_loopw [6] (fun i wr => ∃ (k : Nat) (A : Option Addr) (c : Nat) (xs : List Value), k ≤ 5 ∧ i = .int .i64 k ∧ NewSt w w.heap.size (w.heap.size + 1) (.slice none 0 0) (.slice none 0 0) (.slice none 0 0) (.slice none 0 0) k A c xs wr) (fun i _ => 5 - (intOf i).toNat)
  case atStart => exact ⟨0, none, 0, [], by omega, rfl, HS⟩
  case round =>
    clear HS
    obtain ⟨k, A, c, xs, hk, rfl, Sr⟩ := hrel
    have SR := Lib.hid Sr
    have k1 := Sr.k1.cell
    have f1 := Sr.k1.frozen
    have k0 := Sr.k0.cell
    have l1 := Sr.k1.lt
    have l0 := Sr.k0.lt
    clear Sr
    by_cases hlt : k < 5
    · go_wp2_with (fail)
      refine (implGroupNew_any k hlt _).mono ?_
      rintro e w1 ⟨rfl, hb1⟩
      have S1 := Lib.hid (SR.out.below hb1)
      have k1' := S1.out.k1.cell
      have f1' := S1.out.k1.frozen
      have l1' := S1.out.k1.lt
      have hsz1 := S1.out.bel.size
      clear hb1 k1 f1 k0
      go_wp2_with (at_builtin
                   refine wpList_append_any _ rfl (.tmp 15) (.tmp 17) _ rfl w.heap.size 44 i0 _ 4 64 Tw.underlying24 hi0 hz0' hza hzb rfl (by omega) (.slice A k c) k xs rfl
                     (World.ownsRow.alloc (World.ownsRow.alloc S1.out.ow _) _) (w1.heap.size + 1 + 1) (some ⟨w1.heap.size + 1, 0, none⟩) 1 1 [.int .i64 (k : Int), .int .i64 0, .slice none 0 0, .slice none 0 0] rfl (reads_new4 _ (by simp) rfl) (cells_one4 rfl rfl) (by unfold maxLen; omega) (by omega) (by simp; omega) ?_
                   intro v5 w5 hown5 hg5 hat5
                   rw [show xs ++ [Value.int .i64 (k : Int), Value.int .i64 0, .slice none 0 0, .slice none 0 0] = xs ++ [Value.int .i64 (k : Int), Value.int .i64 0, .slice none 0 0, .slice none 0 0] from rfl] at hown5
                   obtain ⟨A5, c5, rfl⟩ := own_slice hown5
                   have hne1 : (Value.slice A k c).ownBlock ≠ some (w.heap.size + 1) := own_blk_ne S1.out.ow S1.out.k1 (by decide)
                   have hne0 : (Value.slice A k c).ownBlock ≠ some w.heap.size := own_blk_ne S1.out.ow S1.out.k0 (by decide)
                   have K51 := Lib.hid (Blk.grown ((S1.out.k1.alloc (.cells #[.int .i64 (k : Int), .int .i64 0, .slice none 0 0, .slice none 0 0] 44)).alloc (.cells #[.int .i64 (k : Int), .int .i64 0, .slice none 0 0, .slice none 0 0] 44)) hg5 hne1.symm)
                   have K50 := Lib.hid (Blk.grown ((S1.out.k0.alloc (.cells #[.int .i64 (k : Int), .int .i64 0, .slice none 0 0, .slice none 0 0] 44)).alloc (.cells #[.int .i64 (k : Int), .int .i64 0, .slice none 0 0, .slice none 0 0] 44)) hg5 hne0.symm)
                   have HB5 : Hid (Below w.heap.size w w5) := Lib.hid (Below.grown ((S1.out.bel.alloc (by omega) (.cells #[.int .i64 (k : Int), .int .i64 0, .slice none 0 0, .slice none 0 0] 44)).alloc (by simp; omega) (.cells #[.int .i64 (k : Int), .int .i64 0, .slice none 0 0, .slice none 0 0] 44)) hg5 (by simp; omega) (fun q hq => (World.ownsRow.lt S1.out.ow q hq).1))
                   have HO5 := Lib.hid hown5
                   have c51 := K51.out.cell
                   have f51 := K51.out.frozen
                   clear hown5 hg5 hat5 k1' f1')
      go_roundw
      case rel =>
        have hn5 : (Value.slice A5 (k + 1) c5).ownBlock ≠ some (w.heap.size + 1) := own_blk_ne HO5.out K51.out (by decide)
        refine ⟨k + 1, A5, c5, xs ++ [.int .i64 (k : Int), .int .i64 0, .slice none 0 0, .slice none 0 0], by omega, by go_num, ?_⟩
        exact ⟨K50.out.far (by simp <;> omega) _, K51.out.set_ 1 _, ownsRow_setCell_other HO5.out hn5 _, S1.out.gr.snoc rfl rfl _ _, HB5.out.setCell (by simp <;> omega) _, Nat.le_refl _, by omega⟩
      case measure => simp [intOf]; omega
    · obtain rfl : k = 5 := by omega
      obtain ⟨g, cap, hv, hb, hg⟩ := SR.out.ow.form (by omega)
      simp only [Value.slice.injEq, true_and] at hv
      obtain ⟨rfl, rfl⟩ := hv
      have f0 := SR.out.k0.frozen
      go_wp2
      have hn0 : (Value.slice (some ⟨g, 0, none⟩) 5 c).ownBlock ≠ some w.heap.size := own_blk_ne SR.out.ow SR.out.k0 (by decide)
      have hbel := SR.out.bel
      refine bodyPost_ret (v := .agg #[.slice none 0 0, .slice (some ⟨g, 0, none⟩) 5 c, .slice none 0 0, .slice none 0 0, .slice none 0 0]) (by simp [results, Try.results5, go_sem, k0]) rfl ⟨_, _, _, _, g, c, rfl, ⟨xs, ?_, SR.out.gr⟩, ?_⟩
      · repeat (first | with_reducible refine ownsRow_setCell_other ?_ hn0 _)
        exact SR.out.ow
      · (repeat (first | with_reducible exact hbel | with_reducible refine Below.setCell ?_ (by first | omega | (simp; done) | (simp; omega)) _))

set_option maxRecDepth 100000 in
set_option maxHeartbeats 2000000 in
theorem specWorldNew_any (w : World) : Calls Tw.prog 7 #[] w (RetW w (fun i => (i : Int)) (fun _ => 0)) := by
  obtain ⟨i0, hi0, hz0', hza, hzb⟩ := info_parts grp_info
  go_enter Tw.func7, Try.ntmps7
  go_wp2
  have HS : NewSt w w.heap.size (w.heap.size + 1 + 1 + 1 + 1 + 1) (.slice (some ⟨w.heap.size + 1, 0, none⟩) 0 0) (.slice (some ⟨w.heap.size + 1 + 1, 0, none⟩) 0 0) (.slice (some ⟨w.heap.size + 1 + 1 + 1, 0, none⟩) 0 0) (.slice (some ⟨w.heap.size + 1 + 1 + 1 + 1, 0, none⟩) 0 0) 0 none 0 [] ((((((w.alloc (.cells #[.slice none 0 0, .slice none 0 0, .slice none 0 0, .slice none 0 0, .slice none 0 0] 29)).alloc (.cells #[] 52)).alloc (.cells #[] 55)).alloc (.cells #[] 4)).alloc (.cells #[] 57)).alloc (.cells #[.slice (some ⟨w.heap.size + 1, 0, none⟩) 0 0, .slice none 0 0, .slice (some ⟨w.heap.size + 1 + 1, 0, none⟩) 0 0, .slice (some ⟨w.heap.size + 1 + 1 + 1, 0, none⟩) 0 0, .slice (some ⟨w.heap.size + 1 + 1 + 1 + 1, 0, none⟩) 0 0] 29)) :=
    ⟨((((((Blk.new w _ _).alloc _).alloc _).alloc _).alloc _).alloc _), Blk.new' _ _ _ (by simp), ⟨rfl, .inl ⟨rfl, rfl⟩⟩, Grps.nil _ _, (((((((Below.refl _ _).alloc (Nat.le_refl _) _).alloc (by simp) _).alloc (by simp; omega) _).alloc (by simp; omega) _).alloc (by simp; omega) _).alloc (by simp; omega) _), Nat.le_refl _, by omega⟩
  go_loopw [2] (fun i wr => ∃ (k : Nat) (A : Option Addr) (c : Nat) (xs : List Value), k ≤ 5 ∧ i = .int .i64 k ∧ NewSt w w.heap.size (w.heap.size + 1 + 1 + 1 + 1 + 1) (.slice (some ⟨w.heap.size + 1, 0, none⟩) 0 0) (.slice (some ⟨w.heap.size + 1 + 1, 0, none⟩) 0 0) (.slice (some ⟨w.heap.size + 1 + 1 + 1, 0, none⟩) 0 0) (.slice (some ⟨w.heap.size + 1 + 1 + 1 + 1, 0, none⟩) 0 0) k A c xs wr) (fun i _ => 5 - (intOf i).toNat)
  case atStart => exact ⟨0, none, 0, [], by omega, rfl, HS⟩
  case round =>
    clear HS
    obtain ⟨k, A, c, xs, hk, rfl, Sr⟩ := hrel
    have SR := Lib.hid Sr
    have k1 := Sr.k1.cell
    have f1 := Sr.k1.frozen
    have k0 := Sr.k0.cell
    have l1 := Sr.k1.lt
    have l0 := Sr.k0.lt
    clear Sr
    by_cases hlt : k < 5
    · go_wp2_with (fail)
      refine (specGroupNew_any k hlt _).mono ?_
      rintro e w1 ⟨⟨A0, A0', rfl⟩, hb1⟩
      have S1 := Lib.hid (SR.out.below hb1)
      have k1' := S1.out.k1.cell
      have f1' := S1.out.k1.frozen
      have l1' := S1.out.k1.lt
      have hsz1 := S1.out.bel.size
      clear hb1 k1 f1 k0
      go_wp2_with (at_builtin
                   refine wpList_append_any _ rfl (.tmp 20) (.tmp 22) _ rfl w.heap.size 44 i0 _ 4 64 Tw.underlying24 hi0 hz0' hza hzb rfl (by omega) (.slice A k c) k xs rfl
                     (World.ownsRow.alloc (World.ownsRow.alloc S1.out.ow _) _) (w1.heap.size + 1 + 1) (some ⟨w1.heap.size + 1, 0, none⟩) 1 1 [.int .i64 (k : Int), .int .i64 0, .slice A0 0 0, .slice A0' 0 0] rfl (reads_new4 _ (by simp) rfl) (cells_one4 rfl rfl) (by unfold maxLen; omega) (by omega) (by simp; omega) ?_
                   intro v5 w5 hown5 hg5 hat5
                   rw [show xs ++ [Value.int .i64 (k : Int), Value.int .i64 0, .slice A0 0 0, .slice A0' 0 0] = xs ++ [Value.int .i64 (k : Int), Value.int .i64 0, .slice A0 0 0, .slice A0' 0 0] from rfl] at hown5
                   obtain ⟨A5, c5, rfl⟩ := own_slice hown5
                   have hne1 : (Value.slice A k c).ownBlock ≠ some (w.heap.size + 1 + 1 + 1 + 1 + 1) := own_blk_ne S1.out.ow S1.out.k1 (by decide)
                   have hne0 : (Value.slice A k c).ownBlock ≠ some w.heap.size := own_blk_ne S1.out.ow S1.out.k0 (by decide)
                   have K51 := Lib.hid (Blk.grown ((S1.out.k1.alloc (.cells #[.int .i64 (k : Int), .int .i64 0, .slice A0 0 0, .slice A0' 0 0] 44)).alloc (.cells #[.int .i64 (k : Int), .int .i64 0, .slice A0 0 0, .slice A0' 0 0] 44)) hg5 hne1.symm)
                   have K50 := Lib.hid (Blk.grown ((S1.out.k0.alloc (.cells #[.int .i64 (k : Int), .int .i64 0, .slice A0 0 0, .slice A0' 0 0] 44)).alloc (.cells #[.int .i64 (k : Int), .int .i64 0, .slice A0 0 0, .slice A0' 0 0] 44)) hg5 hne0.symm)
                   have HB5 : Hid (Below w.heap.size w w5) := Lib.hid (Below.grown ((S1.out.bel.alloc (by omega) (.cells #[.int .i64 (k : Int), .int .i64 0, .slice A0 0 0, .slice A0' 0 0] 44)).alloc (by simp; omega) (.cells #[.int .i64 (k : Int), .int .i64 0, .slice A0 0 0, .slice A0' 0 0] 44)) hg5 (by simp; omega) (fun q hq => (World.ownsRow.lt S1.out.ow q hq).1))
                   have HO5 := Lib.hid hown5
                   have c51 := K51.out.cell
                   have f51 := K51.out.frozen
                   clear hown5 hg5 hat5 k1' f1')
      go_roundw
      case rel =>
        have hn5 : (Value.slice A5 (k + 1) c5).ownBlock ≠ some (w.heap.size + 1 + 1 + 1 + 1 + 1) := own_blk_ne HO5.out K51.out (by decide)
        refine ⟨k + 1, A5, c5, xs ++ [.int .i64 (k : Int), .int .i64 0, .slice A0 0 0, .slice A0' 0 0], by omega, by go_num, ?_⟩
        exact ⟨K50.out.far (by simp <;> omega) _, K51.out.set_ 1 _, ownsRow_setCell_other HO5.out hn5 _, S1.out.gr.snoc rfl rfl _ _, HB5.out.setCell (by simp <;> omega) _, Nat.le_refl _, by omega⟩
      case measure => simp [intOf]; omega
    · obtain rfl : k = 5 := by omega
      obtain ⟨g, cap, hv, hb, hg⟩ := SR.out.ow.form (by omega)
      simp only [Value.slice.injEq, true_and] at hv
      obtain ⟨rfl, rfl⟩ := hv
      have f0 := SR.out.k0.frozen
      go_wp2
      have hn0 : (Value.slice (some ⟨g, 0, none⟩) 5 c).ownBlock ≠ some w.heap.size := own_blk_ne SR.out.ow SR.out.k0 (by decide)
      have hbel := SR.out.bel
      refine bodyPost_ret (v := .agg #[.slice (some ⟨w.heap.size + 1, 0, none⟩) 0 0, .slice (some ⟨g, 0, none⟩) 5 c, .slice (some ⟨w.heap.size + 1 + 1, 0, none⟩) 0 0, .slice (some ⟨w.heap.size + 1 + 1 + 1, 0, none⟩) 0 0, .slice (some ⟨w.heap.size + 1 + 1 + 1 + 1, 0, none⟩) 0 0]) (by simp [results, Try.results7, go_sem, k0]) rfl ⟨_, _, _, _, g, c, rfl, ⟨xs, ?_, SR.out.gr⟩, ?_⟩
      · repeat (first | with_reducible refine ownsRow_setCell_other ?_ hn0 _)
        exact SR.out.ow
      · (repeat (first | with_reducible exact hbel | with_reducible refine Below.setCell ?_ (by first | omega | (simp; done) | (simp; omega)) _))

end Go.Proofs.Ytjklkppncmhehaa

namespace Go.Proofs.Ytjklkppncmhehaa
open Go Go.RowKit

set_option maxRecDepth 100000 in
theorem sameEntries_nil (A A' : Option Addr) (w : World) : Calls Tw.prog 56 #[.slice A 0 0, .slice A' 0 0] w fun e w' => e = .returned (.bool true) ∧ w' = w := by
  go_enter Tw.func56, Try.ntmps56
  go_wp2
  go_loop [5] (fun i => i = .int .i64 0) (fun _ => 0)
  case atStart => rfl
  case round =>
    subst hrel
    go_wp2
    go_ret
    exact ⟨rfl, rfl⟩
set_option maxRecDepth 100000 in
theorem sameBools_nil (A A' : Option Addr) (w : World) : Calls Tw.prog 17 #[.slice A 0 0, .slice A' 0 0] w fun e w' => e = .returned (.bool true) ∧ w' = w := by
  go_enter Tw.func17, Try.ntmps17
  go_wp2
  go_loop [5] (fun i => i = .int .i64 0) (fun _ => 0)
  case atStart => rfl
  case round =>
    subst hrel
    go_wp2
    go_ret
    exact ⟨rfl, rfl⟩
set_option maxRecDepth 100000 in
theorem sameSets_nil (A A' : Option Addr) (w : World) : Calls Tw.prog 15 #[.slice A 0 0, .slice A' 0 0] w fun e w' => e = .returned (.bool true) ∧ w' = w := by
  go_enter Tw.func15, Try.ntmps15
  go_wp2
  go_loop [5] (fun i => i = .int .i64 0) (fun _ => 0)
  case atStart => rfl
  case round =>
    subst hrel
    go_wp2
    go_ret
    exact ⟨rfl, rfl⟩
set_option maxRecDepth 100000 in
theorem sameGroup_nil (i : Int) (A0 A1 A2 A3 : Option Addr) (w : World) : Calls Tw.prog 35 #[.agg #[.int .i64 i, .int .i64 0, .slice A0 0 0, .slice A1 0 0], .agg #[.int .i64 i, .int .i64 0, .slice A2 0 0, .slice A3 0 0]] w fun e w' => e = .returned (.bool true) ∧ Below w.heap.size w w' := by
  go_enter Tw.func35, Try.ntmps35
  go_wp2_with (go_at_call 56; refine (sameEntries_nil _ _ _).mono ?_; rintro e w' ⟨rfl, hw⟩; subst w')
  go_ret
  exact ⟨rfl, ((Below.refl _ _).alloc (Nat.le_refl _) _).alloc (by simp) _⟩

/-- Five groups without entries, in memory of the call's own. -/
def G5 (w : World) (g c : Nat) : Prop := GRow w 0 g c 5 (fun i => (i : Int)) (fun _ => 0)
set_option maxRecDepth 100000 in
set_option maxHeartbeats 1000000 in
theorem sameGroups_nil (g c g' c' : Nat) (w : World) (h : G5 w g c) (h' : G5 w g' c') : Calls Tw.prog 16 #[.slice (some ⟨g, 0, none⟩) 5 c, .slice (some ⟨g', 0, none⟩) 5 c'] w fun e w' => e = .returned (.bool true) ∧ Below w.heap.size w w' := by
  have H := Lib.hid h
  have H' := Lib.hid h'
  clear h h'
  go_enter Tw.func16, Try.ntmps16
  go_wp2
  go_loopw [5] (fun i wr => ∃ k : Nat, k ≤ 5 ∧ i = .int .i64 k ∧ Below w.heap.size w wr) (fun i _ => 5 - (intOf i).toNat)
  case atStart => exact ⟨0, by omega, rfl, Below.refl _ _⟩
  case round =>
    obtain ⟨k, hk, rfl, hb⟩ := hrel
    have HB := Lib.hid hb
    have hsz := hb.size
    clear hb
    by_cases hlt : k < 5
    · obtain ⟨x0, x1, A, A', x2, x3⟩ := (H.out.below HB.out).at_ hlt
      obtain ⟨y0, y1, C, C', y2, y3⟩ := (H'.out.below HB.out).at_ hlt
      have k0 : (0 : Int) ≤ (k : Int) := by omega
      have k5 : (k : Int) < 5 := by omega
      go_wp2_with (fail)
      go_region_with (
        (go_at_call 35
         refine (sameGroup_nil _ _ _ _ _ _).mono ?_
         rintro e' w1 ⟨rfl, hb1⟩
         have HB1 := Lib.hid hb1
         clear hb1))
      all_goals
        go_wp2
        exact ⟨⟨k + 1, by omega, by go_num, HB.out.trans ((Below.refl _ _).drew.trans (HB1.out.mono hsz))⟩, by simp [intOf]; omega⟩
    · obtain rfl : k = 5 := by omega
      rw [show ((5 : Nat) : Int) = 5 from rfl]
      go_wp2
      go_ret
      exact ⟨rfl, HB.out⟩

set_option maxRecDepth 100000 in
set_option maxHeartbeats 2000000 in
theorem sameWorld_nil (A0 A2 A3 A4 A0' A2' A3' A4' : Option Addr) (g c g' c' : Nat) (w : World) (h : G5 w g c) (h' : G5 w g' c') :
    Calls Tw.prog 6 #[.agg #[.slice A0 0 0, .slice (some ⟨g, 0, none⟩) 5 c, .slice A2 0 0, .slice A3 0 0, .slice A4 0 0], .agg #[.slice A0' 0 0, .slice (some ⟨g', 0, none⟩) 5 c', .slice A2' 0 0, .slice A3' 0 0, .slice A4' 0 0]] w
      fun e w' => e = .returned (.bool true) ∧ Below w.heap.size w w' := by
  have H := Lib.hid h
  have H' := Lib.hid h'
  clear h h'
  go_enter Tw.func6, Try.ntmps6
  go_wp2_with (first
    | (go_at_call 15
       refine (sameSets_nil _ _ _).mono ?_; rintro e' w1 ⟨rfl, hw⟩; subst w1)
    | (go_at_call 17
       refine (sameBools_nil _ _ _).mono ?_; rintro e' w1 ⟨rfl, hw⟩; subst w1)
    | (go_at_call 16
       have hb0 : Below w.heap.size w ((w.alloc (.cells #[.slice A0 0 0, .slice (some ⟨g, 0, none⟩) 5 c, .slice A2 0 0, .slice A3 0 0, .slice A4 0 0] 29)).alloc (.cells #[.slice A0' 0 0, .slice (some ⟨g', 0, none⟩) 5 c', .slice A2' 0 0, .slice A3' 0 0, .slice A4' 0 0] 29)) := ((Below.refl _ _).alloc (Nat.le_refl _) _).alloc (by simp) _
       refine (sameGroups_nil g c g' c' _ (H.out.below hb0) (H'.out.below hb0)).mono ?_
       rintro e' w2 ⟨rfl, hb2⟩
       have K0 := Lib.hid (Blk.below ((Blk.new w 29 #[.slice A0 0 0, .slice (some ⟨g, 0, none⟩) 5 c, .slice A2 0 0, .slice A3 0 0, .slice A4 0 0]).alloc (.cells #[.slice A0' 0 0, .slice (some ⟨g', 0, none⟩) 5 c', .slice A2' 0 0, .slice A3' 0 0, .slice A4' 0 0] 29)) hb2 (by simp; omega))
       have K1 := Lib.hid (Blk.below (Blk.new' (g := w.heap.size + 1) (w.alloc (.cells #[.slice A0 0 0, .slice (some ⟨g, 0, none⟩) 5 c, .slice A2 0 0, .slice A3 0 0, .slice A4 0 0] 29)) 29 #[.slice A0' 0 0, .slice (some ⟨g', 0, none⟩) 5 c', .slice A2' 0 0, .slice A3' 0 0, .slice A4' 0 0] (by simp)) hb2 (by simp))
       have x0 := K0.out.cell
       have x1 := K1.out.cell
       have HB2 : Hid (Below w.heap.size w w2) := Lib.hid (hb0.trans (hb2.mono hb0.size))
       clear hb2 hb0))
  go_loop [5] (fun i => i = .int .i64 0) (fun _ => 0)
  case atStart => rfl
  case round =>
    subst hrel
    go_wp2
    go_loop [6] (fun i => i = .int .i64 0) (fun _ => 0)
    case atStart => rfl
    case round =>
      subst hrel
      go_wp2
      go_ret
      exact ⟨rfl, HB2.out⟩
end Go.Proofs.Ytjklkppncmhehaa

namespace Go.Proofs.Ytjklkppncmhehaa
open Go Go.RowKit

theorem G5.nil5 {w : World} {g c : Nat} (h : G5 w g c) : Nil5 w ⟨g, 0, none⟩ := by
  intro i hi
  obtain ⟨x0, x1, A, A', x2, x3⟩ := GRow.at_ h hi
  have e : (⟨g, 0, none⟩ : Addr).add (i * 4) = ⟨g, i * 4, none⟩ := by rw [Addr.add_lit, Nat.zero_add]
  rw [e]
  exact ⟨x0, x1, ⟨A, x2⟩, A', x3⟩

set_option maxRecDepth 100000 in
set_option maxHeartbeats 1000000 in
theorem validMessages_nil (A0 A2 A3 A4 : Option Addr) (x : Value) (w : World) :
    Calls Tw.prog 20 #[.agg #[.slice A0 0 0, x, .slice A2 0 0, .slice A3 0 0, .slice A4 0 0]] w fun e w' => e = .returned (.bool true) ∧ Below w.heap.size w w' := by
  go_enter Tw.func20, Try.ntmps20
  go_wp2_with (fail)
  go_loop [33] (fun i => i = .int .i64 0) (fun _ => 0)
  case atStart => rfl
  case round =>
    subst hrel
    go_wp2
    go_ret
    exact ⟨rfl, (Below.refl _ _).alloc (Nat.le_refl _) _⟩

set_option maxRecDepth 100000 in
set_option maxHeartbeats 2000000 in
theorem validGroups_nil (A0 A2 A3 A4 : Option Addr) (g c : Nat) (w : World) (h : G5 w g c) :
    Calls Tw.prog 21 #[.agg #[.slice A0 0 0, .slice (some ⟨g, 0, none⟩) 5 c, .slice A2 0 0, .slice A3 0 0, .slice A4 0 0]] w fun e w' => e = .returned (.bool true) ∧ Below w.heap.size w w' := by
  obtain ⟨i0, hi0, hz0, hz1, hz2⟩ := info_parts ent_info
  have H := Lib.hid h
  clear h
  go_enter Tw.func21, Try.ntmps21
  go_wp2_with (fail)
  go_loopw [10] (fun i wr => ∃ k : Nat, k ≤ 5 ∧ i = .int .i64 k ∧ Below w.heap.size w wr) (fun i _ => 5 - (intOf i).toNat)
  case atStart => exact ⟨0, by omega, rfl, (Below.refl _ _).alloc (Nat.le_refl _) _⟩
  case round =>
    obtain ⟨k, hk, rfl, hb⟩ := hrel
    have HB := Lib.hid hb
    have hsz := hb.size
    clear hb
    by_cases hlt : k < 5
    · obtain ⟨x0, x1, A, A', x2, x3⟩ := (H.out.below HB.out).at_ hlt
      have k0 : (0 : Int) ≤ (k : Int) := by omega
      have k5 : (k : Int) < 5 := by omega
      have lg := (H.out.below HB.out).lt.2
      go_wp2_with (fail)
      have K2 := Lib.hid (Blk.new wr 44 #[.int .i64 (k : Int), .int .i64 0, .slice A 0 0, .slice A' 0 0])
      have HB2 : Hid (Below w.heap.size w (wr.alloc (.cells #[.int .i64 (k : Int), .int .i64 0, .slice A 0 0, .slice A' 0 0] 44))) := Lib.hid (HB.out.alloc hsz _)
      go_region_law (first
        | (refine step_append_any _ rfl (.tmp 16) (.tmp 18) _ rfl _ 39 i0 _ 4 32 Tw.underlying42 hi0 hz0 (by assumption) hz2 rfl (by omega) (.slice A3 0 c3) 0 [] rfl
             HO3.out 0 A' 0 0 [] rfl (rdE_nil _ _ _).1 (by simp) (by unfold maxLen; omega) (by omega) (Nat.le_trans (by simp) HB3.out.size) ?_
           intro v4 w4 hown4 hg4 hat4
           obtain ⟨A4, c4, rfl⟩ := own_slice hown4
           have HB4 : Hid (Below (wr.heap.size + 1) (wr.alloc (.cells #[.int .i64 (k : Int), .int .i64 0, .slice A 0 0, .slice A' 0 0] 44)) w4) := Lib.hid (Below.grown HB3.out hg4 (Nat.le_trans (by simp) HB3.out.size) (fun k hk => (World.ownsRow.lt HO3.out k hk).1))
           clear hown4 hg4 hat4)
        | (go_simp
           go_at_call 42
           refine (cloneE_any A 0 0 0 [] _ (rdE_nil _ _ _).1 (Nat.zero_le _) (by omega)).mono ?_
           rintro e' w3 ⟨⟨A3, n3, c3, rfl, hown3⟩, hb3⟩
           obtain rfl : n3 = 0 := by have := hown3.1; simp [entsC] at this; omega
           have HB3 : Hid (Below (wr.heap.size + 1) (wr.alloc (.cells #[.int .i64 (k : Int), .int .i64 0, .slice A 0 0, .slice A' 0 0] 44)) w3) := Lib.hid (by exact (Below.drew (Below.refl _ _)).trans (hb3.mono (by simp [World.drew])))
           have HO3 : Hid (w3.ownsRow (wr.heap.size + 1) 39 4 (.slice A3 0 c3) 0 []) := Lib.hid (by exact own_mono hown3 (by simp [World.drew]))
           have K3 := Lib.hid (K2.out.below HB3.out (by omega))
           have y3 := K3.out.cell
           clear hown3 hb3))
      all_goals
        go_wp2
        simp only [List.getElem_toArray, List.getElem_cons_succ, List.getElem_cons_zero, Act.put, List.setIfInBounds_toArray, List.set_cons_succ, List.set_cons_zero]
        go_loop [21] (fun i => i = .int .i64 0) (fun _ => 0)
        case atStart => rfl
        case round =>
          subst hrel
          go_wp2
          exact ⟨⟨k + 1, by omega, by go_num, HB2.out.trans (HB4.out.mono (by omega))⟩, by simp [intOf]; omega⟩
    · obtain rfl : k = 5 := by omega
      rw [show ((5 : Nat) : Int) = 5 from rfl]
      go_wp2
      go_ret
      exact ⟨rfl, HB.out⟩

set_option maxRecDepth 100000 in
set_option maxHeartbeats 2000000 in
theorem worldValid_nil (A0 A2 A3 A4 : Option Addr) (g c : Nat) (w : World) (h : G5 w g c) :
    Calls Tw.prog 8 #[.agg #[.slice A0 0 0, .slice (some ⟨g, 0, none⟩) 5 c, .slice A2 0 0, .slice A3 0 0, .slice A4 0 0]] w (TrueR w) := by
  have H := Lib.hid h
  have hgl := h.lt.2
  have hcc := h.caps
  clear h
  go_enter Tw.func8, Try.ntmps8
  go_wp2_with (fail)
  have hb0 : Below w.heap.size w (w.alloc (.cells #[.slice A0 0 0, .slice (some ⟨g, 0, none⟩) 5 c, .slice A2 0 0, .slice A3 0 0, .slice A4 0 0] 29)) := (Below.refl _ _).alloc (Nat.le_refl _) _
  refine (systemValid_nil ⟨g, 0, none⟩ c _ ((G5.nil5 H.out).below hb0 hgl) (by simp; omega) hcc).mono ?_
  rintro e w1 (⟨rfl, hb1⟩ | ⟨us, rfl, hok⟩)
  · have K1 := Lib.hid (blk_cell (Blk.new w 29 #[.slice A0 0 0, .slice (some ⟨g, 0, none⟩) 5 c, .slice A2 0 0, .slice A3 0 0, .slice A4 0 0]) hb1)
    have HB1 : Hid (Below w.heap.size w w1) := Lib.hid (hb0.trans (hb1.mono hb0.size))
    have x1 := K1.out.cell
    clear hb0 hb1
    go_wp2_with (fail)
    refine (validMessages_nil _ _ _ _ _ _).mono ?_
    rintro e w2 ⟨rfl, hb2⟩
    have K2 := Lib.hid (blk_cell K1.out hb2)
    have HB2 : Hid (Below w.heap.size w w2) := Lib.hid (HB1.out.trans (hb2.mono HB1.out.size))
    have x2 := K2.out.cell
    clear hb2 x1
    go_wp2_with (fail)
    refine (validGroups_nil _ _ _ _ g c _ (H.out.below HB2.out)).mono ?_
    rintro e w3 ⟨rfl, hb3⟩
    have K3 := Lib.hid (blk_cell K2.out hb3)
    have HB3 : Hid (Below w.heap.size w w3) := Lib.hid (HB2.out.trans (hb3.mono HB2.out.size))
    have x3 := K3.out.cell
    clear hb3 x2
    go_wp2_with (fail)
    go_loop [28] (fun i => i = .int .i64 0) (fun _ => 0)
    case atStart => rfl
    case round =>
      subst hrel
      go_wp2
      go_ret
      exact Or.inl ⟨rfl, HB3.out⟩
  · exact ⟨rfl, Or.inr ⟨_, rfl, hok⟩⟩
end Go.Proofs.Ytjklkppncmhehaa
