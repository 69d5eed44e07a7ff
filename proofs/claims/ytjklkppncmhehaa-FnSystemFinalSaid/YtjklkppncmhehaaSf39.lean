/-
What is proved: what impl.entriesOf does to trees, over the second program: it leaves the answers, or escapes. No condition but the ranges that it states. what the program's check of a system does to trees, over the second program: it answers as the reference's, or escapes. No condition but the lengths that each states. a function that only reads may as well be given the caller's own rows, and leaves them ('TC.lend'); how a walk goes on at a call that takes one box of the caller's ('atCall.rd'), or some blocks ('atCall.lend'). No condition. what the reference's functions of rounds do to trees. No condition but the lengths and ranges that each states.
-/
import Derived.Test.YtjklkppncmhehaaSf37
import Derived.Test.YtjklkppncmhehaaSf38
import Derived.Test.YtjklkppncmhehaaSf33
import Derived.Test.YtjklkppncmhehaaSf35
set_option linter.unusedVariables false
set_option linter.unusedSimpArgs false
namespace Go.Proofs.Ytjklkppncmhehaa.T
open Go Go.RowKit
def escE (ch : List PanicEntry) (w : World) : Prop := Sr.Esc (.panicked ch) w
/-- No element is without cells. -/
inductive Solid : RT → Prop
  | v (x : Value) : Solid (.v x)
  | nil : Solid .nil
  | sl {k : Nat} {xs : List (List RT)} (h0 : 0 < k) (h : ∀ (i : Nat) (e : List RT), xs[i]? = some e → ∀ (j : Nat) (r : RT), e[j]? = some r → Solid r) : Solid (.sl k xs)
theorem RRep.into {w u : World} {D : Nat → Prop} (hc : ∀ q : Addr, D q.block → u.cell? q = w.cell? q) {v : Value} {t : RT} (h : RRep w D v t) : Solid t → RRep u (fun b => b < u.heap.size) v t := by
  induction h with
  | v h => exact fun _ => .v h
  | nil => exact fun _ => .nil
  | sl0 hm => exact fun _ => .sl0 hm
  | @sl b o c k xs vs hc' hm hDb hk' hv _ ih =>
    intro hs
    cases hs with
    | sl h0 hs =>
    rcases xs with _ | ⟨e, xs⟩
    · exact .sl0 hm
    · have hk0 := hk' 0 e rfl
      obtain ⟨r, hr⟩ : ∃ r, e[0]? = some r := ⟨_, List.getElem?_eq_getElem (by omega)⟩
      refine .sl vs hc' hm ?_ hk' (fun i e he j r hr => (hc _ hDb).trans (hv i e he j r hr)) fun i e he j r hr => ih i e he j r hr (hs i e he j r hr)
      exact World.block_lt_of_cell? u _ ((hc _ hDb).trans (hv 0 e rfl 0 r hr))
theorem sys_solid (gs : List GrpD) : Solid (sysT gs) := by
  refine .sl (by omega) fun i e he j r hr => ?_
  rw [List.getElem?_map, Option.map_eq_some_iff] at he; obtain ⟨g, _, rfl⟩ := he; have hE : ∀ es : List EntD, Solid (entsT es) := fun es => by
    refine .sl (by omega) fun i e he j r hr => ?_
    rw [List.getElem?_map, Option.map_eq_some_iff] at he; obtain ⟨x, _, rfl⟩ := he; rcases j with _ | _ | _ | _ | j <;> simp [entT] at hr <;> subst hr <;> exact .v _
  rcases j with _ | _ | _ | _ | j <;> simp [grpT] at hr <;> subst hr
  · exact .v _
  · exact .v _
  · exact hE _
  · exact hE _
theorem rI_val {w : World} {D : Nat → Prop} {v : Value} {n : Int} (h : RRep w D v (rI n)) : v = .int .i64 n := by cases h; rfl
theorem rB_val {w : World} {D : Nat → Prop} {v : Value} {b : Bool} (h : RRep w D v (rB b)) : v = .bool b := by cases h; rfl
def ansV (g : GrpD) (m : Int) : Sr.AnsV := ⟨(vsD g m).m, (vsD g m).t, (vsD g m).g, (vsD g m).f, vsB g m⟩
theorem ansT_val {ρ : Nat → Option Value} {w : World} {D : Nat → Prop} {v : Value} {g : GrpD} {m : Int} (h : GRep ρ w D v (.a ((ansT g m).map .r))) : v = (ansV g m).val := by
  cases h with
  | @a arr _ hn h =>
    have hl : arr.size = 5 := by simpa [ansT] using hn
    have r : ∀ (i : Nat) (t : RT), (ansT g m)[i]? = some t → RRep w D (arr.getD i undef) t := fun i t ht => by
      have := h i (.r t) (by rw [List.getElem?_map, ht]; rfl)
      generalize arr.getD i undef = z at this
      cases this with | r h => exact h
    have h0 := rI_val (r 0 _ rfl); have h1 := rI_val (r 1 _ rfl); have h2 := rI_val (r 2 _ rfl); have h3 := rB_val (r 3 _ rfl); have h4 := rB_val (r 4 _ rfl); show Value.agg arr = .agg #[.int .i64 (vsD g m).m, .int .i64 (vsD g m).t, .int .i64 (vsD g m).g, .bool (vsD g m).f, .bool (vsB g m)]
    congr 1
    rcases arr with ⟨l⟩; rcases l with _ | ⟨x0, _ | ⟨x1, _ | ⟨x2, _ | ⟨x3, _ | ⟨x4, _ | ⟨x5, l⟩⟩⟩⟩⟩⟩ <;> simp at hl
    simp at h0 h1 h2 h3 h4
    subst h0 h1 h2 h3 h4; rfl
abbrev answersT (gs : List GrpD) (m : Int) (set : List Int) : List (List RT) := set.map fun x => ansT (gAt gs x.toNat) m
set_option maxRecDepth 100000 in
theorem entriesOf_T (gs : List GrpD) (set : List Int) (m : Int) (h : sysLe gs 4294967290) (hg : gs.length = 5) (hn : set ≠ []) (h5 : set.length ≤ 5) (hr : rangeOk set) :
    TC Tw.prog escE 51 [gR (sysT gs), gR (intsT set), gI .i64 m] 0 [] (.s (.own 0)) [(0, .rows 91 5 (answersT gs m set))] := by
  refine ⟨Ent.of Tw.funcAsk rfl (by kernel_rfl), fun w vals ρ D hv ha hD _ _ _ => ?_⟩
  have r0 := ha 0 _ rfl; have r1 := ha 1 _ rfl; have r2 := ha 2 _ rfl; rcases vals with ⟨l⟩; rcases l with _ | ⟨x0, _ | ⟨x1, _ | ⟨x2, _ | ⟨x3, l⟩⟩⟩⟩ <;> simp at hv
  simp only [Array.getD_eq_getD_getElem?, List.getElem?_toArray, List.getElem?_cons_zero, List.getElem?_cons_succ, Option.getD_some] at r0 r1 r2; have r2 := gI_rep r2; subst r2
  cases r0 with | s r0 => cases r0 with | r r0 =>
  cases r1 with | s r1 => cases r1 with | r r1 =>
  obtain ⟨A, gc, rfl, g1, g2, gRow, gD⟩ := r0.slice; obtain ⟨A', sc, rfl, s1, s2, sRow, sD⟩ := r1.slice; have hpos : 0 < set.length := List.length_pos_iff.2 hn
  obtain ⟨-, gb, go, rfl, -⟩ := gRow 0 (grpT (gAt gs 0)) (by rw [List.getElem?_map, gAt_some (by omega)]; rfl)
  obtain ⟨-, sb, so, rfl, -⟩ := sRow 0 [rI set[0]] (by rw [List.getElem?_map, List.getElem?_eq_getElem hpos]; rfl)
  have hset : ∀ i, i < set.length → w.cell? ⟨sb, so + i, none⟩ = some (.int .i64 (set.getD i 0)) := fun i hi => by
    obtain ⟨-, b, o, e, hh⟩ := sRow i [rI (set.getD i 0)] (by rw [List.getElem?_map, List.getElem?_eq_getElem hi, List.getD_eq_getElem?_getD, List.getElem?_eq_getElem hi]; rfl)
    cases e; obtain ⟨v, hv, hr⟩ := hh 0 _ rfl; rw [rI_val hr] at hv; simpa using hv
  have hmem : ∀ i, i < set.length → 0 ≤ set.getD i 0 ∧ set.getD i 0 < gs.length := fun i hi => by
    rw [List.getD_eq_getElem?_getD, List.getElem?_eq_getElem hi]; have := hr _ (List.getElem_mem hi)
    exact ⟨this.1, by rw [hg]; exact this.2⟩
  have hask : AskH ⟨gb, go, none⟩ gs.length gc sb so set.length m (fun i => set.getD i 0) (fun i => ansV (gAt gs (set.getD i 0).toNat) m) w := by
    refine ⟨hpos, h5, hset, fun i hi u pb mb hu hp hm => ?_⟩
    have hT := (question_T (E := fun _ _ => False) gs (set.getD i 0) m h (hmem i hi).1 (hmem i hi).2).2
    have hpl : pb < u.heap.size := World.block_lt_of_cell? u _ hp
    have hml : mb < u.heap.size := World.block_lt_of_cell? u _ hm
    have hsys : RRep u (fun b => b < u.heap.size) (.slice (some ⟨gb, go, none⟩) gs.length gc) (sysT gs) := RRep.into (fun q hq => hu q (hD _ hq)) (by simpa using r0) (sys_solid gs)
    refine (hT u #[.int .i64 (set.getD i 0), .pointer (some ⟨pb, 0, none⟩), .pointer (some ⟨mb, 0, none⟩)] (fun _ => none) (fun b => b < u.heap.size) rfl (fun j g hj => ?_) (fun k hk => hk) (fun b y h => by cases h) (fun b y g h => by cases h) (fun b y b' y' g h => by cases h)).mono ?_
    · rcases j with _ | _ | _ | j
      · cases hj; exact .s (.r (.v rfl))
      · cases hj
        refine .s (.rop (o := 0) (off := 0) (fun _ => .slice (some ⟨gb, go, none⟩) gs.length gc) hpl (fun j r hj => ?_) fun j r hj => ?_)
        · rcases j with _ | j
          · exact hp
          · simp at hj
        · rcases j with _ | j
          · cases hj; exact hsys
          · simp at hj
      · cases hj
        refine .s (.rop (o := 0) (off := 0) (fun _ => .int .i64 m) hml (fun j r hj => ?_) fun j r hj => ?_)
        · rcases j with _ | j
          · exact hm
          · simp at hj
        · rcases j with _ | j
          · cases hj; exact .v rfl
          · simp at hj
      · simp at hj
    · rintro e w' (⟨ch, _, hE⟩ | ⟨v, ρ', D', rfl, hv, hP⟩)
      · exact hE.elim
      · refine ⟨by rw [ansT_val hv], hP.os, hP.tape, hP.output, hP.size, fun k hk => hP.old k hk fun ⟨b, y, h, _⟩ => by cases h⟩
  simp only [List.length_map]; refine (ask_any ⟨gb, go, none⟩ gs.length gc sb so set.length sc m _ _ w hask).mono ?_; rintro e w' (⟨⟨B, rfl, hB, ⟨cs, hcs, hsz, hcell⟩, -, -⟩, hb⟩ | hE)
  · right
    have hlt : B < w'.heap.size := (Array.getElem?_eq_some_iff.1 hcs).1
    refine ⟨_, fun b => if b = 0 then some (.slice (some ⟨B, 0, none⟩) set.length set.length) else none, D, rfl, .s (.own rfl), ⟨hb.os, hb.tape, hb.output, hb.size, fun k hk _ => hb.block k hk, fun k hk => ⟨Nat.lt_of_lt_of_le (hD k hk) hb.size, .inl hk⟩, fun b y hy => ?_, fun b y g hy hl hg => ?_, fun b y b' y' g hy hl hy' hl' _ _ => ?_, fun b hb => by omega, fun b _ hn => ?_⟩⟩
    · simp only [gt] at hy
      split at hy
      · rename_i e0
        cases hy; subst e0; refine ⟨some ⟨B, 0, none⟩, set.length, by simp, by simp, by simp only [maxLen]; omega, by omega, fun i y hy => ?_, .inr ⟨B, cs, rfl, hcs, by rw [hsz, Nat.mul_comm], fun i y hy j r hr => ?_⟩⟩
        · rw [List.getElem?_map, Option.map_eq_some_iff] at hy
          obtain ⟨x, _, rfl⟩ := hy; rfl
        · rw [List.getElem?_map, Option.map_eq_some_iff] at hy
          obtain ⟨x, hx, rfl⟩ := hy; have hi := (List.getElem?_eq_some_iff.1 hx).1; have hj : j < 5 := (List.getElem?_eq_some_iff.1 hr).1
          have hc := hcell i j hi hj; have hx' : set.getD i 0 = x := by rw [List.getD_eq_getElem?_getD, hx]; rfl
          simp only [hx'] at hc; rw [Array.getD_eq_getD_getElem?, show i * 5 + j = 5 * i + j by omega, hc]
          rcases j with _ | _ | _ | _ | _ | j
          · cases hr; exact .v rfl
          · cases hr; exact .v rfl
          · cases hr; exact .v rfl
          · cases hr; exact .v rfl
          · cases hr; exact .v rfl
          · omega
      · cases hy
    · simp only [gt] at hy
      split at hy
      · rename_i e0
        subst e0; simp only [if_true, blkOf, Option.some.injEq] at hg; subst hg; exact ⟨fun hd => by have := hD _ hd; omega, .inr hB⟩
      · cases hy
    · simp only [gt] at hy hy'
      split at hy
      · split at hy'
        · omega
        · cases hy'
      · cases hy
    · simp only [gt] at hn
      split at hn
      · cases hn
      · rename_i e0; rw [if_neg e0]
  · left
    obtain ⟨us, rfl, hus⟩ := hE; exact ⟨_, rfl, us, rfl, hus⟩
end Go.Proofs.Ytjklkppncmhehaa.T
namespace Go.Proofs.Ytjklkppncmhehaa.T
open Go Go.RowKit
set_option maxRecDepth 100000
set_option maxHeartbeats 4000000
variable {E : List PanicEntry → World → Prop}
def upto (k : Nat) : List Int := (List.range k).map fun (i : Nat) => (i : Int)
theorem upto_succ (k : Nat) : upto (k + 1) = upto k ++ [(k : Int)] := by simp [upto, List.range_succ]
theorem upto_len (k : Nat) : (upto k).length = k := by simp [upto]
theorem pick_group_T : TC Tw.prog E 60 [.clo (.func 33) [] []] 0 [] (gR (intsT (upto 5))) [] := by
  refine TC.enter Tw.func60 rfl (by kernel_rfl) Tw.ntmps60 (by rw [Try.results60]) (by simp) (Fits.nil rfl) ?_
  (repeat' first | refine TW.seq ?_ | refine TW.block ?_ | ((first | refine TW.skip ?_ | refine TW.exit ?_ | refine TW.ret ?_); (try simp only [tQ, bQ, if_true, Nat.reduceEqDiff, reduceIte])) | (refine TW.reg Td.mixed rfl fun C K hC hK => ?_; simp; (repeat' first | refine And.intro ?_ ?_ | intro _ | refine iteI ?_ ?_ | (show (_ : Bool) = true; kernel_rfl) | (show _ ≤ _; first | omega | (simp; done) | (simp; omega)) | exact Or.inl rfl | (show _ < _; omega)); all_goals (refine hK _ ?_; clear hC hK C K; try simp only [tQ, bQ])) | (refine TW.cond rfl ?_ ?_ <;> intro hc <;> (try (cases hc; done))))
  refine TW.loop (fun (k : Nat) => ⟨[(0, .clo (.func 33) [] []), (3, .s (.own 0)), (6, gI .i64 (k : Nat))], [(0, intsB (upto k))], 1⟩) (fun k => k ≤ 5) (fun k => 5 - k) 0 (by omega)
    (Wk.own [0] [] (by simp) (by simp) (by simp [upto]) (by simp) (by simp)) fun k hk => ?_
  by_cases hlt : k < 5
  · have hltI : (k : Int) < 5 := by omega
    have hg : isGrpB (k : Int) = true := by simp [isGrpB]; omega
    have hw1 : IntKind.i64.wrap ((k : Int) + 1) = (k : Int) + 1 := wrap_ok (by omega) (by omega)
    have hl := upto_len k; (repeat' first | refine TW.seq ?_ | refine TW.block ?_ | ((first | refine TW.skip ?_ | refine TW.exit ?_ | refine TW.ret ?_); (try simp only [tQ, bQ, if_true, Nat.reduceEqDiff, reduceIte])) | (refine TW.reg Td.mixed rfl fun C K hC hK => ?_; simp [hltI, hg, hw1, maxLen]; (repeat' first | refine And.intro ?_ ?_ | intro _ | refine iteI ?_ ?_ | (show (_ : Bool) = true; kernel_rfl) | (show _ ≤ _; first | omega | (simp; done) | (simp; omega)) | exact Or.inl rfl | (show _ < _; omega) | ((first | refine hC _ _ _ _ _ rfl (aC.plain rfl rfl (by simp; rfl) (by exact isGroup_T _) (by simp) (by simp) ?_)); simp [hltI, hg, hw1, maxLen])); all_goals (refine hK _ ?_; clear hC hK C K; try simp only [tQ, bQ])) | (refine TW.cond rfl ?_ ?_ <;> intro hc <;> (try (cases hc; done))))
    exact ⟨k + 1, by omega, by omega, Wk.own [2] [] (by simp) (by simp) (by simp [upto_succ]) (by simp) (by simp)⟩
  · obtain rfl : k = 5 := by omega
    (repeat' first | refine TW.seq ?_ | refine TW.block ?_ | ((first | refine TW.skip ?_ | refine TW.exit ?_ | refine TW.ret ?_); (try simp only [tQ, bQ, if_true, Nat.reduceEqDiff, reduceIte])) | (refine TW.reg Td.mixed rfl fun C K hC hK => ?_; simp; (repeat' first | refine And.intro ?_ ?_ | intro _ | refine iteI ?_ ?_ | (show (_ : Bool) = true; kernel_rfl) | (show _ ≤ _; first | omega | (simp; done) | (simp; omega)) | exact Or.inl rfl | (show _ < _; omega)); all_goals (refine hK _ ?_; clear hC hK C K; try simp only [tQ, bQ])) | (refine TW.cond rfl ?_ ?_ <;> intro hc <;> (try (cases hc; done))))
    refine Rets.own [] [0] (by simp; rfl) (by simp) (by simp) (by simp) (by simp) (by simp)
theorem allGroups_T : TC Tw.prog E 52 [] 0 [] (gR (intsT (upto 5))) [] := by
  refine TC.enter Tw.func52 rfl (by kernel_rfl) Tw.ntmps52 (by rw [Try.results52]) (by simp) (Fits.nil rfl) ?_
  (repeat' first | refine TW.seq ?_ | refine TW.block ?_ | ((first | refine TW.skip ?_ | refine TW.exit ?_ | refine TW.ret ?_); (try simp only [tQ, bQ, if_true, Nat.reduceEqDiff, reduceIte])) | (refine TW.reg Td.mixed rfl fun C K hC hK => ?_; simp; (repeat' first | refine And.intro ?_ ?_ | intro _ | refine iteI ?_ ?_ | (show (_ : Bool) = true; kernel_rfl) | (show _ ≤ _; first | omega | (simp; done) | (simp; omega)) | exact Or.inl rfl | (show _ < _; omega) | ((first | refine hC _ _ _ _ _ rfl (aC.plain rfl rfl (by simp; rfl) (by exact pick_group_T) (by simp) (by simp) ?_)); simp)); all_goals (refine hK _ ?_; clear hC hK C K; try simp only [tQ, bQ])) | (refine TW.cond rfl ?_ ?_ <;> intro hc <;> (try (cases hc; done))))
  refine Rets.own [] [] (by simp; rfl) (by simp) (by simp) (by simp) (by simp) (by simp)
def cpB (a b : GrpD) (m : Int) : Bool :=
  !(vsB a m && (vsD a m).f) || !(vsB b m && (lessB (vsD a m).t (vsD a m).g (vsD b m).t (vsD b m).g || (vsD b m).f && !(decide ((vsD a m).t = (vsD b m).t) && decide ((vsD a m).g = (vsD b m).g))))
def crB (gs : List GrpD) (m : Int) (i : Nat) : Bool := allB 5 fun k => cpB (gAt gs i) (gAt gs k) m
def consB (gs : List GrpD) (m : Int) : Bool := allB 5 (crB gs m)
theorem ans_get (gs : List GrpD) (m : Int) {k : Nat} (h : k < 5) : (answersT gs m (upto 5))[k]? = some (ansT (gAt gs k) m) := by
  rw [List.getElem?_map, upto, List.getElem?_map, List.getElem?_range h]; rfl
theorem consistent_T (gs : List GrpD) (m : Int) (h : sysLe gs 4294967290) (h5 : gs.length = 5) : TC Tw.prog escE 26 [gR (sysT gs), gI .i64 m] 0 [] (gB (consB gs m)) [] := by
  have hE := entriesOf_T gs (upto 5) m h h5 (by decide) (by decide) (fun g hg => by simp [upto, List.range_succ] at hg; omega)
  have hal : (answersT gs m (upto 5)).length = 5 := by simp [upto]
  have hget := fun k h => ans_get gs m (k := k) h
  generalize answersT gs m (upto 5) = A at *; refine TC.enter Tw.func26 rfl (by kernel_rfl) Tw.ntmps26 (by rw [Try.results26]) (by simp) (Fits.nil rfl) ?_
  (repeat' first | refine TW.seq ?_ | refine TW.block ?_ | ((first | refine TW.skip ?_ | refine TW.exit ?_ | refine TW.ret ?_); (try simp only [tQ, bQ, if_true, Nat.reduceEqDiff, reduceIte])) | (refine TW.reg Td.mixed rfl fun C K hC hK => ?_; simp [hal]; (repeat' first | refine And.intro ?_ ?_ | intro _ | refine iteI ?_ ?_ | (show (_ : Bool) = true; kernel_rfl) | (show _ ≤ _; first | omega | (simp; done) | (simp; omega)) | exact Or.inl rfl | (show _ < _; omega) | ((first | refine hC _ _ _ _ _ rfl (aC.plain rfl rfl (by simp; rfl) (by exact allGroups_T) (by simp) (by simp) ?_) | refine hC _ _ _ _ _ rfl (aC.fresh rfl rfl [] (by simp; rfl) (by simp) 1 (by exact hE) (by simp) (by simp) (by simp) ?_)); simp [hal])); all_goals (refine hK _ ?_; clear hC hK C K; try simp only [tQ, bQ])) | (refine TW.cond rfl ?_ ?_ <;> intro hc <;> (try (cases hc; done))))
  refine TW.loop (fun (i : Nat) => ⟨[(5, gR (.sl 5 A)), (14, gR (.sl 5 A)), (15, gI .i64 5), (16, gI .i64 (i : Nat))], [], 0⟩) (fun i => i ≤ 5 ∧ ∀ j, j < i → crB gs m j = true) (fun i => 5 - i) 0 ⟨by omega, fun j hj => by omega⟩
    (Wk.own [] [0] (by simp) (by simp) (by simp) (by simp) (by simp)) fun i hi => ?_
  obtain ⟨hi, hf⟩ := hi; by_cases hlt : i < 5
  · have hltI : (i : Int) < 5 := by omega
    have hw1 : IntKind.i64.wrap ((i : Int) + 1) = (i : Int) + 1 := wrap_ok (by omega) (by omega)
    have hgi := hget i hlt; have hq : consB gs m = false ∨ crB gs m i = true := by
      cases h : crB gs m i
      · exact .inl (by simp [consB, allB_false hlt h])
      · exact .inr rfl
    by_cases hfin : (vsB (gAt gs i) m && (vsD (gAt gs i) m).f) = true
    · simp only [Bool.and_eq_true] at hfin
      obtain ⟨f1, f2⟩ := hfin; (repeat' first | refine TW.seq ?_ | refine TW.block ?_ | ((first | refine TW.skip ?_ | refine TW.exit ?_ | refine TW.ret ?_); (try simp only [tQ, bQ, if_true, Nat.reduceEqDiff, reduceIte])) | (refine TW.reg Td.mixed rfl fun C K hC hK => ?_; simp [hltI, hgi, f1, f2, ansT, hw1, hal]; (repeat' first | refine And.intro ?_ ?_ | intro _ | refine iteI ?_ ?_ | (show (_ : Bool) = true; kernel_rfl) | (show _ ≤ _; first | omega | (simp; done) | (simp; omega)) | exact Or.inl rfl | (show _ < _; omega)); all_goals (refine hK _ ?_; clear hC hK C K; try simp only [tQ, bQ])) | (refine TW.cond rfl ?_ ?_ <;> intro hc <;> (try (cases hc; done))))
      refine TW.loop (fun (k : Nat) => ⟨[(5, gR (.sl 5 A)), (7, .s (.ptr 0 0)), (14, gR (.sl 5 A)), (15, gI .i64 5), (16, gI .i64 (i : Nat)), (29, gR (.sl 5 A)), (30, gI .i64 5), (31, gI .i64 (k : Nat))], [(0, .box ((ansT (gAt gs i) m).map .r))], 1⟩) (fun k => k ≤ 5 ∧ ∀ j, j < k → cpB (gAt gs i) (gAt gs j) m = true) (fun k => 5 - k) 0 ⟨by omega, fun j hj => by omega⟩
        (Wk.own [0] [] (by simp) (by simp) (by simp [ansT, f1, f2]) (by simp) (by simp)) fun k hk => ?_
      obtain ⟨hk, hfk⟩ := hk; by_cases hltk : k < 5
      · have hltK : (k : Int) < 5 := by omega
        have hwk : IntKind.i64.wrap ((k : Int) + 1) = (k : Int) + 1 := wrap_ok (by omega) (by omega)
        have hgk := hget k hltk; have hqk : consB gs m = false ∨ cpB (gAt gs i) (gAt gs k) m = true := by
          rcases hq with h | h
          · exact .inl h
          · exact .inr (by rw [crB, allB_iff] at h; exact h k hltk)
        have hcp : cpB (gAt gs i) (gAt gs k) m = !(vsB (gAt gs k) m && (lessB (vsD (gAt gs i) m).t (vsD (gAt gs i) m).g (vsD (gAt gs k) m).t (vsD (gAt gs k) m).g || (vsD (gAt gs k) m).f && !(decide ((vsD (gAt gs i) m).t = (vsD (gAt gs k) m).t) && decide ((vsD (gAt gs i) m).g = (vsD (gAt gs k) m).g)))) := by rw [cpB, f1, f2]; rfl
        (repeat' first | refine TW.seq ?_ | refine TW.block ?_ | ((first | refine TW.skip ?_ | refine TW.exit ?_ | refine TW.ret ?_); (try simp only [tQ, bQ, if_true, Nat.reduceEqDiff, reduceIte])) | (refine TW.reg Td.mixed rfl fun C K hC hK => ?_; simp [hltK, hgk, f1, f2, ansT, hwk, hal]; (repeat' first | refine And.intro ?_ ?_ | intro _ | refine iteI ?_ ?_ | (show (_ : Bool) = true; kernel_rfl) | (show _ ≤ _; first | omega | (simp; done) | (simp; omega)) | exact Or.inl rfl | (show _ < _; omega) | ((first | refine hC _ _ _ _ _ rfl (aC.plain rfl rfl (by simp; rfl) (by exact less_T _ _ _ _) (by simp) (by simp) ?_)); simp [hltK, hgk, f1, f2, ansT, hwk, hal])); all_goals (refine hK _ ?_; clear hC hK C K; try simp only [tQ, bQ])) | (refine TW.cond rfl ?_ ?_ <;> intro hc <;> (try (cases hc; done))))
        all_goals first
          | (refine ⟨k + 1, ⟨by omega, fun j hj => ?_⟩, by omega, Wk.own [0] [] (by simp) (by simp) (by simp [ansT, f1, f2]) (by simp) (by simp)⟩
             by_cases e : j = k
             · subst e; rw [hcp]; simp_all
             · exact hfk j (by omega))
          | (refine Rets.nil (r := gB (consB gs m)) ?_ rfl
             rcases hqk with hqk | hqk
             · simp [hqk]
             · exfalso
               rw [hcp] at hqk; clear hfk hf hget; first | (simp_all; done) | (simp_all; omega))
      · obtain rfl : k = 5 := by omega
        have hrow : crB gs m i = true := allB_true hfk
        clear hfk; (repeat' first | refine TW.seq ?_ | refine TW.block ?_ | ((first | refine TW.skip ?_ | refine TW.exit ?_ | refine TW.ret ?_); (try simp only [tQ, bQ, if_true, Nat.reduceEqDiff, reduceIte])) | (refine TW.reg Td.mixed rfl fun C K hC hK => ?_; simp [hw1]; (repeat' first | refine And.intro ?_ ?_ | intro _ | refine iteI ?_ ?_ | (show (_ : Bool) = true; kernel_rfl) | (show _ ≤ _; first | omega | (simp; done) | (simp; omega)) | exact Or.inl rfl | (show _ < _; omega)); all_goals (refine hK _ ?_; clear hC hK C K; try simp only [tQ, bQ])) | (refine TW.cond rfl ?_ ?_ <;> intro hc <;> (try (cases hc; done))))
        refine ⟨i + 1, ⟨by omega, fun j hj => ?_⟩, by omega, Wk.same (by simp) (by simp) (by simp)⟩
        by_cases e : j = i
        · subst e; exact hrow
        · exact hf j (by omega)
    · have hrow : crB gs m i = true := allB_true fun k _ => by rw [cpB, Bool.eq_false_iff.2 hfin]; rfl
      have hfin' : (vsB (gAt gs i) m && (vsD (gAt gs i) m).f) = false := Bool.eq_false_iff.2 hfin
      cases f1 : vsB (gAt gs i) m
      · (repeat' first | refine TW.seq ?_ | refine TW.block ?_ | ((first | refine TW.skip ?_ | refine TW.exit ?_ | refine TW.ret ?_); (try simp only [tQ, bQ, if_true, Nat.reduceEqDiff, reduceIte])) | (refine TW.reg Td.mixed rfl fun C K hC hK => ?_; simp [hltI, hgi, f1, ansT, hw1, hal]; (repeat' first | refine And.intro ?_ ?_ | intro _ | refine iteI ?_ ?_ | (show (_ : Bool) = true; kernel_rfl) | (show _ ≤ _; first | omega | (simp; done) | (simp; omega)) | exact Or.inl rfl | (show _ < _; omega)); all_goals (refine hK _ ?_; clear hC hK C K; try simp only [tQ, bQ])) | (refine TW.cond rfl ?_ ?_ <;> intro hc <;> (try (cases hc; done))))
        refine ⟨i + 1, ⟨by omega, fun j hj => ?_⟩, by omega, Wk.same (by simp) (by simp) (by simp)⟩
        by_cases e : j = i
        · subst e; exact hrow
        · exact hf j (by omega)
      · have f2 : (vsD (gAt gs i) m).f = false := by simpa [f1] using hfin'
        (repeat' first | refine TW.seq ?_ | refine TW.block ?_ | ((first | refine TW.skip ?_ | refine TW.exit ?_ | refine TW.ret ?_); (try simp only [tQ, bQ, if_true, Nat.reduceEqDiff, reduceIte])) | (refine TW.reg Td.mixed rfl fun C K hC hK => ?_; simp [hltI, hgi, f1, f2, ansT, hw1, hal]; (repeat' first | refine And.intro ?_ ?_ | intro _ | refine iteI ?_ ?_ | (show (_ : Bool) = true; kernel_rfl) | (show _ ≤ _; first | omega | (simp; done) | (simp; omega)) | exact Or.inl rfl | (show _ < _; omega)); all_goals (refine hK _ ?_; clear hC hK C K; try simp only [tQ, bQ])) | (refine TW.cond rfl ?_ ?_ <;> intro hc <;> (try (cases hc; done))))
        refine ⟨i + 1, ⟨by omega, fun j hj => ?_⟩, by omega, Wk.same (by simp) (by simp) (by simp)⟩
        by_cases e : j = i
        · subst e; exact hrow
        · exact hf j (by omega)
  · obtain rfl : i = 5 := by omega
    have hall : consB gs m = true := allB_true hf
    rw [hall]; (repeat' first | refine TW.seq ?_ | refine TW.block ?_ | ((first | refine TW.skip ?_ | refine TW.exit ?_ | refine TW.ret ?_); (try simp only [tQ, bQ, if_true, Nat.reduceEqDiff, reduceIte])) | (refine TW.reg Td.mixed rfl fun C K hC hK => ?_; simp; (repeat' first | refine And.intro ?_ ?_ | intro _ | refine iteI ?_ ?_ | (show (_ : Bool) = true; kernel_rfl) | (show _ ≤ _; first | omega | (simp; done) | (simp; omega)) | exact Or.inl rfl | (show _ < _; omega)); all_goals (refine hK _ ?_; clear hC hK C K; try simp only [tQ, bQ])) | (refine TW.cond rfl ?_ ?_ <;> intro hc <;> (try (cases hc; done))))
    refine Rets.own [] [] (by simp; rfl) (by simp) (by simp) (by simp) (by simp) (by simp)
end Go.Proofs.Ytjklkppncmhehaa.T
namespace Go.Proofs.Ytjklkppncmhehaa.T
open Go Go.RowKit
def TV.lite : TV → Bool
  | .r (.v _) => true
  | .own _ => true
  | _ => false
mutual
def GV.lite : GV → Bool
  | .s t => t.lite
  | .a ts => ts.all TV.lite
  | .p gs => liteL gs
  | _ => false
def liteL : List GV → Bool
  | [] => true
  | g :: gs => g.lite && liteL gs
end
def RT.flat : RT → Bool
  | .v _ => true
  | _ => false
def Blk.lite : Blk → Bool
  | .rows _ _ xs => xs.all fun y => y.all RT.flat
  | _ => false
section
variable {ρ ρ' : Nat → Option Value} {w w' : World} {D D' : Nat → Prop}
theorem TRep.lite {v : Value} {t : TV} (h : TRep ρ w D v t) (hf : t.lite = true) {f : Nat → Nat} (hρ : ∀ b x, ρ b = some x → ρ' (f b) = some x) : TRep ρ' w' D' v (t.ren f) := by
  unfold TV.lite at hf; split at hf
  · cases h with | r h => cases h with | v h => exact .r (.v h)
  · cases h with | own h => exact .own (hρ _ _ h)
  · cases hf
theorem liteL_mem {g : GV} : ∀ {gs : List GV}, liteL gs = true → g ∈ gs → g.lite = true
  | x :: gs, h, hm => by
    simp only [liteL, Bool.and_eq_true] at h; rcases List.mem_cons.1 hm with rfl | hm
    · exact h.1
    · exact liteL_mem h.2 hm
theorem GRep.lite {v : Value} {g : GV} (h : GRep ρ w D v g) {f : Nat → Nat} (hρ : ∀ b x, ρ b = some x → ρ' (f b) = some x) : g.lite = true → GRep ρ' w' D' v (g.ren f) := by
  induction h with
  | s h => exact fun hf => .s (h.lite hf hρ)
  | a hn h =>
    intro hf; simp only [GV.lite, List.all_eq_true] at hf; simp only [GV.ren]; refine .a (by simpa using hn) fun i t ht => ?_
    rw [List.getElem?_map, Option.map_eq_some_iff] at ht; obtain ⟨t', ht', rfl⟩ := ht; exact (h i t' ht').lite (hf t' (List.mem_of_getElem? ht')) hρ
  | p hn _ ih =>
    intro hf; simp only [GV.ren]; refine .p (by rw [renL_length]; exact hn) fun i g hg => ?_
    rw [renL_get, Option.map_eq_some_iff] at hg; obtain ⟨g', hg', rfl⟩ := hg; exact ih i g' hg' (liteL_mem hf (List.mem_of_getElem? hg'))
  | clo => exact fun hf => by simp [GV.lite] at hf
  | u => exact fun hf => by simp [GV.lite] at hf
theorem BRep.lite {x : Option Value} {y : Blk} (h : BRep ρ w D x y) (hf : y.lite = true) : BRep ρ' w D' x y := by
  cases y with
  | rows e k xs =>
    simp only [Blk.lite, List.all_eq_true] at hf; obtain ⟨A, c, h1, h2, h3, h4, h5, h6⟩ := h; refine ⟨A, c, h1, h2, h3, h4, h5, ?_⟩; rcases h6 with h6 | ⟨g, arr, h6, h7, h8, h9⟩
    · exact .inl h6
    · refine .inr ⟨g, arr, h6, h7, h8, fun i y hy j r hr => ?_⟩
      have := hf y (List.mem_of_getElem? hy) r (List.mem_of_getElem? hr)
      have h10 := h9 i y hy j r hr
      cases r with
      | v x => generalize arr.getD (i * k + j) undef = z at h10; cases h10 with | v h10 => exact .v h10
      | nil => simp [RT.flat] at this
      | sl _ _ => simp [RT.flat] at this
  | box cs => simp [Blk.lite] at hf
  | dead => trivial
theorem gt_app (b : Nat) : ∀ (x y : List (Nat × Blk)), gt b (x ++ y) = match gt b x with | some z => some z | none => gt b y
  | [], y => rfl
  | (u, z) :: x, y => by
    simp only [List.cons_append, gt]; by_cases h : b = u
    · rw [if_pos h, if_pos h]
    · rw [if_neg h, if_neg h, gt_app b x y]
theorem gt_shift (m b : Nat) : ∀ (y : List (Nat × Blk)), gt b (y.map fun x => (x.1 + m, x.2)) = if m ≤ b then gt (b - m) y else none
  | [] => by simp [gt]
  | (u, z) :: y => by
    simp only [List.map_cons, gt, gt_shift m b y]; by_cases h : m ≤ b
    · by_cases e : b = u + m
      · rw [if_pos e, if_pos h, if_pos (by omega)]
      · rw [if_neg e, if_pos h, if_pos h, if_neg (by omega)]
    · rw [if_neg h, if_neg h, if_neg (by omega)]
end
theorem TC.lend {P : Program} {E : List PanicEntry → World → Prop} {f : FuncId} {args args' : List GV} {m : Nat} {sto sto' : List (Nat × Blk)} {r : GV} (hT : TC P E f args' 0 [] r sto') (hfit : Fits args m sto)
    (hargs : frzL (fun b => gt b sto) (List.range m) args = args') (hr : r.lite = true) (hs : ∀ x ∈ sto', x.2.lite = true) : TC P E f args m sto (r.ren (· + m)) (sto ++ sto'.map fun x => (x.1 + m, x.2)) := by
  obtain ⟨hent, hT⟩ := hT; refine ⟨hent, fun w vals ρ D hv ha hD hs1 hs2 hs3 => ?_⟩
  have hgm : ∀ b y, gt b sto = some y → b < m := fun b y hy => hfit.lt _ (gt_mem hy)
  have hR : Rel { W := w, M := Mf sto ρ, D0 := D, nt := 0, ρ0 := fun b => if b < m then ρ b else none } (fun _ => .u) (fun b => gt b sto) { tmps := #[], defers := [] } w (fun b => if b < m then ρ b else none) D := by
    refine ⟨rfl, rfl, rfl, Nat.le_refl _, fun k _ _ => rfl, fun k hk => ⟨hD k hk, .inl hk⟩, fun b hb => ?_, fun b y hy => ?_, fun b y g hy hl hg => ?_, fun b y b' y' g hy hl hy' hl' hg hg' => ?_, fun t => .u, rfl, rfl, fun b x hx => hx⟩
    · by_cases h : b < m
      · obtain ⟨y, hy, _⟩ := hfit.live h
        rw [hy] at hb; cases hb
      · simp [h]
    · have h1 := hgm _ _ hy
      simp only [h1, if_true]; exact (hs1 b y hy).restrict fun c hc x hx => by rw [if_pos (hfit.sto _ (gt_mem hy) c hc)]; exact hx
    · have h1 := hgm _ _ hy
      simp only [h1, if_true] at hg; exact ⟨hs2 b y g hy hl hg, .inl ⟨b, y, hy, hl, hg⟩⟩
    · have h1 := hgm _ _ hy
      have h1' := hgm _ _ hy'; simp only [h1, h1', if_true] at hg hg'; exact hs3 b y b' y' g hy hl hy' hl' hg hg'
  obtain ⟨D1, hR1, hD1, hDp⟩ := hR.consume (List.range m) fun b hb => hfit.live (List.mem_range.1 hb)
  refine (hT w vals (fun b => if b < m then ρ b else none) D1 (by rw [hv, ← hargs, frzL_length]) (fun i g hg => ?_) (fun k hk => (hR1.ro k hk).1) (fun b y h => by cases h) (fun b y g h => by cases h) (fun b y b' y' g h => by cases h)).mono ?_
  · rw [← hargs, frzL_get, Option.map_eq_some_iff] at hg
    obtain ⟨g', hg', rfl⟩ := hg; exact ((ha i g' hg').restrict fun c hc x hx => by rw [if_pos (hfit.args _ (List.mem_of_getElem? hg') c hc)]; exact hx).frz hR hD1 hDp
  rintro e w' (h | ⟨v, ρ2, D2, rfl, hv', hP⟩)
  · exact .inl h
  right
  have hm : ∀ ρ' k, ¬ Mf [] ρ' k := fun _ k ⟨b, y, h, _⟩ => by cases h
  have hold : ∀ k, k < w.heap.size → w'.heap[k]? = w.heap[k]? := fun k hk => hP.old k hk (hm _ k)
  have hK : Keeps D w w' := fun k hd => hold k (hD k hd)
  have hg1 : ∀ b y, gt b (sto ++ sto'.map fun x => (x.1 + m, x.2)) = some y → (b < m ∧ gt b sto = some y) ∨ (m ≤ b ∧ gt (b - m) sto' = some y) := by
    intro b y hy; rw [gt_app, gt_shift] at hy; by_cases h : b < m
    · obtain ⟨z, hz, _⟩ := hfit.live h
      rw [hz] at hy; exact .inl ⟨h, by rw [hz]; exact hy⟩
    · have : gt b sto = none := by
        cases hz : gt b sto with
        | none => rfl
        | some z => exact absurd (hgm _ _ hz) h
      rw [this, if_pos (by omega)] at hy
      exact .inr ⟨by omega, hy⟩
  have hlt : ∀ b y g, gt b sto = some y → y.live = true → blkOf (ρ b) = some g → g < w.heap.size := by
    intro b y g hy hl hg; refine hR.size_lt (b := b) hy hl ?_; simp only [hgm _ _ hy, if_true]; exact hg
  refine ⟨v, fun b => if b < m then ρ b else ρ2 (b - m), D, rfl, hv'.lite (fun b x hx => ?_) hr, ⟨hP.os, hP.tape, hP.output, hP.size, fun k hk _ => hold k hk, fun k hk => ⟨Nat.lt_of_lt_of_le (hD k hk) hP.size, .inl hk⟩, fun b y hy => ?_, fun b y g hy hl hg => ?_, fun b y b' y' g hy hl hy' hl' hg hg' => ?_, fun b hb => by simp [hb], fun b hb hn => ?_⟩⟩
  · rw [if_neg (by omega), show b + m - m = b by omega]; exact hx
  · rcases hg1 b y hy with ⟨h1, h2⟩ | ⟨h1, h2⟩
    · rw [if_pos h1]
      refine ((hs1 b y h2).restrict (ρ' := fun b => if b < m then ρ b else none) fun c hc x hx => by rw [if_pos (hfit.sto _ (gt_mem h2) c hc)]; exact hx).keep (fun c x hx => ?_) hK (fun _ h => h) ?_
      · split at hx
        · rename_i hc; rw [if_pos hc]; exact hx
        · cases hx
      · by_cases hl : y.live = true
        · exact .inr fun g hg => hold g (hlt b y g h2 hl hg)
        · left
          cases y <;> simp [Blk.live] at hl
          rfl
    · rw [if_neg (by omega)]
      exact (hP.blk _ _ h2).lite (hs _ (gt_mem h2))
  · rcases hg1 b y hy with ⟨h1, h2⟩ | ⟨h1, h2⟩
    · rw [if_pos h1] at hg
      exact ⟨hs2 b y g h2 hl hg, .inl ⟨b, y, h2, hl, hg⟩⟩
    · rw [if_neg (by omega)] at hg
      have := (hP.own _ _ _ h2 hl hg).2
      rcases this with h | h
      · exact absurd h (hm _ _)
      · exact ⟨fun hd => by have := hD g hd; omega, .inr h⟩
  · rcases hg1 b y hy with ⟨h1, h2⟩ | ⟨h1, h2⟩ <;> rcases hg1 b' y' hy' with ⟨h3, h4⟩ | ⟨h3, h4⟩
    · rw [if_pos h1] at hg
      rw [if_pos h3] at hg'; exact hs3 b y b' y' g h2 hl h4 hl' hg hg'
    · rw [if_pos h1] at hg
      rw [if_neg (by omega)] at hg'
      have h5 := hlt b y g h2 hl hg; rcases (hP.own _ _ _ h4 hl' hg').2 with h | h
      · exact absurd h (hm _ _)
      · omega
    · rw [if_neg (by omega)] at hg
      rw [if_pos h3] at hg'; have h5 := hlt b' y' g h4 hl' hg'; rcases (hP.own _ _ _ h2 hl hg).2 with h | h
      · exact absurd h (hm _ _)
      · omega
    · rw [if_neg (by omega)] at hg hg'
      have := hP.sep _ _ _ _ _ h2 hl h4 hl' hg hg'
      omega
  · rw [gt_app, gt_shift, if_pos hb] at hn
    have : gt b sto = none := by
      cases hz : gt b sto with
      | none => rfl
      | some z => exact absurd (hgm _ _ hz) (by omega)
    rw [this] at hn; rw [if_neg (by omega)]
    exact hP.free _ (Nat.zero_le _) hn
theorem Fits.of {args : List GV} {m : Nat} {sto : List (Nat × Blk)} (h1 : stoOk m sto = true) (h2 : ∀ x ∈ sto, x.1 < m ∧ ∀ b ∈ x.2.names, b < m) (h3 : ∀ b ∈ namesL args, b < m) : Fits args m sto :=
  ⟨h1, fun x hx => (h2 x hx).1, fun g hg b hb => h3 b (nLm hg b hb), fun x hx => (h2 x hx).2⟩
theorem aC.rd {C : CT} {r : Rg} {o : Oper} {os : List Oper} {gd : List (Nat ⊕ Nat)} {s : TState} {acc : List Pl} {K : TState → Prop} {fx : Operand} {args : Array Operand} {ts : Array TypeId} (ho : o.op = .call { callee := .value fx, args := args, argTypes := ts }) {f : FuncId} {fs cs gs : List GV} (hf : (s.ev fx).fn? = some (f, fs, cs))
    {b : Nat} {gs0 : List GV} (hg0 : fs ++ args.toList.map s.ev ++ cs = gs0) (hg1 : gs0 = .s (.ptr b 0) :: gs) {bx : List TV} (hb : s.get b = some (.box bx)) {bx' : List TV} {res : GV} (hT : TC r.P r.E f (.s (.ptr 0 0) :: gs) 1 [(0, .box bx)] res [(0, .box bx')]) (h0 : namesL gs = []) (h1 : (Blk.box bx).names = []) (h1' : (Blk.box bx').names = []) (h2 : res.names = []) (hlt : b < s.nx)
    (h : run C r os (s.step o.dst res [(b, .box bx')] s.nx) (if r.draw then plOf o gd [(b, some (.box bx))] [(b, .box bx')] :: acc else []) K) : aC C r o os gd s acc K := by
  have hg := hg0.trans hg1; have hren : ∀ (f : Nat → Nat) (ts : List TV), (Blk.box ts).names = [] → (Blk.box ts).ren f = .box ts := by
    intro f ts h; simp only [Blk.names, List.flatMap_eq_nil_iff] at h; simp only [Blk.ren]; congr 1
    exact (List.map_congr_left fun t ht => TV.ren_nil f t (h t ht)).trans (List.map_id ts)
  refine aC.any ho hf [b] [] 0 hT ⟨?_, by simp, by simpa using hlt, by simp, by simp, fun c hc => ?_, by simp [Blk.live], by simp⟩ (by simp [h2]) (fun x hx c hc => by simp only [List.mem_singleton] at hx; subst hx; rw [h1'] at hc; cases hc) ?_
  · rw [hg, frzL_nil]
    simp only [renL, GV.ren, TV.ren, φ, List.length_singleton, Nat.lt_add_one, if_true, List.getD_cons_zero]; rw [renL_of_nil _ h0]
  · simp only [List.length_singleton, Nat.lt_one_iff] at hc
    subst hc; simp only [List.getD_cons_zero, gt, if_true, Option.map_some, hb, hren _ _ h1, Option.isSome_some, and_self]
  · rw [GV.ren_nil _ _ h2]
    simp only [ΔOf, frCall, List.length_singleton, List.range_one, List.map_cons, List.map_nil, List.getD_cons_zero, gt, if_true, hren _ _ h1', List.range_zero, List.append_nil, hb, Nat.add_zero]; exact h
def lendOk (s : TState) (f : Nat → Nat) (sto0 : List (Nat × Blk)) : Nat → List Nat → Prop
  | _, [] => True
  | i, c :: cs => (s.get c = (gt i sto0).map (Blk.ren f) ∧ (gt i sto0).isSome = true) ∧ lendOk s f sto0 (i + 1) cs
attribute [simp] lendOk Blk.live
theorem lendOk_get {s : TState} {f : Nat → Nat} {sto0 : List (Nat × Blk)} : ∀ {cs : List Nat} {i b : Nat}, lendOk s f sto0 i cs → b < cs.length → s.get (cs.getD b 0) = (gt (i + b) sto0).map (Blk.ren f) ∧ (gt (i + b) sto0).isSome = true
  | c :: cs, i, 0, h, _ => h.1
  | c :: cs, i, b + 1, h, hb => by
    have := lendOk_get (b := b) h.2 (by simpa using hb)
    rw [show i + 1 + b = i + (b + 1) by omega] at this
    simpa using this
theorem aC.lend {C : CT} {r : Rg} {o : Oper} {os : List Oper} {gd : List (Nat ⊕ Nat)} {s : TState} {acc : List Pl} {K : TState → Prop} {fx : Operand} {args : Array Operand} {ts : Array TypeId} (ho : o.op = .call { callee := .value fx, args := args, argTypes := ts }) {f : FuncId} {fs cs : List GV} (hf : (s.ev fx).fn? = some (f, fs, cs))
    (frag : List Nat) (cnt : Nat) {args' : List GV} {sto0 sto' : List (Nat × Blk)} {res : GV} (hT : TC r.P r.E f args' frag.length sto0 res sto') (ha : fs ++ args.toList.map s.ev ++ cs = renL (φ frag s.nx) args') (hn : frag.Nodup) (hlt : ∀ b ∈ frag, b < s.nx)
    (hb : lendOk s (φ frag s.nx) sto0 0 frag) (hl : ∀ x ∈ sto0, x.1 < frag.length ∧ x.2.live = true) (hs : ∀ x ∈ sto', x.1 < frag.length + cnt ∧ ∀ b ∈ x.2.names, b < frag.length + cnt) (h1 : ∀ b ∈ res.names, b < frag.length + cnt)
    (h : run C r os (s.step o.dst (res.ren (φ frag s.nx)) (ΔOf s frag [] sto' cnt) (s.nx + cnt)) (if r.draw then plOf o gd (frCall s frag [] cnt) (ΔOf s frag [] sto' cnt) :: acc else []) K) : aC C r o os gd s acc K :=
  aC.any ho hf frag [] cnt hT ⟨by rw [frzL_nil]; exact ha, hn, hlt, by simp, by simp, fun b h => (by have := lendOk_get (b := b) hb h; rwa [Nat.zero_add] at this), hl, fun x hx => (hs x hx).1⟩ h1 (fun x hx => (hs x hx).2) h
end Go.Proofs.Ytjklkppncmhehaa.T
namespace Go.Proofs.Ytjklkppncmhehaa.T
open Go Go.RowKit
set_option maxRecDepth 100000
set_option maxHeartbeats 4000000
variable {E : List PanicEntry → World → Prop}
abbrev stsB (xs : List (Int × Int)) : Blk := .rows 37 2 (xs.map stT)
def rndLe (r : RndD) (n : Nat) : Prop := r.gs.length ≤ n ∧ r.got.length ≤ n
abbrev rndO (r : RndD) (p d : Nat) : GV := .a [.r (rI r.m), .own p, .own d]
abbrev rndS (r : RndD) : List (Nat × Blk) := [(0, intsB r.gs), (1, stsB r.got)]
theorem l12Copy_T (r : RndD) (h : rndLe r 4294967296) : TC Tw.prog E 85 [.a ((rndT r).map .r)] 0 [] (rndO r 0 1) (rndS r) := by
  obtain ⟨hp, hd⟩ := h; refine TC.enter Tw.func85 rfl (by kernel_rfl) Tw.ntmps85 (by rw [Try.results85]) (by simp) (Fits.nil rfl) ?_
  (repeat' first | refine TW.seq ?_ | refine TW.block ?_ | ((first | refine TW.skip ?_ | refine TW.exit ?_ | refine TW.ret ?_); (try simp only [tQ, bQ, if_true, Nat.reduceEqDiff, reduceIte])) | (refine TW.reg Td.mixed rfl fun C K hC hK => ?_; simp [rndT, maxLen]; (repeat' first | refine And.intro ?_ ?_ | intro _ | refine iteI ?_ ?_ | (show (_ : Bool) = true; kernel_rfl) | (show _ ≤ _; first | omega | (simp; done) | (simp; omega)) | exact Or.inl rfl | (show _ < _; omega)); all_goals (refine hK _ ?_; clear hC hK C K; try simp only [tQ, bQ])) | (refine TW.cond rfl ?_ ?_ <;> intro hc <;> (try (cases hc; done))))
  refine Rets.own [3, 5] [] (by simp; rfl) (by simp) (by simp) (by simp) (by simp) (by simp)
theorem specRoundValid_T (r : RndD) (h : rndLe r 4294967296) : TC Tw.prog E 112 [.a ((rndT r).map .r)] 0 [] (gB (rndB r)) [] := by
  obtain ⟨hgl, hl⟩ := h; have hlen : r.got.length ≤ maxLen := by simp only [maxLen]; omega
  refine TC.enter Tw.func112 rfl (by kernel_rfl) Tw.ntmps112 (by rw [Try.results112]) (by simp) (Fits.nil rfl) ?_
  (repeat' first | refine TW.seq ?_ | refine TW.block ?_ | ((first | refine TW.skip ?_ | refine TW.exit ?_ | refine TW.ret ?_); (try simp only [tQ, bQ, if_true, Nat.reduceEqDiff, reduceIte])) | (refine TW.reg Td.mixed rfl fun C K hC hK => ?_; simp; (repeat' first | refine And.intro ?_ ?_ | intro _ | refine iteI ?_ ?_ | (show (_ : Bool) = true; kernel_rfl) | (show _ ≤ _; first | omega | (simp; done) | (simp; omega)) | exact Or.inl rfl | (show _ < _; omega)); all_goals (refine hK _ ?_; clear hC hK C K; try simp only [tQ, bQ])) | (refine TW.cond rfl ?_ ?_ <;> intro hc <;> (try (cases hc; done))))
  refine TW.loop (fun k => ⟨[(1, .s (.ptr 0 0)), (3, gI .i64 (k : Nat))], [(0, .box ((rndT r).map .r))], 1⟩) (fun k => k ≤ r.got.length ∧ ∀ i, i < k → gotC r i = true) (fun k => r.got.length - k) 0 ⟨by omega, fun i hi => by omega⟩ (Wk.own [0] [] (by simp) (by simp) (by simp) (by simp) (by simp)) fun k hk => ?_
  obtain ⟨hk, hf⟩ := hk; by_cases hlt : k < r.got.length
  · have he : r.got[k]? = some r.got[k] := List.getElem?_eq_getElem hlt
    have hq : rndB r = false ∨ gotC r k = true := by
      cases h : gotC r k
      · exact .inl (by simp [rndB, allB_false hlt h])
      · exact .inr rfl
    rcases k with _ | k
    · have hset : gotC r 0 = (stampOk r.got[0].1 r.got[0].2 && hasI r.gs r.got[0].2) := by simp [gotC, hlt]
      (repeat' first | refine TW.seq ?_ | refine TW.block ?_ | ((first | refine TW.skip ?_ | refine TW.exit ?_ | refine TW.ret ?_); (try simp only [tQ, bQ, if_true, Nat.reduceEqDiff, reduceIte])) | (refine TW.reg Td.mixed rfl fun C K hC hK => ?_; simp [hlt, he, rndT, stT]; (repeat' first | refine And.intro ?_ ?_ | intro _ | refine iteI ?_ ?_ | (show (_ : Bool) = true; kernel_rfl) | (show _ ≤ _; first | omega | (simp; done) | (simp; omega)) | exact Or.inl rfl | (show _ < _; omega) | ((first | refine hC _ _ _ _ _ rfl (aC.plain rfl rfl (by simp; rfl) (by exact specStampValid_T _ _) (by simp) (by simp) ?_) | refine hC _ _ _ _ _ rfl (aC.plain rfl rfl (by simp; rfl) (by exact l1Has_T _ _) (by simp) (by simp) ?_)); simp [hlt, he, rndT, stT])); all_goals (refine hK _ ?_; clear hC hK C K; try simp only [tQ, bQ])) | (refine TW.cond rfl ?_ ?_ <;> intro hc <;> (try (cases hc; done))))
      all_goals first
        | (refine ⟨1, ⟨by omega, fun i hi => ?_⟩, by omega, Wk.own [0] [] (by simp) (by simp) (by simp [rndT]) (by simp) (by simp)⟩
           obtain rfl : i = 0 := by omega
           simp_all)
        | (refine Rets.nil (r := gB (rndB r)) ?_ rfl
           rcases hq with hq | hq
           · simp [hq]
           · exfalso
             first | (simp_all; done) | (simp_all; omega))
    · have he' : r.got[k]? = some r.got[k] := List.getElem?_eq_getElem (by omega)
      have hw := wrap_nat (k := k) (by omega)
      have hw1 := wrap_add (k := k + 1) hlt hlen; simp only [Int.natCast_add, Int.natCast_one] at hw1; have hpos : (0 : Int) < (k : Int) + 1 := by omega
      have hltI : (k : Int) + 1 < (r.got.length : Int) := by omega
      have hset : gotC r (k + 1) = (stampOk r.got[k + 1].1 r.got[k + 1].2 && hasI r.gs r.got[k + 1].2 && decide (r.got[k].2 < r.got[k + 1].2)) := by simp [gotC, he, he']
      (repeat' first | refine TW.seq ?_ | refine TW.block ?_ | ((first | refine TW.skip ?_ | refine TW.exit ?_ | refine TW.ret ?_); (try simp only [tQ, bQ, if_true, Nat.reduceEqDiff, reduceIte])) | (refine TW.reg Td.mixed rfl fun C K hC hK => ?_; simp [hlt, he, he', hw, hw1, hpos, hltI, rndT, stT]; (repeat' first | refine And.intro ?_ ?_ | intro _ | refine iteI ?_ ?_ | (show (_ : Bool) = true; kernel_rfl) | (show _ ≤ _; first | omega | (simp; done) | (simp; omega)) | exact Or.inl rfl | (show _ < _; omega) | ((first | refine hC _ _ _ _ _ rfl (aC.plain rfl rfl (by simp; rfl) (by exact specStampValid_T _ _) (by simp) (by simp) ?_) | refine hC _ _ _ _ _ rfl (aC.plain rfl rfl (by simp; rfl) (by exact l1Has_T _ _) (by simp) (by simp) ?_)); simp [hlt, he, he', hw, hw1, hpos, hltI, rndT, stT])); all_goals (refine hK _ ?_; clear hC hK C K; try simp only [tQ, bQ])) | (refine TW.cond rfl ?_ ?_ <;> intro hc <;> (try (cases hc; done))))
      all_goals first
        | (refine ⟨k + 1 + 1, ⟨by omega, fun i hi => ?_⟩, by omega, Wk.own [0] [] (by simp) (by simp) (by simp [rndT]) (by simp) (by simp)⟩
           by_cases e : i = k + 1
           · subst e; simp_all
           · exact hf i (by omega))
        | (refine Rets.nil (r := gB (rndB r)) ?_ rfl
           rcases hq with hq | hq
           · simp [hq]
           · exfalso
             first | (simp_all; done) | (simp_all; omega))
  · obtain rfl : k = r.got.length := by omega
    have hall : allB r.got.length (gotC r) = true := allB_true hf
    (repeat' first | refine TW.seq ?_ | refine TW.block ?_ | ((first | refine TW.skip ?_ | refine TW.exit ?_ | refine TW.ret ?_); (try simp only [tQ, bQ, if_true, Nat.reduceEqDiff, reduceIte])) | (refine TW.reg Td.mixed rfl fun C K hC hK => ?_; simp [rndT]; (repeat' first | refine And.intro ?_ ?_ | intro _ | refine iteI ?_ ?_ | (show (_ : Bool) = true; kernel_rfl) | (show _ ≤ _; first | omega | (simp; done) | (simp; omega)) | exact Or.inl rfl | (show _ < _; omega) | ((first | refine hC _ _ _ _ _ rfl (aC.plain rfl rfl (by simp; rfl) (by exact l11Message_T _) (by simp) (by simp) ?_) | refine hC _ _ _ _ _ rfl (aC.plain rfl rfl (by simp; rfl) (by exact specGroupsValid_T _) (by simp) (by simp) ?_)); simp [rndT])); all_goals (refine hK _ ?_; clear hC hK C K; try simp only [tQ, bQ])) | (refine TW.cond rfl ?_ ?_ <;> intro hc <;> (try (cases hc; done))))
    all_goals
      refine Rets.nil (r := gB (rndB r)) ?_ rfl; simp_all [rndB]
theorem lowG_in {got : List (Int × Int)} {g : Int} {k : Nat} {x : Int × Int} (hk : ∀ i, i < k → ∀ x, got[i]? = some x → x.2 < g) (he : got[k]? = some x) (h : ¬ x.2 < g) : lowG got g = k := by
  unfold lowG; induction got generalizing k with
  | nil => simp at he
  | cons y got ih =>
    cases k with
    | zero =>
      cases he; rw [List.takeWhile_cons]; simp [h]
    | succ k =>
      have h0 := hk 0 (by omega) y rfl
      rw [List.takeWhile_cons, if_pos (by simpa using h0), List.length_cons, ih (k := k) (fun i hi y hy => hk (i + 1) (by omega) y (by simpa using hy)) (by simpa using he)]
theorem lowG_end {got : List (Int × Int)} {g : Int} (hk : ∀ i, i < got.length → ∀ x, got[i]? = some x → x.2 < g) : lowG got g = got.length := by
  have h : got.takeWhile (fun s => decide (s.2 < g)) = got := by
    induction got with
    | nil => rfl
    | cons x es ih =>
      rw [List.takeWhile_cons, if_pos (by simpa using hk 0 (by simp) x rfl), ih fun i hi y hy => hk (i + 1) (by simp; omega) y (by simpa using hy)]
  unfold lowG; rw [h]
theorem l12Add_T (r : RndD) (t s : Int) (h : rndLe r 4294967290) : TC Tw.prog E 110 [.a ((rndT r).map .r), gSt (t, s)] 0 [] (.p [rndO (addD r t s).1 0 1, gB (addD r t s).2]) (rndS (addD r t s).1) := by
  obtain ⟨hgl, hl⟩ := h; have hle : rndLe r 4294967296 := ⟨by omega, by omega⟩
  have hlen : r.got.length ≤ maxLen := by simp only [maxLen]; omega
  refine TC.enter Tw.func110 rfl (by kernel_rfl) Tw.ntmps110 (by rw [Try.results110]) (by simp) (Fits.nil rfl) ?_
  (repeat' first | refine TW.seq ?_ | refine TW.block ?_ | ((first | refine TW.skip ?_ | refine TW.exit ?_ | refine TW.ret ?_); (try simp only [tQ, bQ, if_true, Nat.reduceEqDiff, reduceIte])) | (refine TW.reg Td.mixed rfl fun C K hC hK => ?_; simp [rndT]; (repeat' first | refine And.intro ?_ ?_ | intro _ | refine iteI ?_ ?_ | (show (_ : Bool) = true; kernel_rfl) | (show _ ≤ _; first | omega | (simp; done) | (simp; omega)) | exact Or.inl rfl | (show _ < _; omega) | ((first | refine hC _ _ _ _ _ rfl (aC.fresh rfl rfl [] (by simp; rfl) (by simp) 2 (by exact l12Copy_T _ hle) (by simp) (by simp) (by simp) ?_)); simp [rndT])); all_goals (refine hK _ ?_; clear hC hK C K; try simp only [tQ, bQ])) | (refine TW.cond rfl ?_ ?_ <;> intro hc <;> (try (cases hc; done))))
  refine TW.loop (fun (k : Nat) => ⟨[(2, .s (.ptr 0 0)), (3, .s (.ptr 1 0)), (4, .s (.ptr 2 0)), (6, .s (.ptr 3 0)), (7, gI .i64 (k : Nat))],
    [(0, .box ((rndT r).map .r)), (1, .box [.r (rI t), .r (rI s)]), (2, .box [.r (rI 0), .r .nil, .r .nil]), (3, .box [.r (rI r.m), .own 4, .own 5]), (4, intsB r.gs), (5, stsB r.got)], 6⟩) (fun k => k ≤ r.got.length ∧ ∀ i, i < k → ∀ x, r.got[i]? = some x → x.2 < s) (fun k => r.got.length - k) 0 ⟨by omega, fun i hi => by omega⟩
    (Wk.own [0, 1, 2, 5, 3, 4] [] (by simp) (by simp) (by simp [rndT]) (by simp) (by simp)) fun k hk => ?_
  obtain ⟨hk, hfk⟩ := hk; have hsl : (∃ x, r.got[k]? = some x ∧ x.2 < s) ∨ (∃ x, r.got[k]? = some x ∧ ¬ x.2 < s ∧ lowG r.got s = k) ∨ (k = r.got.length ∧ lowG r.got s = k) := by
    rcases hx : r.got[k]? with _ | x
    · have hkl : k = r.got.length := by have := List.getElem?_eq_none_iff.1 hx; omega
      refine .inr (.inr ⟨hkl, ?_⟩); subst hkl; exact lowG_end hfk
    · by_cases hlx : x.2 < s
      · exact .inl ⟨x, rfl, hlx⟩
      · exact .inr (.inl ⟨x, rfl, hlx, lowG_in hfk hx hlx⟩)
  rcases hsl with ⟨x, hx, hlx⟩ | hsl
  · have hlt : k < r.got.length := (List.getElem?_eq_some_iff.1 hx).1
    have hltI : (k : Int) < (r.got.length : Int) := by omega
    have hw1 := wrap_add hlt hlen; (repeat' first | refine TW.seq ?_ | refine TW.block ?_ | ((first | refine TW.skip ?_ | refine TW.exit ?_ | refine TW.ret ?_); (try simp only [tQ, bQ, if_true, Nat.reduceEqDiff, reduceIte])) | (refine TW.reg Td.mixed rfl fun C K hC hK => ?_; simp [hltI, hx, hlx, rndT, stT, hw1]; (repeat' first | refine And.intro ?_ ?_ | intro _ | refine iteI ?_ ?_ | (show (_ : Bool) = true; kernel_rfl) | (show _ ≤ _; first | omega | (simp; done) | (simp; omega)) | exact Or.inl rfl | (show _ < _; omega)); all_goals (refine hK _ ?_; clear hC hK C K; try simp only [tQ, bQ])) | (refine TW.cond rfl ?_ ?_ <;> intro hc <;> (try (cases hc; done))))
    refine ⟨k + 1, ⟨by omega, fun i hi y hy => ?_⟩, by omega, Wk.own [0, 1, 2, 3, 4, 5] [] (by simp) (by simp) (by simp [rndT]) (by simp) (by simp)⟩
    by_cases e : i = k
    · subst e; rw [hx] at hy; cases hy; exact hlx
    · exact hfk i (by omega) y hy
  · have hlow : lowG r.got s = k := by
      rcases hsl with ⟨_, _, _, h⟩ | ⟨_, h⟩ <;> exact h
    have hadd : addD r t s = if hasI r.gs s = false ∨ sameG r.got k s = true then (r, false) else (⟨r.m, r.gs, r.got.take k ++ [(t, s)] ++ r.got.drop k⟩, true) := by
      rw [addD, hlow]
    cases hh : hasI r.gs s
    · rw [if_pos (.inl hh)] at hadd
      rw [hadd]; rcases hsl with ⟨x, hx, hlx, _⟩ | ⟨hkl, _⟩
      · have hlt : k < r.got.length := (List.getElem?_eq_some_iff.1 hx).1
        have hltI : (k : Int) < (r.got.length : Int) := by omega
        (repeat' first | refine TW.seq ?_ | refine TW.block ?_ | ((first | refine TW.skip ?_ | refine TW.exit ?_ | refine TW.ret ?_); (try simp only [tQ, bQ, if_true, Nat.reduceEqDiff, reduceIte])) | (refine TW.reg Td.mixed rfl fun C K hC hK => ?_; simp [hltI, hx, hlx, hh, rndT, stT]; (repeat' first | refine And.intro ?_ ?_ | intro _ | refine iteI ?_ ?_ | (show (_ : Bool) = true; kernel_rfl) | (show _ ≤ _; first | omega | (simp; done) | (simp; omega)) | exact Or.inl rfl | (show _ < _; omega) | ((first | refine hC _ _ _ _ _ rfl (aC.plain rfl rfl (by simp; rfl) (by exact l1Has_T _ _) (by simp) (by simp) ?_)); simp [hltI, hx, hlx, hh, rndT, stT])); all_goals (refine hK _ ?_; clear hC hK C K; try simp only [tQ, bQ])) | (refine TW.cond rfl ?_ ?_ <;> intro hc <;> (try (cases hc; done))))
        refine Rets.own [4, 5] [] (by simp; rfl) (by simp) (by simp) (by simp) (by simp) (by simp)
      · subst hkl
        (repeat' first | refine TW.seq ?_ | refine TW.block ?_ | ((first | refine TW.skip ?_ | refine TW.exit ?_ | refine TW.ret ?_); (try simp only [tQ, bQ, if_true, Nat.reduceEqDiff, reduceIte])) | (refine TW.reg Td.mixed rfl fun C K hC hK => ?_; simp [hh, rndT, stT]; (repeat' first | refine And.intro ?_ ?_ | intro _ | refine iteI ?_ ?_ | (show (_ : Bool) = true; kernel_rfl) | (show _ ≤ _; first | omega | (simp; done) | (simp; omega)) | exact Or.inl rfl | (show _ < _; omega) | ((first | refine hC _ _ _ _ _ rfl (aC.plain rfl rfl (by simp; rfl) (by exact l1Has_T _ _) (by simp) (by simp) ?_)); simp [hh, rndT, stT])); all_goals (refine hK _ ?_; clear hC hK C K; try simp only [tQ, bQ])) | (refine TW.cond rfl ?_ ?_ <;> intro hc <;> (try (cases hc; done))))
        refine Rets.own [4, 5] [] (by simp; rfl) (by simp) (by simp) (by simp) (by simp) (by simp)
    · rcases hsl with ⟨x, hx, hlx, _⟩ | ⟨hkl, _⟩
      · have hlt : k < r.got.length := (List.getElem?_eq_some_iff.1 hx).1
        have hltI : (k : Int) < (r.got.length : Int) := by omega
        by_cases hxs : x.2 = s
        · rw [if_pos (.inr (by simp [sameG, hx, hxs]))] at hadd
          rw [hadd]; (repeat' first | refine TW.seq ?_ | refine TW.block ?_ | ((first | refine TW.skip ?_ | refine TW.exit ?_ | refine TW.ret ?_); (try simp only [tQ, bQ, if_true, Nat.reduceEqDiff, reduceIte])) | (refine TW.reg Td.mixed rfl fun C K hC hK => ?_; simp [hltI, hx, hlx, hxs, hh, rndT, stT]; (repeat' first | refine And.intro ?_ ?_ | intro _ | refine iteI ?_ ?_ | (show (_ : Bool) = true; kernel_rfl) | (show _ ≤ _; first | omega | (simp; done) | (simp; omega)) | exact Or.inl rfl | (show _ < _; omega) | ((first | refine hC _ _ _ _ _ rfl (aC.plain rfl rfl (by simp; rfl) (by exact l1Has_T _ _) (by simp) (by simp) ?_)); simp [hltI, hx, hlx, hxs, hh, rndT, stT])); all_goals (refine hK _ ?_; clear hC hK C K; try simp only [tQ, bQ])) | (refine TW.cond rfl ?_ ?_ <;> intro hc <;> (try (cases hc; done))))
          refine Rets.own [4, 5] [] (by simp; rfl) (by simp) (by simp) (by simp) (by simp) (by simp)
        · rw [if_neg (by simp [sameG, hx, hxs, hh])] at hadd
          rw [hadd]; (repeat' first | refine TW.seq ?_ | refine TW.block ?_ | ((first | refine TW.skip ?_ | refine TW.exit ?_ | refine TW.ret ?_); (try simp only [tQ, bQ, if_true, Nat.reduceEqDiff, reduceIte])) | (refine TW.reg Td.mixed rfl fun C K hC hK => ?_; simp [hltI, hx, hlx, hxs, hh, rndT, stT, maxLen]; (repeat' first | refine And.intro ?_ ?_ | intro _ | refine iteI ?_ ?_ | (show (_ : Bool) = true; kernel_rfl) | (show _ ≤ _; first | omega | (simp; done) | (simp; omega)) | exact Or.inl rfl | (show _ < _; omega) | ((first | refine hC _ _ _ _ _ rfl (aC.plain rfl rfl (by simp; rfl) (by exact l1Has_T _ _) (by simp) (by simp) ?_)); simp [hltI, hx, hlx, hxs, hh, rndT, stT, maxLen])); all_goals (refine hK _ ?_; clear hC hK C K; try simp only [tQ, bQ])) | (refine TW.cond rfl ?_ ?_ <;> intro hc <;> (try (cases hc; done))))
          refine Rets.own [4, 10] [] (by simp; rfl) (by simp [stT]) (by simp) (by simp) (by simp [stT]) (by simp)
      · subst hkl
        rw [if_neg (by simp [sameG, hh])] at hadd
        rw [hadd]; (repeat' first | refine TW.seq ?_ | refine TW.block ?_ | ((first | refine TW.skip ?_ | refine TW.exit ?_ | refine TW.ret ?_); (try simp only [tQ, bQ, if_true, Nat.reduceEqDiff, reduceIte])) | (refine TW.reg Td.mixed rfl fun C K hC hK => ?_; simp [hh, rndT, stT, maxLen]; (repeat' first | refine And.intro ?_ ?_ | intro _ | refine iteI ?_ ?_ | (show (_ : Bool) = true; kernel_rfl) | (show _ ≤ _; first | omega | (simp; done) | (simp; omega)) | exact Or.inl rfl | (show _ < _; omega) | ((first | refine hC _ _ _ _ _ rfl (aC.plain rfl rfl (by simp; rfl) (by exact l1Has_T _ _) (by simp) (by simp) ?_)); simp [hh, rndT, stT, maxLen])); all_goals (refine hK _ ?_; clear hC hK C K; try simp only [tQ, bQ])) | (refine TW.cond rfl ?_ ?_ <;> intro hc <;> (try (cases hc; done))))
        refine Rets.own [4, 10] [] (by simp; rfl) (by simp [stT]) (by simp) (by simp) (by simp [stT]) (by simp)
theorem l12Final_T (r : RndD) (h : r.gs ≠ []) : TC Tw.prog E 111 [.a ((rndT r).map .r)] 0 [] (.p [gSt (lastD r).1, gB (lastD r).2]) [] := by
  have hgs : 0 < r.gs.length := List.length_pos_iff.2 h
  refine TC.enter Tw.func111 rfl (by kernel_rfl) Tw.ntmps111 (by rw [Try.results111]) (by simp) (Fits.nil rfl) ?_
  by_cases hl : r.got.length < r.gs.length
  · have hl' : (r.got.length : Int) < (r.gs.length : Int) := by omega
    rw [show lastD r = ((0, 0), false) by rw [lastD, if_pos hl]]
    (repeat' first | refine TW.seq ?_ | refine TW.block ?_ | ((first | refine TW.skip ?_ | refine TW.exit ?_ | refine TW.ret ?_); (try simp only [tQ, bQ, if_true, Nat.reduceEqDiff, reduceIte])) | (refine TW.reg Td.mixed rfl fun C K hC hK => ?_; simp [rndT, hl, hl']; (repeat' first | refine And.intro ?_ ?_ | intro _ | refine iteI ?_ ?_ | (show (_ : Bool) = true; kernel_rfl) | (show _ ≤ _; first | omega | (simp; done) | (simp; omega)) | exact Or.inl rfl | (show _ < _; omega)); all_goals (refine hK _ ?_; clear hC hK C K; try simp only [tQ, bQ])) | (refine TW.cond rfl ?_ ?_ <;> intro hc <;> (try (cases hc; done))))
    refine Rets.nil (r := .p [gSt (0, 0), gB false]) ?_ rfl; simp
  · have hl' : ¬ (r.got.length : Int) < (r.gs.length : Int) := by omega
    rw [show lastD r = (maxL r.got, true) by rw [lastD, if_neg hl]]
    rcases hx : r.got with _ | ⟨x, xs⟩
    · rw [hx] at hl; exact absurd hgs hl
    · have hl' : ¬ (xs.length : Int) + 1 < (r.gs.length : Int) := by rw [hx] at hl; simp at hl; omega
      (repeat' first | refine TW.seq ?_ | refine TW.block ?_ | ((first | refine TW.skip ?_ | refine TW.exit ?_ | refine TW.ret ?_); (try simp only [tQ, bQ, if_true, Nat.reduceEqDiff, reduceIte])) | (refine TW.reg Td.mixed rfl fun C K hC hK => ?_; simp [rndT, hx, hl']; (repeat' first | refine And.intro ?_ ?_ | intro _ | refine iteI ?_ ?_ | (show (_ : Bool) = true; kernel_rfl) | (show _ ≤ _; first | omega | (simp; done) | (simp; omega)) | exact Or.inl rfl | (show _ < _; omega) | ((first | refine hC _ _ _ _ _ rfl (aC.plain rfl rfl (by simp; rfl) (by exact l2Max_T x xs) (by simp) (by simp) ?_)); simp [rndT, hx, hl'])); all_goals (refine hK _ ?_; clear hC hK C K; try simp only [tQ, bQ])) | (refine TW.cond rfl ?_ ?_ <;> intro hc <;> (try (cases hc; done))))
      refine Rets.nil (r := .p [gSt (maxL (x :: xs)), gB true]) ?_ rfl; simp [maxL]
theorem specRoundNew_T (m : Int) (gs : List Int) (hm : isMsgB m = true) (hs : setB gs = true) (hl : gs.length ≤ 4294967296) : TC Tw.prog E 77 [gI .i64 m, gR (intsT gs)] 0 [] (.p [rndO ⟨m, gs, []⟩ 0 1, gB true]) (rndS ⟨m, gs, []⟩) := by
  refine TC.enter Tw.func77 rfl (by kernel_rfl) Tw.ntmps77 (by rw [Try.results77]) (by simp) (Fits.nil rfl) ?_
  (repeat' first | refine TW.seq ?_ | refine TW.block ?_ | ((first | refine TW.skip ?_ | refine TW.exit ?_ | refine TW.ret ?_); (try simp only [tQ, bQ, if_true, Nat.reduceEqDiff, reduceIte])) | (refine TW.reg Td.mixed rfl fun C K hC hK => ?_; simp [hm, hs, maxLen]; (repeat' first | refine And.intro ?_ ?_ | intro _ | refine iteI ?_ ?_ | (show (_ : Bool) = true; kernel_rfl) | (show _ ≤ _; first | omega | (simp; done) | (simp; omega)) | exact Or.inl rfl | (show _ < _; omega) | ((first | refine hC _ _ _ _ _ rfl (aC.plain rfl rfl (by simp; rfl) (by exact l11Message_T _) (by simp) (by simp) ?_) | refine hC _ _ _ _ _ rfl (aC.plain rfl rfl (by simp; rfl) (by exact specGroupsValid_T _) (by simp) (by simp) ?_)); simp [hm, hs, maxLen])); all_goals (refine hK _ ?_; clear hC hK C K; try simp only [tQ, bQ])) | (refine TW.cond rfl ?_ ?_ <;> intro hc <;> (try (cases hc; done))))
  refine Rets.own [2, 3] [] (by simp; rfl) (by simp) (by simp) (by simp) (by simp) (by simp)
end Go.Proofs.Ytjklkppncmhehaa.T
