/- Stamps as keys of a map. Conditions: numbers of 64 bits. -/
import Derived.Test.YtalgbcgiiphoaaaGreatDoorGrb
import Derived.Maps.OwnSet
import Derived.DeepKeys4
namespace Go.Proofs.YtalgbcgiiphoaaaGreatDoor
open Go.RowKit Go.Lib Go.Sort Go.Maps Go.ChangeShapes Go.WideShapes
set_option linter.unusedVariables false
theorem kLaid : laidOutB Tryz.prog = true := by kernel_rfl
theorem kRow : (37 : TypeId) < Tryz.prog.types.size := of_decide_eq_true (by kernel_rfl)
theorem kWide : (match Tryz.prog.underlying 37 with | some (.array _ _) | some (.struct _) => true | _ => false) = true := by rw [Tryz.underlying37]
set_option maxRecDepth 100000 in
theorem law_st : Keyed Tryz.prog 37 := Keyed.of_law (deep_law_laid kLaid (m := 3) (by omega) kRow (by kernel_rfl) kWide)
theorem kType : Tryz.prog.keyType 37 = true := by kernel_rfl
theorem kFormed (a b : Value) : (Value.agg #[a, b]).formed Tryz.prog 37 = true := by
  simp [Value.formed, Tryz.underlying37, cells_st]
def kst (s : Gst) : Lit := .string (keyBytes [.int .i64 s.t, .int .i64 s.r])
theorem wf_of_i63 {n : Int} (h : i63 n) : (Lit.int .i64 n).wf = true := by
  have : -9223372036854775808 ≤ n ∧ n ≤ 9223372036854775807 := ⟨h.1, by have := h.2; omega⟩
  simpa [Lit.wf, IntKind.min, IntKind.max, IntKind.bits, IntKind.signed] using this
theorem key_st (s : Gst) (h1 : i63 s.t) (h2 : i63 s.r) : keyOf Tryz.prog 37 (.agg #[.int .i64 s.t, .int .i64 s.r]) = some (kst s) := by
  have w1 := wf_of_i63 h1
  have w2 := wf_of_i63 h2
  obtain ⟨m, hm⟩ : ∃ m, Tryz.prog.types.size = m + 1 := Nat.exists_eq_succ_of_ne_zero (fun e => by have := kRow; rw [e] at this; exact absurd this (Nat.not_lt_zero _))
  unfold keyOf
  rw [Tryz.underlying37]
  simp only [kType, kFormed, Bool.and_self, if_true, hm]
  have e : Tryz.prog.keyLits (m + 1 + 1) 37 [.int .i64 s.t, .int .i64 s.r] = some [.int .i64 s.t, .int .i64 s.r] := by
    unfold Program.keyLits
    rw [Tryz.underlying37]
    simp [cells_st, cells_int, Program.keyLits, Tryz.underlying3, w1, w2]
  show (Tryz.prog.keyLits (m + 1 + 1) 37 [.int .i64 s.t, .int .i64 s.r]).map _ = _
  rw [e]
  rfl
theorem kst_inj {a b : Gst} (ha : i63 a.t ∧ i63 a.r) (hb : i63 b.t ∧ i63 b.r) (h : kst a = kst b) : a = b := by
  have h1 := key_st a ha.1 ha.2
  have h2 := key_st b hb.1 hb.2
  rw [h] at h1
  have := law_st.inj h1 h2
  cases a; cases b
  simpa using this
theorem right_i63 {s : Gst} (h : s.right = true) : i63 s.t ∧ i63 s.r := by
  simp only [Gst.right, Bool.and_eq_true, decide_eq_true_eq] at h
  exact ⟨⟨by omega, by omega⟩, by omega, by omega⟩
/-- a map of the names of groups -/
def setG {H : Type} (l : List Grp) : DataW H := Maps.setOf (.agg []) (l.map fun g => kst g.s)
theorem setG_snoc {H : Type} (l : List Grp) (g : Grp) : (setG (l ++ [g]) : DataW H) = (setG l).put (kst g.s) (.agg []) := by
  unfold setG
  rw [List.map_append]
  exact Maps.setOf_snoc _ _ _
theorem kst_key (s : Gst) (h : i63 s.t ∧ i63 s.r) : WideAt.IsKeyLit (kst s) := law_st.key (key_st s h.1 h.2)
theorem has_setG {H : Type} (l : List Grp) (s : Gst) (hl : ∀ g ∈ l, g.s.right = true) (hs : s.right = true) : Maps.has (setG l : DataW H) (kst s) = l.any (fun d => d.s.eqb s) := by
  unfold setG
  rw [Maps.has_setOf _ _ _ (fun x hx => by
    obtain ⟨g, hg, rfl⟩ := List.mem_map.1 hx
    exact kst_key _ (right_i63 (hl g hg)))]
  rw [Bool.eq_iff_iff, List.any_eq_true, List.any_eq_true]
  constructor
  · rintro ⟨x, hx, he⟩
    obtain ⟨g, hg, rfl⟩ := List.mem_map.1 hx
    refine ⟨g, hg, Gst.eqb_iff.2 (kst_inj (right_i63 (hl g hg)) (right_i63 hs) ?_)⟩
    rcases Classical.em (kst g.s = kst s) with h | h
    · exact h
    · rw [Maps.sameKey_ne h] at he; cases he
  · rintro ⟨g, hg, he⟩
    refine ⟨kst g.s, List.mem_map.2 ⟨g, hg, rfl⟩, ?_⟩
    rw [Gst.eqb_iff.1 he]
    simp [kst, Lit.sameKey]
end Go.Proofs.YtalgbcgiiphoaaaGreatDoor
