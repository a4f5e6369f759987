/- What wire.Encode answers, at any group. Conditions: lengths in reach. -/
import Derived.Test.YtalgbcgiiphoaaaGreatDoorWA
import Derived.Test.YtalgbcgiiphoaaaGreatDoorVA
namespace Go.Proofs.YtalgbcgiiphoaaaGreatDoor
open Go.RowKit Go.Lib Go.Sort
set_option linter.unusedVariables false
attribute [local go_sem ↓] Go.wp_at_zero Go.wp_at_succ
theorem natsB_Z (v : List Int) (h0 : ∀ x ∈ v, 0 ≤ x) : ∀ k, k ≤ v.length → natsB (fun i => v.getD i 0) k = (v.take k).flatMap natZ
  | 0, _ => by simp [natsB]
  | k + 1, hk => by
    have hkl : k < v.length := by omega
    have e : v.getD k 0 = v[k] := by rw [List.getD_eq_getElem?_getD, List.getElem?_eq_getElem hkl]; rfl
    rw [natsB_succ, natsB_Z v h0 k (by omega), List.take_succ_eq_append_getElem hkl, List.flatMap_append, List.flatMap_singleton, natZ_of (h0 _ (List.getElem_mem hkl)), e]
theorem natsS_Z (v : List Int) (h0 : ∀ x ∈ v, 0 ≤ x) : (natsS (fun i => v.getD i 0) v.length).data.toList = numsZ v := by
  unfold natsS numsZ
  have h1 : natZ (v.length : Int) = uvarint v.length := by rw [natZ_of (by omega)]; rfl
  rw [h1]
  show uvarint v.length ++ natsB _ _ = _
  rw [natsB_Z v h0 v.length (Nat.le_refl _), List.take_length]
def encV (g : Grp) : Value := if chkB g = true then .tuple #[.string ⟨(grpZ g).toArray⟩, .int .i64 0] else .tuple #[.string ⟨#[]⟩, .int .i64 80]
theorem fit_of {w : World} {S : Nat → Prop} {g : Grp} {dA oA : Option Addr} {dc oc : Nat} (hI : GrIn w S g dA dc oA oc) : fitG g := by
  obtain ⟨X, h1, h2⟩ := hI.ops
  refine ⟨by have := hI.dle; have := hI.dmax; unfold maxLen at this; omega, fun x hx => (hI.din x hx).2, fun o ho => ?_⟩
  obtain ⟨k, hk, e⟩ := getD_of_mem (z := opO 0 .zero) ho
  have := h2 k hk
  rw [e] at this
  have a1 := this.dle; have a2 := this.ele; have a3 := this.dmax; have a4 := this.emax; have a5 := this.name; have a6 := this.text
  unfold maxLen at a3 a4 a5 a6
  exact ⟨by unfold okB; omega, by unfold okB; omega, by omega, by omega⟩
set_option maxRecDepth 100000 in
set_option maxHeartbeats 16000000 in
theorem encode_any (g : Grp) (dA : Option Addr) (dc : Nat) (oA : Option Addr) (oc : Nat) (S : Nat → Prop) (w : World) (hI : GrIn w S g dA dc oA oc) (hT1 : ∀ o ∈ g.ops, o.text.size < 9223372036854775807) (hTx : g.ops.length ≤ 200 → ∀ o ∈ g.ops, o.text.size ≤ 1000000) (hTb : Tabs w) :
    Calls Tryz.prog 31 #[.agg (grA g dA dc oA oc)] w fun e w' => e = .returned (encV g) ∧ Below w.heap.size w w' := by
  obtain ⟨a, ha⟩ : ∃ a, a = chkB g := ⟨_, rfl⟩
  have hck : ∀ W, Below w.heap.size w W → Calls Tryz.prog 43 #[.agg (grA g dA dc oA oc)] W fun e w' => e = .returned (.int .i64 (if a = true then 0 else 80)) ∧ Below W.heap.size W w' := fun W hB => by
    rw [ha]; exact check_any g dA dc oA oc S W (hI.agr (Agr.below hB)) hT1 (hTb.below hB)
  have HCK := Lib.hid hck
  have HA := Lib.hid ha
  have HI := Lib.hid hI
  have HTX := Lib.hid hTx
  obtain ⟨ev, hev⟩ : ∃ ev, ev = encV g := ⟨_, rfl⟩
  rw [← hev]
  have HEV := Lib.hid hev
  clear hck ha hI hTx hT1 hTb hev
  obtain ⟨⟨t, r⟩, n, v, ⟨ut, ur⟩, ops⟩ := g
  show Calls _ _ #[.agg #[.int .i64 t, .int .i64 r, .int .i64 n, .slice dA v.length dc, .int .i64 ut, .int .i64 ur, .slice oA ops.length oc]] _ _
  have HB0 := Lib.hid (show Below w.heap.size w (w.alloc (.cells #[.int .i64 t, .int .i64 r, .int .i64 n, .slice dA v.length dc, .int .i64 ut, .int .i64 ur, .slice oA ops.length oc] 40)) from (Below.refl _ _).alloc (Nat.le_refl _) _)
  cases a with
  | false =>
    have HC : Hid (∀ W, Below w.heap.size w W → Calls Tryz.prog 43 #[.agg #[.int .i64 t, .int .i64 r, .int .i64 n, .slice dA v.length dc, .int .i64 ut, .int .i64 ur, .slice oA ops.length oc]] W fun e w' => e = .returned (.int .i64 80) ∧ Below W.heap.size W w') := HCK.out
    obtain rfl : ev = .tuple #[.string ⟨#[]⟩, .int .i64 80] := by rw [HEV.out]; unfold encV; rw [← HA.out]; rfl
    clear HCK
    go_enter Tryz.func31, Tryz.ntmps31
    go_wp2_with (go_at_call 43; refine (HC.out _ HB0.out).mono ?_; rintro e w1 ⟨rfl, hB1⟩)
    go_ret2
    exact ⟨rfl, HB0.out.trans (hB1.mono (by simp))⟩
  | true =>
    have HC : Hid (∀ W, Below w.heap.size w W → Calls Tryz.prog 43 #[.agg #[.int .i64 t, .int .i64 r, .int .i64 n, .slice dA v.length dc, .int .i64 ut, .int .i64 ur, .slice oA ops.length oc]] W fun e w' => e = .returned (.int .i64 0) ∧ Below W.heap.size W w') := HCK.out
    obtain rfl : ev = .tuple #[.string ⟨(grpZ ⟨⟨t, r⟩, n, v, ⟨ut, ur⟩, ops⟩).toArray⟩, .int .i64 0] := by rw [HEV.out]; unfold encV; rw [← HA.out]; rfl
    clear HCK
    have hfit := fit_of HI.out
    have HOK := Lib.hid (chk_ok hfit HA.out.symm)
    have HSH := Lib.hid (chk_sho HA.out.symm)
    have hvl : v.length ≤ 16 := HSH.out.2.1
    have hol : ops.length ≤ 200 := HSH.out.1
    clear hfit
    go_enter Tryz.func31, Tryz.ntmps31
    go_upto_region 4 with (go_at_call 43; refine (HC.out _ HB0.out).mono ?_; rintro e w1 ⟨rfl, hB1⟩)
    have HG1 := Lib.hid ((hB1.block w.heap.size (by simp)).trans (heap_alloc_new w _))
    have HB1 := Lib.hid (HB0.out.trans (hB1.mono (by simp)))
    have hlt1 : w.heap.size < w1.heap.size := by have := hB1.size; simp at this; omega
    have HW1 := Lib.hid (show WrQ w1.heap.size w1.heap.size [] (w1.alloc (.cells #[.pointer none, .slice none 0 0] 102)) (w1.alloc (.cells #[.pointer none, .slice none 0 0] 102)) from WrQ.refl (fresh_isBuilder _ _ w1))
    have HGa := Lib.hid ((Below.heap_alloc w1 (.cells #[.pointer none, .slice none 0 0] 102) _ hlt1).trans HG1.out)
    clear hB1
    go_upto_region 5 with (fail)
    generalize hW : w1.alloc (.cells #[.pointer none, .slice none 0 0] 102) = W at *
    have hWs : w1.heap.size < W.heap.size := by rw [← hW]; simp
    have HBW := Lib.hid (show Below w.heap.size w W by rw [← hW]; exact HB1.out.alloc (by omega) _)
    clear hW
    have gW0 : W.cell? ⟨w.heap.size, 0, none⟩ = some (.int .i64 t) := by rw [cell_of_row _ _ _ _ _ _ HGa.out]; rfl
    have gW1 : W.cell? ⟨w.heap.size, 1, none⟩ = some (.int .i64 r) := by rw [cell_of_row _ _ _ _ _ _ HGa.out]; rfl
    have gW2 : W.cell? ⟨w.heap.size, 2, none⟩ = some (.int .i64 n) := by rw [cell_of_row _ _ _ _ _ _ HGa.out]; rfl
    have hb1 := stZ_le HOK.out.1
    have hb2 := natZ_le HOK.out.2.1.2
    simp only at hb1 hb2
    go_wp2_with fail
    have HK := Lib.hid (HW1.out.alloc (by omega) (.cells #[.int .i64 t, .int .i64 r, .int .i64 n] 3))
    refine (wnats_any w1.heap.size w1.heap.size [] W.heap.size [t, r, n] 3 _ (by have h1 := HOK.out.1.1.2; have h2 := HOK.out.1.2.2; have h3 := HOK.out.2.1.2; simp only [List.mem_cons, List.not_mem_nil, or_false]; rintro x (rfl | rfl | rfl) <;> assumption) (by simp) (by simp) (by exact HK.out.1) (by exact heap_alloc_newC _ _ rfl) (by omega)).mono ?_
    rintro e w2 ⟨rfl, hq⟩
    have HQ2 := Lib.hid (show WrQ w1.heap.size w1.heap.size (stZ ⟨t, r⟩ ++ natZ n) W w2 by have := HK.out.trans (by exact hq); simpa [stZ, List.append_assoc] using this)
    have HG2 := Lib.hid (WrQ.obj HQ2.out HGa.out (by omega) (by decide))
    clear hq HK
    have gw23 : w2.cell? ⟨w.heap.size, 3, none⟩ = some (.slice dA v.length dc) := by rw [cell_of_row _ _ _ _ _ _ HG2.out]; rfl
    have hI2 := HI.out.agr (Agr.below (HBW.out.trans (HQ2.out.2.1.mono (by omega))))
    have HR2 := Lib.hid hI2.deps.vec
    clear hI2
    have HV0 := Lib.hid (fun i (hi : i < v.length) => HOK.out.2.2.1.2 (v.getD i 0) (by rw [List.getD_eq_getElem?_getD, List.getElem?_eq_getElem hi]; exact List.getElem_mem hi))
    go_wp2_with fail
    refine (nats_ok dA v.length dc (fun i => v.getD i 0) (by omega) (fun i hi => ⟨(HV0.out i hi).1, (HV0.out i hi).2⟩) w2 HR2.out).mono ?_
    rintro e w3 ⟨rfl, hB3⟩
    have HNZ := Lib.hid (natsS_Z v fun x hx => (HOK.out.2.2.1.2 x hx).1)
    obtain ⟨V, hV⟩ : ∃ V, V = natsS (fun i => v.getD i 0) v.length := ⟨_, rfl⟩
    rw [← hV] at HNZ ⊢
    clear hV
    have HQ3 := Lib.hid (HQ2.out.below hB3)
    have HG3 := Lib.hid ((hB3.block _ (lt_of_block HG2.out)).trans HG2.out)
    clear hB3
    have hnz : (numsZ v).length ≤ 170 := by
      have h1 := flat_le (z := natZ) (c := 10) (l := v) fun x hx => natZ_le (HOK.out.2.2.1.2 x hx).2
      have h2 : (natZ v.length).length ≤ 10 := natZ_le (by omega)
      unfold numsZ; rw [List.length_append]; omega
    have HVS := Lib.hid (show V.size = (numsZ v).length by rw [← HNZ.out]; simp)
    go_wp2_with fail
    refine (wstr_any w1.heap.size w1.heap.size (stZ ⟨t, r⟩ ++ natZ n) V w3 HQ3.out.1 (by rw [HVS.out, List.length_append]; omega) (by have := HQ3.out.1.pt; omega)).mono ?_
    rintro e w4 ⟨rfl, hq⟩
    have HQ4 := Lib.hid (show WrQ w1.heap.size w1.heap.size ((stZ ⟨t, r⟩ ++ natZ n) ++ numsZ v) W w4 by have := HQ3.out.trans hq; rw [HNZ.out] at this; exact this)
    have HG4 := Lib.hid (WrQ.obj hq HG3.out (by omega) (by decide))
    clear hq
    have gw44 : w4.cell? ⟨w.heap.size, 4, none⟩ = some (.int .i64 ut) := by rw [cell_of_row _ _ _ _ _ _ HG4.out]; rfl
    have gw45 : w4.cell? ⟨w.heap.size, 5, none⟩ = some (.int .i64 ur) := by rw [cell_of_row _ _ _ _ _ _ HG4.out]; rfl
    have gw46 : w4.cell? ⟨w.heap.size, 6, none⟩ = some (.slice oA ops.length oc) := by rw [cell_of_row _ _ _ _ _ _ HG4.out]; rfl
    have hb3 := stZ_le HOK.out.2.2.2.1
    simp only at hb3
    go_wp2_with fail
    have HK := Lib.hid (HQ4.out.alloc (by have := HQ4.out.1.pt; omega) (.cells #[.int .i64 ut, .int .i64 ur, .int .i64 (ops.length : Int)] 3))
    refine (wnats_any w1.heap.size w1.heap.size ((stZ ⟨t, r⟩ ++ natZ n) ++ numsZ v) w4.heap.size [ut, ur, (ops.length : Int)] 3 _ (by have h1 := HOK.out.2.2.2.1.1.2; have h2 := HOK.out.2.2.2.1.2.2; simp only [List.mem_cons, List.not_mem_nil, or_false]; rintro x (rfl | rfl | rfl); exact h1; exact h2; omega) (by simp only [List.length_append]; simp; omega) (by simp) (by exact HK.out.1) (by exact heap_alloc_newC _ _ rfl) (by have := HQ4.out.1.pt; omega)).mono ?_
    rintro e w5 ⟨rfl, hq⟩
    have HQ5 := Lib.hid (show WrQ w1.heap.size w1.heap.size (((stZ ⟨t, r⟩ ++ natZ n) ++ numsZ v) ++ (stZ ⟨ut, ur⟩ ++ natZ ops.length)) W w5 by have := HK.out.trans (by exact hq); simpa [stZ, List.append_assoc] using this)
    have HG5 := Lib.hid (WrQ.obj HQ5.out HGa.out (by omega) (by decide))
    clear hq HK
    have gw56 : w5.cell? ⟨w.heap.size, 6, none⟩ = some (.slice oA ops.length oc) := by rw [cell_of_row _ _ _ _ _ _ HG5.out]; rfl
    have hno : (natZ (ops.length : Int)).length ≤ 10 := natZ_le (by omega)
    obtain ⟨P, hP⟩ : ∃ P, P = ((stZ ⟨t, r⟩ ++ natZ n) ++ numsZ v) ++ (stZ ⟨ut, ur⟩ ++ natZ ops.length) := ⟨_, rfl⟩
    have hPl : P.length ≤ 300 := by rw [hP]; simp only [List.length_append]; omega
    have HP := Lib.hid (show P ++ ops.flatMap opZ = grpZ ⟨⟨t, r⟩, n, v, ⟨ut, ur⟩, ops⟩ by rw [hP]; simp [grpZ, stZ, List.append_assoc])
    have HPn := Lib.hid (show P ≠ [] by intro e; have h1 : 1 ≤ (natZ (ops.length : Int)).length := (by rw [natZ_of (by omega)]; exact uvarint_pos _); have h2 := congrArg List.length (hP.symm.trans e); simp only [List.length_append, List.length_nil] at h2; omega)
    have HQP := Lib.hid (show WrQ w1.heap.size w1.heap.size P W w5 by rw [hP]; exact HQ5.out)
    clear hP hno hb1 hb2 hb3 hnz
    obtain ⟨m, hm⟩ : ∃ m, m = ops.length := ⟨_, rfl⟩
    have HM := Lib.hid hm
    rw [← hm] at gw56 hol
    clear hm
    have hN : (ops.length : Int) = (m : Int) := by rw [HM.out]
    try rw [hN]
    clear hN
    obtain ⟨X, hX1, hX2⟩ := HI.out.ops
    have HX1 := Lib.hid hX1
    have HX2 := Lib.hid hX2
    clear hX1 hX2
    go_upto_region 10 with (fail)
    go_loopw [54] (fun i wr => ∃ j : Nat, j ≤ m ∧ i = .int .i64 j ∧ Hid (WrQ w1.heap.size w1.heap.size (P ++ (ops.take j).flatMap opZ) W wr)) (fun i _ => m - (RowKit.intOf i).toNat)
    case atStart => exact ⟨0, by omega, rfl, Lib.hid (by rw [List.take_zero, List.flatMap_nil, List.append_nil]; exact HQP.out)⟩
    case round =>
      obtain ⟨j, hj, rfl, HR⟩ := hrel
      by_cases hlt : j < m
      · have hjl : j < ops.length := by have := HM.out; omega
        have HBr := Lib.hid (HBW.out.trans (HR.out.2.1.mono (by omega)))
        obtain ⟨ob, oo, rfl, hS, hob, hc⟩ := (RowG.agr HX1.out (Agr.below HBr.out)) j hjl
        have hIn := HX2.out j hjl
        obtain ⟨o, ho⟩ : ∃ o, o = ops.getD j (opO 0 .zero) := ⟨_, rfl⟩
        obtain ⟨x, hx⟩ : ∃ x, x = X j := ⟨_, rfl⟩
        rw [← ho] at hIn
        simp only [← ho, ← hx] at hIn hc
        have hom : o ∈ ops := by rw [ho, List.getD_eq_getElem?_getD, List.getElem?_eq_getElem hjl]; exact List.getElem_mem hjl
        have HT := Lib.hid (show (P ++ (ops.take j).flatMap opZ) ++ opZ o = P ++ (ops.take (j + 1)).flatMap opZ by rw [List.take_succ_eq_append_getElem hjl, List.flatMap_append, List.flatMap_singleton, ho, List.getD_eq_getElem?_getD, List.getElem?_eq_getElem hjl, List.append_assoc]; rfl)
        have hpl : (P ++ (ops.take j).flatMap opZ).length ≤ 300 + 1061000 * 200 := by
          have h1 := flat_le (z := opZ) (c := 1061000) (l := ops.take j) fun y hy => opZ_le (M := 1000000) (HOK.out.2.2.2.2.2 y (List.mem_of_mem_take hy)) (HSH.out.2.2 y (List.mem_of_mem_take hy)) (HTX.out HSH.out.1 y (List.mem_of_mem_take hy))
          have h2 : (ops.take j).length ≤ 200 := by have := List.length_take_le j ops; omega
          have h3 : 1061000 * (ops.take j).length ≤ 1061000 * 200 := Nat.mul_le_mul_left _ h2
          rw [List.length_append]; omega
        obtain ⟨P2, hP2⟩ : ∃ P2, P2 = P ++ (ops.take j).flatMap opZ := ⟨_, rfl⟩
        rw [← hP2] at hpl
        have HP2 := Lib.hid hP2
        have HR2 := Lib.hid (show WrQ w1.heap.size w1.heap.size P2 W wr by rw [HP2.out]; exact HR.out)
        have hsh := HSH.out.2.2 o hom
        have hoi : ∀ c, OpIn (wr.alloc c) (fun k => k < w1.heap.size) o x := fun c =>
          ((hIn.sub (T := fun k => k < w.heap.size) (fun k hk _ => hk)).agr (Agr.below (HBr.out.alloc HBr.out.size c))).sub (fun k _ hk => by have hk : k < w.heap.size := hk; show k < w1.heap.size; omega)
        have hOp := fun c => wop_any w1.heap.size w1.heap.size P2 o x (wr.alloc c) (HOK.out.2.2.2.2.2 o hom) hsh.dots hsh.elems (by have := hsh.name; omega) (HTX.out HSH.out.1 o hom) (by omega) (HR2.out.1.alloc c) (hoi c)
        clear hoi hIn ho hx hP2 hom hjl hsh
        obtain ⟨z, hz⟩ : ∃ z, z = opZ o := ⟨_, rfl⟩
        rw [← hz] at HT
        simp only [← hz] at hOp
        clear hz
        obtain ⟨kind, ⟨⟨nt, nr⟩, ni⟩, ⟨⟨pt, pr⟩, pi⟩, name, dir, dots, ⟨⟨at_, ar⟩, ai⟩, ⟨⟨et, er⟩, ei⟩, text, elems⟩ := o
        obtain ⟨xd, xdc, xe, xec⟩ := x
        have HOp : Hid (∀ c, Calls Tryz.prog 62 #[.pointer (some ⟨w1.heap.size, 0, none⟩), .agg #[.int .i64 kind, .int .i64 nt, .int .i64 nr, .int .i64 ni, .int .i64 pt, .int .i64 pr, .int .i64 pi, .string name, .bool dir, .slice xd dots.length xdc, .int .i64 at_, .int .i64 ar, .int .i64 ai, .int .i64 et, .int .i64 er, .int .i64 ei, .string text, .slice xe elems.length xec]] (wr.alloc c) fun e w' => e = .returned (.tuple #[]) ∧ WrQ w1.heap.size w1.heap.size (P2 ++ z) (wr.alloc c) w') := Lib.hid hOp
        clear hOp
        have c0 : wr.cell? ⟨ob, oo + j * 18, none⟩ = some (.int .i64 kind) := hc 0 (by omega)
        have c1 : wr.cell? ⟨ob, oo + j * 18 + 1, none⟩ = some (.int .i64 nt) := hc 1 (by omega)
        have c2 : wr.cell? ⟨ob, oo + j * 18 + 2, none⟩ = some (.int .i64 nr) := hc 2 (by omega)
        have c3 : wr.cell? ⟨ob, oo + j * 18 + 3, none⟩ = some (.int .i64 ni) := hc 3 (by omega)
        have c4 : wr.cell? ⟨ob, oo + j * 18 + 4, none⟩ = some (.int .i64 pt) := hc 4 (by omega)
        have c5 : wr.cell? ⟨ob, oo + j * 18 + 5, none⟩ = some (.int .i64 pr) := hc 5 (by omega)
        have c6 : wr.cell? ⟨ob, oo + j * 18 + 6, none⟩ = some (.int .i64 pi) := hc 6 (by omega)
        have c7 : wr.cell? ⟨ob, oo + j * 18 + 7, none⟩ = some (.string name) := hc 7 (by omega)
        have c8 : wr.cell? ⟨ob, oo + j * 18 + 8, none⟩ = some (.bool dir) := hc 8 (by omega)
        have c9 : wr.cell? ⟨ob, oo + j * 18 + 9, none⟩ = some (.slice xd dots.length xdc) := hc 9 (by omega)
        have c10 : wr.cell? ⟨ob, oo + j * 18 + 10, none⟩ = some (.int .i64 at_) := hc 10 (by omega)
        have c11 : wr.cell? ⟨ob, oo + j * 18 + 11, none⟩ = some (.int .i64 ar) := hc 11 (by omega)
        have c12 : wr.cell? ⟨ob, oo + j * 18 + 12, none⟩ = some (.int .i64 ai) := hc 12 (by omega)
        have c13 : wr.cell? ⟨ob, oo + j * 18 + 13, none⟩ = some (.int .i64 et) := hc 13 (by omega)
        have c14 : wr.cell? ⟨ob, oo + j * 18 + 14, none⟩ = some (.int .i64 er) := hc 14 (by omega)
        have c15 : wr.cell? ⟨ob, oo + j * 18 + 15, none⟩ = some (.int .i64 ei) := hc 15 (by omega)
        have c16 : wr.cell? ⟨ob, oo + j * 18 + 16, none⟩ = some (.string text) := hc 16 (by omega)
        have c17 : wr.cell? ⟨ob, oo + j * 18 + 17, none⟩ = some (.slice xe elems.length xec) := hc 17 (by omega)
        clear hc
        go_wp2_with (first
          | (go_at_call 62; refine (HOp.out _).mono ?_; rintro e w9 ⟨rfl, hq⟩; have HQ9 := Lib.hid ((HR2.out.alloc (by have := HR2.out.1.pt; omega) _).trans (by exact hq)); clear hq)
          | (refine store_last rfl _ _ _ rfl _ _ _ _ rfl ?_ rfl ?_ ?_ ?_ ?_; (focus (simp; done)); kernel_rfl; rfl; rfl)
          | (refine load_last rfl _ _ rfl _ _ _ _ rfl ?_ Tryz.underlying70 rfl ?_ ?_; (focus (simp; done)); kernel_rfl))
        go_roundw
        case rel => exact ⟨j + 1, by omega, by go_num, Lib.hid (by rw [← HT.out, ← HP2.out]; exact HQ9.out)⟩
        case measure => simp [RowKit.intOf]; omega
      · obtain rfl : j = m := by omega
        have HF := Lib.hid (show WrQ w1.heap.size w1.heap.size (grpZ ⟨⟨t, r⟩, n, v, ⟨ut, ur⟩, ops⟩) W wr by have := HR.out; rw [HM.out, List.take_length, HP.out] at this; exact this)
        have HFn := Lib.hid (show grpZ ⟨⟨t, r⟩, n, v, ⟨ut, ur⟩, ops⟩ ≠ [] by rw [← HP.out]; intro e; exact HPn.out (List.append_eq_nil_iff.1 e).1)
        obtain ⟨Z, hZ⟩ : ∃ Z, Z = grpZ ⟨⟨t, r⟩, n, v, ⟨ut, ur⟩, ops⟩ := ⟨_, rfl⟩
        have HZ := Lib.hid hZ
        have HF2 := Lib.hid (show WrQ w1.heap.size w1.heap.size Z W wr by rw [hZ]; exact HF.out)
        have HFn2 := Lib.hid (show Z ≠ [] by rw [hZ]; exact HFn.out)
        clear hZ
        go_wp2_with (go_at_call 63; refine (wstring_any w1.heap.size w1.heap.size Z wr HF2.out.1 HFn2.out).mono ?_; rintro e w9 ⟨rfl, hB9⟩)
        go_ret2
        exact ⟨by have hz := HZ.out; subst hz; rfl, HBW.out.trans ((HF.out.2.1.trans (by exact hB9)).mono (by omega))⟩
end Go.Proofs.YtalgbcgiiphoaaaGreatDoor
