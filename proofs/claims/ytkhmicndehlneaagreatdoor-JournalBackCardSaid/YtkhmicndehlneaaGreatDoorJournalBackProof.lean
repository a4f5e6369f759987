/- JournalBack: for every input the call returns true, and each argument reads behind it as it read before. Condition: the two tables of utf8 hold what the program's text lays, and the card ties that to the text. -/
import Derived.Test.YtkhmicndehlneaaGreatDoorRows
import Derived.Test.YtkhmicndehlneaaGreatDoorCards
import Derived.Test.YtkhmicndehlneaaGreatDoorTie
import Derived.Test.YtkhmicndehlneaaGreatDoorYb0
import Derived.Test.YtkhmicndehlneaaGreatDoorYba
import Derived.Test.YtkhmicndehlneaaGreatDoorYbb
import Derived.Test.YtkhmicndehlneaaGreatDoorYbc
import Derived.Test.YtkhmicndehlneaaGreatDoorYbd
import Derived.Test.YtkhmicndehlneaaGreatDoorYbe
import Derived.Test.YtkhmicndehlneaaGreatDoorYbf
import Derived.Test.YtkhmicndehlneaaGreatDoorYbg
import Derived.Test.YtkhmicndehlneaaGreatDoorYbh
import Derived.Test.YtkhmicndehlneaaGreatDoorYbi
import Derived.Test.YtkhmicndehlneaaGreatDoorYbj
import Derived.Test.YtkhmicndehlneaaGreatDoorYbk
import Derived.Test.YtkhmicndehlneaaGreatDoorYbl
import Derived.Test.YtkhmicndehlneaaGreatDoorYbm
import Derived.Test.YtkhmicndehlneaaGreatDoorYbn
import Derived.Test.YtkhmicndehlneaaGreatDoorYbo
import Derived.Test.YtkhmicndehlneaaGreatDoorYbp
import Derived.Test.YtkhmicndehlneaaGreatDoorYbq
import Derived.Test.YtkhmicndehlneaaGreatDoorYbr
import Derived.Test.YtkhmicndehlneaaGreatDoorYbs
import Derived.Test.YtkhmicndehlneaaGreatDoorYbt
import Derived.Test.YtkhmicndehlneaaGreatDoorYbu
import Derived.Test.YtkhmicndehlneaaGreatDoorYbv
import Derived.Test.YtkhmicndehlneaaGreatDoorYbw
import Derived.Test.YtkhmicndehlneaaGreatDoorYbx
import Derived.Test.YtkhmicndehlneaaGreatDoorYby
import Derived.Test.YtkhmicndehlneaaGreatDoorYbz
import Derived.Test.YtkhmicndehlneaaGreatDoorYbA
import Derived.Test.YtkhmicndehlneaaGreatDoorYbB
import Derived.Test.YtkhmicndehlneaaGreatDoorYbC
import Derived.Test.YtkhmicndehlneaaGreatDoorYbD
import Derived.Test.YtkhmicndehlneaaGreatDoorYbE
import Derived.Lib.LaidIn
import Derived.Lib.LaidU8T
import Derived.Deep.DeepHandedRow
import Derived.Deep.DeepWitnessRowRef
import Derived.ProofKit
import Derived.OpenShut
import Derived.SizedLaws
import Derived.ShutString
import Derived.ChangeOld
import Derived.Below
import Derived.SevenTiedAt
namespace Go.Proofs.YtkhmicndehlneaaGreatDoor.journalBack
open Go.Shelf
open Go.ChangeShapes Go.WideShapes Go.ChangeAt Go.RowKit Go.Lib
open Go.ChangeMaps (open_string shut_string)
set_option linter.unusedVariables false
theorem own : ownKnob Tryz.prog.godebug = none := by kernel_rfl
theorem laidOut : laidOutB Tryz.prog = true := by kernel_rfl
/-- a world in which the two tables hold what their initialisers lay -/
noncomputable def laidWorld (os : Os) : World :=
  let w0 := World.holding Tryz.prog os ⟨#[], #[], []⟩
  let put (h : Array Obj) (g : Nat) (cs : Array Value) : Array Obj := h.modify g fun
    | .cells _ t frozen => .cells cs t frozen
    | o => o
  let h1 := put w0.heap 0 (Lib.firstTab.map fun z => Value.int .u8 z).toArray
  let h2 := put h1 1 ((List.range 16).flatMap fun i => [Value.int .u8 (Lib.accLo i), Value.int .u8 (Lib.accHi i)]).toArray
  { w0 with heap := h2 }
theorem laid_met (os : Os) (args : Array Value) : laidMet Tryz.prog Rows.journalBackRow.laid ((laidWorld os).forCall (fun _ _ => 0) ⟨#[], args, []⟩).memory :=
  (LaidIn.of_run (l := [("unicode/utf8.acceptRanges", Rows.laid_unicode_utf8_acceptRanges), ("unicode/utf8.first", Rows.laid_unicode_utf8_first)]) [1, 0] 8 (by kernel_rfl) (by kernel_rfl) (by kernel_rfl) (by kernel_rfl)).met
theorem witness_row (os : Os) {H : Type} (enc : TypeId × Value → H) :
    (OpenSpec.ofChange Rows.journalBackSpec).preRow enc Tryz.prog Tryz.f3 Rows.journalBackRow.domain false Rows.journalBackRow.laid ((laidWorld os).forCall (fun _ _ => 0) ⟨#[], #[.slice none 0 0, .slice none 0 0, .int .i64 0], []⟩).memory #[.slice none 0 0, .slice none 0 0, .int .i64 0] := by
  have hw : (DataW.whole enc Tryz.prog ((laidWorld os).forCall (fun _ _ => 0) ⟨#[], #[.slice none 0 0, .slice none 0 0, .int .i64 0], []⟩).memory Tryz.f3.params.toList (OpenSpec.ofChange Rows.journalBackSpec).vars false (#[.slice none 0 0, .slice none 0 0, .int .i64 0] : Array Value).toList 8).map (fun x => (x.1, x.2.1)) =
      some ([.nil, .nil, .lit (.int .i64 0)], []) := by kernel_rfl
  obtain ⟨⟨x1, x2, x3⟩, hx, hx1⟩ := Option.map_eq_some_iff.1 hw
  simp only [Prod.mk.injEq] at hx1
  obtain ⟨rfl, rfl⟩ := hx1
  exact OpenSpec.preRow_of_cond 8 hx (by kernel_rfl) (fun k hk => by cases hk) (by kernel_rfl) (laid_met os _)
set_option maxRecDepth 100000 in
set_option maxHeartbeats 2000000 in
theorem lifted (os : Os) (started : os.Started) (H : Type) (enc : TypeId × Value → H) (F : Stop.Interp) :
    ReturnsInHanded {} Tryz.checked os 3 .any ((OpenSpec.ofChange Rows.journalBackSpec).preRow enc Tryz.prog Tryz.f3 Rows.journalBackRow.domain false Rows.journalBackRow.laid) (((OpenSpec.ofChange Rows.journalBackSpec).at F).post enc Tryz.prog Tryz.f3 false true false false) := by
  refine returnsInHanded_of_row (C := Tryz.checked) (s := OpenSpec.ofChange Rows.journalBackSpec) own started (by kernel_rfl) Tryz.func3
    (witness_row_atRef (enc := enc) (C := Tryz.checked) false (laidWorld os) #[.slice none 0 0, .slice none 0 0, .int .i64 0] rfl (by kernel_rfl) (by kernel_rfl) (by kernel_rfl) (witness_row os enc)) ?_
  intro W base args ds gs before hval0 hW _ _ hsz0 hL _ _
  have hval : ∀ (j : Nat) t v, Tryz.f3.params[j]? = some t → args[j]? = some v → Value.okWide Tryz.prog W .any base t v := hval0
  have hsz : (DataW.weightsEach Tryz.prog (Tryz.f3.params.toList ++ (OpenSpec.ofChange Rows.journalBackSpec).bare.plain.varTypes Tryz.prog) (ds ++ gs)).all (· ≤ reachBytes) = true := hsz0
  clear hsz0
  have hW' := hW
  obtain ⟨p, q, hA0, hV, rfl, _, _⟩ := hW
  have hA : DataW.TrodAll enc Tryz.prog W 0 (fun _ => true) true Tryz.f3.params.toList args.toList ds p := hA0
  rw [Tryz.params3] at hA hval hsz
  obtain ⟨v0, vs0, d0, ds0, p0, q0, hargs, rfl, rfl, h0, r0⟩ := trodAll_cons hA
  obtain ⟨v1, vs1, d1, ds1, p1, q1, rfl, rfl, rfl, h1, r1⟩ := trodAll_cons r0
  obtain ⟨v2, vs2, d2, ds2, p2, q2, rfl, rfl, rfl, h2, r2⟩ := trodAll_cons r1
  obtain ⟨rfl, rfl, rfl⟩ := trodAll_nil r2
  obtain rfl : args = #[v0, v1, v2] := by cases args; simp_all
  obtain ⟨rfl, rfl⟩ := trodVars_none hV
  have k0 := h0
  have lt0 : ∀ x ∈ p0, x.block < W.heap.size := by obtain ⟨m, hm⟩ := k0; exact DataW.trod_lt m _ _ _ hm
  obtain ⟨a0, len0, cap0, rfl⟩ := okWide_slice Tryz.underlying22 (hval 0 22 v0 rfl rfl)
  obtain ⟨z0, e0, hc0, hm0, hZ0, hY0⟩ : ∃ (L : List Doo), len0 = L.length ∧ L.length ≤ cap0 ∧ cap0 ≤ maxLen ∧ RowF W (Here W) a0 6 doC do0 L ∧ ∀ y ∈ L, doOk y := by
    obtain ⟨fuel, hf⟩ := h0
    obtain ⟨A, L, c, e1, e2, e3, e4, e5⟩ := opn_dos hf
    simp [Value.cells] at e1
    obtain ⟨rfl, rfl, rfl⟩ := e1
    exact ⟨L, rfl, e2, e3, e4, e5⟩
  subst e0
  have k1 := h1
  have lt1 : ∀ x ∈ p1, x.block < W.heap.size := by obtain ⟨m, hm⟩ := k1; exact DataW.trod_lt m _ _ _ hm
  obtain ⟨a1, len1, cap1, rfl⟩ := okWide_slice Tryz.underlying23 (hval 1 23 v1 rfl rfl)
  obtain ⟨z1, e1, hc1, hm1, hZ1, hY1⟩ : ∃ (L : List Int), len1 = L.length ∧ L.length ≤ cap1 ∧ cap1 ≤ maxLen ∧ RowF W (Here W) a1 1 u8L 0 L ∧ ∀ y ∈ L, 0 ≤ y ∧ y ≤ 255 := by
    obtain ⟨fuel, hf⟩ := h1
    obtain ⟨A, L, c, e1, e2, e3, e4, e5⟩ := opn_u8s hf
    simp [Value.cells] at e1
    obtain ⟨rfl, rfl, rfl⟩ := e1
    exact ⟨L, rfl, e2, e3, e4, e5⟩
  subst e1
  obtain ⟨a2, rfl, rfl, rfl, w2⟩ := open_int Tryz.underlying3 (hval 2 3 v2 rfl rfl) h2
  clear hA0 hval0
  have htab : Tabs W :=
    utf8Tabs_of_readsT (U8Types.of196 Tryz.lays196) ⟨by kernel_rfl, by kernel_rfl, by kernel_rfl, by kernel_rfl, by kernel_rfl, by kernel_rfl, by kernel_rfl⟩ (Lib.laidMet.reads hL (.tail _ (.head _))) (Lib.laidMet.reads hL (.head _))
  refine (journalback_card z0 a0 cap0 z1 a1 cap1 a2 W hc0 hm0 hZ0 hY0 hc1 hm1 hZ1 hY1 w2 htab).mono ?_
  rintro e W' ⟨rfl, bel⟩
  exact ⟨_, rfl, _, _, _, [], _, [], hW', trodAll_mk1 (shut_bool Tryz.underlying4 _), (trodAll_cons_mk (Below.trod laidOut (by kernel_rfl) (of_decide_eq_true (by kernel_rfl)) k0 bel lt0) (trodAll_cons_mk (Below.trod laidOut (by kernel_rfl) (of_decide_eq_true (by kernel_rfl)) k1 bel lt1) (trodAll_cons_mk (shut_int Tryz.underlying3 w2) trodAll_mk0))), rfl, bel.frame _, fun h => by cases h⟩
theorem over : Rows.JournalBackSaid :=
  OpenClaim.holds_of_cond 3 Tryz.f3 rfl rfl rfl rfl rfl rfl rfl ⟨rfl, rfl, rfl, rfl, rfl⟩ rfl rfl rfl rfl rfl (by kernel_rfl) Tryz.func3 (by kernel_rfl)
    (of_decide_eq_true (by kernel_rfl)) (by unfold Func.isWrapper; first | (rw [if_pos (by decide +kernel)]; kernel_rfl) | (rw [if_neg (by decide +kernel)]; exact ⟨rfl, rfl⟩))
    (fun os started H enc _ F0 => by rw [OpenClaim.pre_eq_preRow]; exact lifted os started H enc F0)
theorem proved : Rows.JournalBackCardSaid :=
  Claim7.holds_tied_plain_at .later [] [.data, .pinned] true _ false
    over (fun _ h => by cases h) (by kernel_rfl) (fun _ h => by cases h) journalBack_row_tie rfl ⟨rfl, rfl⟩ (by kernel_rfl) rfl
    (fun f fn hf hfn => by
      obtain rfl : f = 3 := Option.some.inj ((show Tryz.prog.funcNamed "recension/recensionlaw25.JournalBack" = some 3 by kernel_rfl).symm.trans hf) |>.symm
      obtain rfl : fn = Tryz.f3 := (Option.some.inj (Tryz.func3.symm.trans hfn)).symm
      exact ⟨by kernel_rfl, fun j t ht => by
        rw [Tryz.params3] at ht
        have hq : (!Tryz.prog.wantsStandIn t) = true := List.all_eq_true.1 (show (Tryz.f3.params.toList.all fun t => !Tryz.prog.wantsStandIn t) = true by kernel_rfl) t (by rw [Tryz.params3]; rw [← Array.getElem?_toList] at ht; exact List.mem_of_getElem? ht)
        show Tryz.prog.wantsStandIn t = false
        exact Bool.eq_false_iff.2 (fun e => by rw [e] at hq; cases hq)⟩)
    (by kernel_rfl)
#print axioms proved
end Go.Proofs.YtkhmicndehlneaaGreatDoor.journalBack
