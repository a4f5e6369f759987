/- JournalRecovers: for every input the call returns true, and each argument reads behind it as it read before. Condition: the two tables of utf8 hold what the program's text lays, and the card ties that to the text. -/
import Derived.Test.YtkhmicndehlneaaGreatDoorRows
import Derived.Test.YtkhmicndehlneaaGreatDoorCards
import Derived.Test.YtkhmicndehlneaaGreatDoorTie
import Derived.Test.YtkhmicndehlneaaGreatDoorYr0
import Derived.Test.YtkhmicndehlneaaGreatDoorYra
import Derived.Test.YtkhmicndehlneaaGreatDoorYrb
import Derived.Test.YtkhmicndehlneaaGreatDoorYrc
import Derived.Test.YtkhmicndehlneaaGreatDoorYrd
import Derived.Test.YtkhmicndehlneaaGreatDoorYre
import Derived.Test.YtkhmicndehlneaaGreatDoorYrf
import Derived.Test.YtkhmicndehlneaaGreatDoorYrg
import Derived.Test.YtkhmicndehlneaaGreatDoorYrh
import Derived.Test.YtkhmicndehlneaaGreatDoorYri
import Derived.Test.YtkhmicndehlneaaGreatDoorYrj
import Derived.Test.YtkhmicndehlneaaGreatDoorYrk
import Derived.Test.YtkhmicndehlneaaGreatDoorYrl
import Derived.Test.YtkhmicndehlneaaGreatDoorYrm
import Derived.Test.YtkhmicndehlneaaGreatDoorYrn
import Derived.Test.YtkhmicndehlneaaGreatDoorYro
import Derived.Test.YtkhmicndehlneaaGreatDoorYrp
import Derived.Test.YtkhmicndehlneaaGreatDoorYrq
import Derived.Test.YtkhmicndehlneaaGreatDoorYrr
import Derived.Test.YtkhmicndehlneaaGreatDoorYrs
import Derived.Test.YtkhmicndehlneaaGreatDoorYrt
import Derived.Test.YtkhmicndehlneaaGreatDoorYru
import Derived.Test.YtkhmicndehlneaaGreatDoorYrv
import Derived.Test.YtkhmicndehlneaaGreatDoorYrw
import Derived.Test.YtkhmicndehlneaaGreatDoorYrx
import Derived.Test.YtkhmicndehlneaaGreatDoorYry
import Derived.Test.YtkhmicndehlneaaGreatDoorYrz
import Derived.Test.YtkhmicndehlneaaGreatDoorYrA
import Derived.Test.YtkhmicndehlneaaGreatDoorYrB
import Derived.Test.YtkhmicndehlneaaGreatDoorYrC
import Derived.Test.YtkhmicndehlneaaGreatDoorYrD
import Derived.Test.YtkhmicndehlneaaGreatDoorYrE
import Derived.Lib.LaidIn
import Derived.Lib.LaidU8T
import Derived.Deep.DeepHandedRow
import Derived.Deep.DeepWitnessRowRef
import Derived.ProofKit
import Derived.OpenShut
import Derived.SizedLaws
import Derived.ShutString
import Derived.ChangeOld
import Derived.Below
import Derived.SevenTiedAt
namespace Go.Proofs.YtkhmicndehlneaaGreatDoor.journalRecovers
open Go.Shelf
open Go.ChangeShapes Go.WideShapes Go.ChangeAt Go.RowKit Go.Lib
open Go.ChangeMaps (open_string shut_string)
set_option linter.unusedVariables false
theorem own : ownKnob Tryz.prog.godebug = none := by kernel_rfl
theorem laidOut : laidOutB Tryz.prog = true := by kernel_rfl
/-- a world in which the two tables hold what their initialisers lay -/
noncomputable def laidWorld (os : Os) : World :=
  let w0 := World.holding Tryz.prog os ⟨#[], #[], []⟩
  let put (h : Array Obj) (g : Nat) (cs : Array Value) : Array Obj := h.modify g fun
    | .cells _ t frozen => .cells cs t frozen
    | o => o
  let h1 := put w0.heap 0 (Lib.firstTab.map fun z => Value.int .u8 z).toArray
  let h2 := put h1 1 ((List.range 16).flatMap fun i => [Value.int .u8 (Lib.accLo i), Value.int .u8 (Lib.accHi i)]).toArray
  { w0 with heap := h2 }
theorem laid_met (os : Os) (args : Array Value) : laidMet Tryz.prog Rows.journalRecoversRow.laid ((laidWorld os).forCall (fun _ _ => 0) ⟨#[], args, []⟩).memory :=
  (LaidIn.of_run (l := [("unicode/utf8.acceptRanges", Rows.laid_unicode_utf8_acceptRanges), ("unicode/utf8.first", Rows.laid_unicode_utf8_first)]) [1, 0] 8 (by kernel_rfl) (by kernel_rfl) (by kernel_rfl) (by kernel_rfl)).met
theorem witness_row (os : Os) {H : Type} (enc : TypeId × Value → H) :
    (OpenSpec.ofChange Rows.journalRecoversSpec).preRow enc Tryz.prog Tryz.f9 Rows.journalRecoversRow.domain false Rows.journalRecoversRow.laid ((laidWorld os).forCall (fun _ _ => 0) ⟨#[], #[.bool false, .string ⟨#[]⟩, .slice none 0 0, .slice none 0 0], []⟩).memory #[.bool false, .string ⟨#[]⟩, .slice none 0 0, .slice none 0 0] := by
  have hw : (DataW.whole enc Tryz.prog ((laidWorld os).forCall (fun _ _ => 0) ⟨#[], #[.bool false, .string ⟨#[]⟩, .slice none 0 0, .slice none 0 0], []⟩).memory Tryz.f9.params.toList (OpenSpec.ofChange Rows.journalRecoversSpec).vars false (#[.bool false, .string ⟨#[]⟩, .slice none 0 0, .slice none 0 0] : Array Value).toList 8).map (fun x => (x.1, x.2.1)) =
      some ([.lit (.bool false), .lit (.string []), .nil, .nil], []) := by kernel_rfl
  obtain ⟨⟨x1, x2, x3⟩, hx, hx1⟩ := Option.map_eq_some_iff.1 hw
  simp only [Prod.mk.injEq] at hx1
  obtain ⟨rfl, rfl⟩ := hx1
  exact OpenSpec.preRow_of_cond 8 hx (by kernel_rfl) (fun k hk => by cases hk) (by kernel_rfl) (laid_met os _)
set_option maxRecDepth 100000 in
set_option maxHeartbeats 2000000 in
theorem lifted (os : Os) (started : os.Started) (H : Type) (enc : TypeId × Value → H) (F : Stop.Interp) :
    ReturnsInHanded {} Tryz.checked os 9 .any ((OpenSpec.ofChange Rows.journalRecoversSpec).preRow enc Tryz.prog Tryz.f9 Rows.journalRecoversRow.domain false Rows.journalRecoversRow.laid) (((OpenSpec.ofChange Rows.journalRecoversSpec).at F).post enc Tryz.prog Tryz.f9 false true false false) := by
  refine returnsInHanded_of_row (C := Tryz.checked) (s := OpenSpec.ofChange Rows.journalRecoversSpec) own started (by kernel_rfl) Tryz.func9
    (witness_row_atRef (enc := enc) (C := Tryz.checked) false (laidWorld os) #[.bool false, .string ⟨#[]⟩, .slice none 0 0, .slice none 0 0] rfl (by kernel_rfl) (by kernel_rfl) (by kernel_rfl) (witness_row os enc)) ?_
  intro W base args ds gs before hval0 hW _ _ hsz0 hL _ _
  have hval : ∀ (j : Nat) t v, Tryz.f9.params[j]? = some t → args[j]? = some v → Value.okWide Tryz.prog W .any base t v := hval0
  have hsz : (DataW.weightsEach Tryz.prog (Tryz.f9.params.toList ++ (OpenSpec.ofChange Rows.journalRecoversSpec).bare.plain.varTypes Tryz.prog) (ds ++ gs)).all (· ≤ reachBytes) = true := hsz0
  clear hsz0
  have hW' := hW
  obtain ⟨p, q, hA0, hV, rfl, _, _⟩ := hW
  have hA : DataW.TrodAll enc Tryz.prog W 0 (fun _ => true) true Tryz.f9.params.toList args.toList ds p := hA0
  rw [Tryz.params9] at hA hval hsz
  obtain ⟨v0, vs0, d0, ds0, p0, q0, hargs, rfl, rfl, h0, r0⟩ := trodAll_cons hA
  obtain ⟨v1, vs1, d1, ds1, p1, q1, rfl, rfl, rfl, h1, r1⟩ := trodAll_cons r0
  obtain ⟨v2, vs2, d2, ds2, p2, q2, rfl, rfl, rfl, h2, r2⟩ := trodAll_cons r1
  obtain ⟨v3, vs3, d3, ds3, p3, q3, rfl, rfl, rfl, h3, r3⟩ := trodAll_cons r2
  obtain ⟨rfl, rfl, rfl⟩ := trodAll_nil r3
  obtain rfl : args = #[v0, v1, v2, v3] := by cases args; simp_all
  obtain ⟨rfl, rfl⟩ := trodVars_none hV
  obtain ⟨a0, rfl, rfl, rfl⟩ := open_bool Tryz.underlying4 (hval 0 4 v0 rfl rfl) h0
  obtain ⟨a1, rfl, rfl, rfl, w1⟩ := open_string Tryz.underlying9 (hval 1 9 v1 rfl rfl) h1
  have k2 := h2
  have lt2 : ∀ x ∈ p2, x.block < W.heap.size := by obtain ⟨m, hm⟩ := k2; exact DataW.trod_lt m _ _ _ hm
  obtain ⟨a2, len2, cap2, rfl⟩ := okWide_slice Tryz.underlying22 (hval 2 22 v2 rfl rfl)
  obtain ⟨z2, e2, hc2, hm2, hZ2, hY2⟩ : ∃ (L : List Doo), len2 = L.length ∧ L.length ≤ cap2 ∧ cap2 ≤ maxLen ∧ RowF W (Here W) a2 6 doC do0 L ∧ ∀ y ∈ L, doOk y := by
    obtain ⟨fuel, hf⟩ := h2
    obtain ⟨A, L, c, e1, e2, e3, e4, e5⟩ := opn_dos hf
    simp [Value.cells] at e1
    obtain ⟨rfl, rfl, rfl⟩ := e1
    exact ⟨L, rfl, e2, e3, e4, e5⟩
  subst e2
  have k3 := h3
  have lt3 : ∀ x ∈ p3, x.block < W.heap.size := by obtain ⟨m, hm⟩ := k3; exact DataW.trod_lt m _ _ _ hm
  obtain ⟨a3, len3, cap3, rfl⟩ := okWide_slice Tryz.underlying23 (hval 3 23 v3 rfl rfl)
  obtain ⟨z3, e3, hc3, hm3, hZ3, hY3⟩ : ∃ (L : List Int), len3 = L.length ∧ L.length ≤ cap3 ∧ cap3 ≤ maxLen ∧ RowF W (Here W) a3 1 u8L 0 L ∧ ∀ y ∈ L, 0 ≤ y ∧ y ≤ 255 := by
    obtain ⟨fuel, hf⟩ := h3
    obtain ⟨A, L, c, e1, e2, e3, e4, e5⟩ := opn_u8s hf
    simp [Value.cells] at e1
    obtain ⟨rfl, rfl, rfl⟩ := e1
    exact ⟨L, rfl, e2, e3, e4, e5⟩
  subst e3
  clear hA0 hval0
  have htab : Tabs W :=
    utf8Tabs_of_readsT (U8Types.of196 Tryz.lays196) ⟨by kernel_rfl, by kernel_rfl, by kernel_rfl, by kernel_rfl, by kernel_rfl, by kernel_rfl, by kernel_rfl⟩ (Lib.laidMet.reads hL (.tail _ (.head _))) (Lib.laidMet.reads hL (.head _))
  refine (journalrecovers_card a0 a1 z2 a2 cap2 z3 a3 cap3 W (by unfold maxLen at w1; omega) hc2 hm2 hZ2 hY2 hc3 hm3 hZ3 hY3 htab).mono ?_
  rintro e W' ⟨rfl, bel⟩
  exact ⟨_, rfl, _, _, _, [], _, [], hW', trodAll_mk1 (shut_bool Tryz.underlying4 _), (trodAll_cons_mk (shut_bool Tryz.underlying4 _) (trodAll_cons_mk (shut_string Tryz.underlying9 w1) (trodAll_cons_mk (Below.trod laidOut (by kernel_rfl) (of_decide_eq_true (by kernel_rfl)) k2 bel lt2) (trodAll_cons_mk (Below.trod laidOut (by kernel_rfl) (of_decide_eq_true (by kernel_rfl)) k3 bel lt3) trodAll_mk0)))), rfl, bel.frame _, fun h => by cases h⟩
theorem over : Rows.JournalRecoversSaid :=
  OpenClaim.holds_of_cond 9 Tryz.f9 rfl rfl rfl rfl rfl rfl rfl ⟨rfl, rfl, rfl, rfl, rfl⟩ rfl rfl rfl rfl rfl (by kernel_rfl) Tryz.func9 (by kernel_rfl)
    (of_decide_eq_true (by kernel_rfl)) (by unfold Func.isWrapper; first | (rw [if_pos (by decide +kernel)]; kernel_rfl) | (rw [if_neg (by decide +kernel)]; exact ⟨rfl, rfl⟩))
    (fun os started H enc _ F0 => by rw [OpenClaim.pre_eq_preRow]; exact lifted os started H enc F0)
theorem proved : Rows.JournalRecoversCardSaid :=
  Claim7.holds_tied_plain_at .later [] [.data, .pinned] true _ false
    over (fun _ h => by cases h) (by kernel_rfl) (fun _ h => by cases h) journalRecovers_row_tie rfl ⟨rfl, rfl⟩ (by kernel_rfl) rfl
    (fun f fn hf hfn => by
      obtain rfl : f = 9 := Option.some.inj ((show Tryz.prog.funcNamed "recension/recensionlaw25.JournalRecovers" = some 9 by kernel_rfl).symm.trans hf) |>.symm
      obtain rfl : fn = Tryz.f9 := (Option.some.inj (Tryz.func9.symm.trans hfn)).symm
      exact ⟨by kernel_rfl, fun j t ht => by
        rw [Tryz.params9] at ht
        have hq : (!Tryz.prog.wantsStandIn t) = true := List.all_eq_true.1 (show (Tryz.f9.params.toList.all fun t => !Tryz.prog.wantsStandIn t) = true by kernel_rfl) t (by rw [Tryz.params9]; rw [← Array.getElem?_toList] at ht; exact List.mem_of_getElem? ht)
        show Tryz.prog.wantsStandIn t = false
        exact Bool.eq_false_iff.2 (fun e => by rw [e] at hq; cases hq)⟩)
    (by kernel_rfl)
#print axioms proved
end Go.Proofs.YtkhmicndehlneaaGreatDoor.journalRecovers
