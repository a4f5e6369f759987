/- A plain region whose operations only read, and whose callees leave what was there as it was: walked over the class of worlds 'Below'. No condition. -/
import Derived.Test.YtooaodgamakoeaaDoorRSt
namespace Go.Proofs.YtooaodgamakoeaaDoor
open Go.RowKit Go.Lib Go.Sort
set_option linter.unusedVariables false
section
variable {P : Program} {ops : Array Oper} {C : World → Prop} {Q : Exit → Act → World → Prop} {Q' : Act → Prop}
theorem wpList_of_quiet (hQ : ∀ a w, C w → Q' a → Q .normal a w) : ∀ (l : List Oper) (a : Act) (w : World), C w → wpQuiet P ops C Q' l a → wpList P ops Q l a w
  | [], a, w, hc, h => hQ a w hc h
  | o :: rest, a, w, hc, h => by
    unfold wpList
    unfold wpQuiet at h
    by_cases hw : Region.wanted o (yielded ops a.tmps) = true
    · rw [if_pos hw] at h ⊢
      exact .inl (Oper.wp_of_quiet hc (fun a' w' hc' hk => wpList_of_quiet hQ rest a' w' hc' hk) h)
    · rw [if_neg hw] at h ⊢
      exact wpList_of_quiet hQ rest _ w hc h
theorem wp_plain_quiet_below {id : Nat} {a : Act} {w : World} {l : List Oper}
    (h : wpQuiet P l.toArray (fun w' => ∃ p : Regrown, w' = grow (redrawn w p.d) p.os) (fun a' => ∀ w', (∃ p : Regrown, w' = grow (redrawn w p.d) p.os) → Q .normal a' w') l a) : (Code.region id l.toArray false).wp P Q a w := by
  refine wp_region ?_
  have e := wpOps_eq_wpList (P := P) (ops := l.toArray) (Q := Q) l 0 (by simp)
  rw [List.range_eq_range', List.size_toArray, e]
  exact wpList_of_quiet (fun a w hc h => h w hc) l a w ⟨⟨w.drawn, #[]⟩, by rw [grow_empty]; rfl⟩ h
end
end Go.Proofs.YtooaodgamakoeaaDoor
