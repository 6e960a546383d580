/- A verified evaluator of the translated code, part 10: EvaSx -/
import Derived.Test.YtdnfgleokacddaaK9
section
/- Blocks: lengths. -/
namespace Go.Eva
set_option linter.unusedVariables false
section
variable {α : Type} (rk : α → Int)
theorem Rq_len {k : Nat} (hk : 1 ≤ k) : ∀ (q : Nat) (l : List α), l.length ≤ q → (Rq rk k q l).length = l.length
  | 0, l, h => by
    obtain rfl : l = [] := List.eq_nil_of_length_eq_zero (by omega)
    rfl
  | q + 1, l, h => by
    show (S rk (l.take k) ++ Rq rk k q (l.drop k)).length = _
    rw [List.length_append, S_len, Rq_len hk q (l.drop k) (by rw [List.length_drop]; omega), List.length_take, List.length_drop]
    omega
theorem RR_len {k : Nat} (hk : 1 ≤ k) (l : List α) : (RR rk k l).length = l.length := Rq_len rk hk _ _ (Nat.le_refl _)
end
end Go.Eva
end
