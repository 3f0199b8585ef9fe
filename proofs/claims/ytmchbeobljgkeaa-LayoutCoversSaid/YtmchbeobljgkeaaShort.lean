/- Short words for what recurs in a long printed text. -/
import GoSem.Core.Program
namespace Go.Proofs.Ytmchbeobljgkeaa
abbrev T : Bool := true
abbrev F : Bool := false
theorem sA {α : Type _} (l : List α) (i : Nat) (a : α) : l.toArray.setIfInBounds i a = (l.set i a).toArray := List.setIfInBounds_toArray l i a
theorem s0 {α : Type _} {x : α} {xs : List α} {a : α} : (x :: xs).set 0 a = a :: xs := List.set_cons_zero
theorem s1 {α : Type _} {x : α} {xs : List α} {i : Nat} {a : α} : (x :: xs).set (i + 1) a = x :: xs.set i a := List.set_cons_succ
end Go.Proofs.Ytmchbeobljgkeaa
