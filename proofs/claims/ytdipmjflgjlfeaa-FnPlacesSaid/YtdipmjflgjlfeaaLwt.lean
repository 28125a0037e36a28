/-
  More small facts for the laws' walks.
-/
import Derived.Test.YtdipmjflgjlfeaaLws
import Derived.Test.YtdipmjflgjlfeaaDry
namespace Go.Proofs.Ytdipmjflgjlfeaa
open Go.RowKit

theorem code_of {w : World} {A : Option Addr} {L : List Int} {c : Nat} (hm : Mem w A (L.flatMap fun n => [Value.int .u8 n])) (ho : ∀ x ∈ L, okByte x) (h1 : L.length ≤ c) (h2 : c ≤ maxLen) : code w A L :=
  ⟨hm, ho, by unfold maxLen at h2; omega⟩
theorem own_cap {w : World} {base : Nat} {e : TypeId} {size : Nat} {A : Option Addr} {n c : Nat} {xs : List Value} (h : w.ownsRow base e size (.slice A n c) n xs) : n ≤ c := by
  rcases h.2 with ⟨h1, h2⟩ | ⟨g, cap, cur, h1, _, _, h3, _⟩
  · omega
  · simp only [Value.slice.injEq] at h1
    omega
end Go.Proofs.Ytdipmjflgjlfeaa
