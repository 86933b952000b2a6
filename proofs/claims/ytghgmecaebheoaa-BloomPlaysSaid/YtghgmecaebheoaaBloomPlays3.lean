/- tidingslaw06.BloomPlays: both cases joined. -/
import Derived.Test.YtghgmecaebheoaaBloomPlays2
namespace Go.Proofs.Ytghgmecaebheoaa
open Go.RowKit
set_option linter.unusedVariables false

theorem plays_walk_ (keys each : Int) (A : Option Addr) (c : Nat) (ks : Rows_) (A' : Option Addr) (c' : Nat) (ls : Rows_) (w : World) (h1 : -9223372036854775808 ≤ keys ∧ keys ≤ 9223372036854775807) (h2 : -9223372036854775808 ≤ each ∧ each ≤ 9223372036854775807)
    (h : ks.length ≤ c ∧ c ≤ maxLen ∧ RdL w A ks ∧ ks.length ≤ 5864062014634 ∧ (∀ k ∈ ks, k.2.2.length ≤ 140737488351232 ∧ k.2.2.length ≤ k.2.1 ∧ k.2.1 ≤ maxLen))
    (h' : ls.length ≤ c' ∧ c' ≤ maxLen ∧ RdL w A' ls ∧ ls.length ≤ 5864062014634 ∧ (∀ k ∈ ls, k.2.2.length ≤ 140737488351232 ∧ k.2.2.length ≤ k.2.1 ∧ k.2.1 ≤ maxLen)) :
    Calls Try.prog 3 #[.int .i64 keys, .int .i64 each, .slice A ks.length c, .slice A' ls.length c'] w (Asked true w) := by
  by_cases hs : 0 ≤ keys ∧ keys ≤ 65536 ∧ 1 ≤ each ∧ each ≤ 32
  · exact plays_yes keys each A A' c c' ks ls w h.2.2.1 h.1 (fun k hk => by have := (h.2.2.2.2 k hk).1; omega) (by have := h.2.2.2.1; omega) h'.2.2.1 h'.1 (fun k hk => by have := (h'.2.2.2.2 k hk).1; omega) (by have := h'.2.2.2.1; omega) hs
  · exact plays_no keys each A A' c c' ks ls w hs
end Go.Proofs.Ytghgmecaebheoaa
