import Derived.Test.YtdaibgpceldbdaaGreatDoorAmRange
namespace Go.Am
open Go
theorem wrap_i64 (n : Int) : ∃ q : Int, wrapF .i64 n = n - 18446744073709551616 * q ∧ -9223372036854775808 ≤ wrapF .i64 n ∧ wrapF .i64 n < 9223372036854775808 := by
  rw [wrapF_eq]
  simp only [IntKind.wrap, IntKind.bits, IntKind.signed, Bool.true_and]
  split
  · rename_i hc; simp at hc; exact ⟨n / 18446744073709551616 + 1, by omega, by omega, by omega⟩
  · rename_i hc; simp at hc; exact ⟨n / 18446744073709551616, by omega, by omega, by omega⟩
theorem wrap_sub2 (n a b : Int) : wrapF .i64 (Int.sub (wrapF .i64 (Int.sub n a)) b) = wrapF .i64 (Int.sub (wrapF .i64 (Int.sub n b)) a) := by
  show wrapF .i64 (wrapF .i64 (n - a) - b) = wrapF .i64 (wrapF .i64 (n - b) - a)
  obtain ⟨q1, h1, _⟩ := wrap_i64 (n - a)
  obtain ⟨q2, h2, _⟩ := wrap_i64 (n - b)
  obtain ⟨q3, h3, h4, h5⟩ := wrap_i64 (wrapF .i64 (n - a) - b)
  obtain ⟨q4, h6, h7, h8⟩ := wrap_i64 (wrapF .i64 (n - b) - a)
  omega
/-- what is left when each of a list is taken off -/
noncomputable def takeOff (n : Int) (l : List Int) : Int := l.foldl (fun n x => wrapF .i64 (Int.sub n x)) n
theorem takeOff_perm {l l' : List Int} (h : l.Perm l') (n : Int) : takeOff n l = takeOff n l' :=
  h.foldl_eq' (fun x _ y _ z => wrap_sub2 z x y) n
end Go.Am
