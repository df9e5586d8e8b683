/- What the law 'FnExactValueOk' comes to is true, for all numbers and texts. -/
import Derived.Test.YtdgjbpefbkgnpaaPFnExactValueOkx2
namespace Go.Proofs.Ytdgjbpefbkgnpaa.Pure
open Go.RowKit Go.Proofs.Ytdgjbpefbkgnpaa.PFnExactValueOk

theorem FnExactValueOk (a b : Int) (s : ByteArray) (c : Int) : laws_FnExactValueOk.f a b s c = some true := by
  unfold laws_FnExactValueOk.f laws_szValue.f laws_toValue.f spec_ValueOk.f impl_ValueOk.f
  by_cases hz : (wrap64 (1048576 - (s.size : Int))) < 0
  · simp [hz]
  · simp only [hz, if_false, Option.bind_some]
    by_cases a0 : a = 0
    · by_cases b0 : b = 0 <;> by_cases s0 : s.toList = [] <;> simp [a0, b0, s0]
    · by_cases a1 : a = 1
      · by_cases b0 : b ≤ 1 <;> by_cases s0 : s.toList = [] <;> simp [a1, b0, s0]
      · by_cases a2 : a = 2
        · by_cases s0 : s.toList = [] <;> simp [a2, s0]
        · by_cases a3 : a = 3
          · by_cases b0 : b = 0 <;> by_cases c0 : c = 0 <;> by_cases s0 : (s.size : Int) ≤ 200 <;> simp [a3, b0, c0, s0]
          · by_cases a4 : a = 4
            · by_cases b0 : b = 0 <;> by_cases s0 : s.toList = [] <;> simp [a4, b0, s0]
            · simp [a0, a1, a2, a3, a4]
end Go.Proofs.Ytdgjbpefbkgnpaa.Pure
