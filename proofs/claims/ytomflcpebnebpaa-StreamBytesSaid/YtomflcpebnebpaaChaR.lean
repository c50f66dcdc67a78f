/- The walk of stream.wrong: what is wrong with a key, a nonce, a counter. -/
import Derived.Test.YtomflcpebnebpaaChaQ
namespace Go.Proofs.Ytomflcpebnebpaa
open Go.RowKit
set_option linter.unusedSimpArgs false
set_option linter.unusedVariables false
def wrongN (kl nl : Nat) (c : Int) : Int := if kl ≠ 32 ∨ nl ≠ 12 then 3 else if c < 0 ∨ 4294967295 < c then 1 else 0
set_option maxHeartbeats 400000 in
theorem wrong_any (key nonce : List UInt8) (c : Int) (w : World) :
    Calls Try.prog 17 #[.string ⟨key.toArray⟩, .string ⟨nonce.toArray⟩, .int .i64 c] w fun e w' => e = .returned (.int .i64 (wrongN key.length nonce.length c)) ∧ w' = w := by
  have hsk : (⟨key.toArray⟩ : ByteArray).size = key.length := by simp [ByteArray.size]
  have hsn : (⟨nonce.toArray⟩ : ByteArray).size = nonce.length := by simp [ByteArray.size]
  by_cases h1 : key.length = 32
  · by_cases h2 : nonce.length = 12
    · have e1 : ((key.length : Int) != 32) = false := by rw [h1]; rfl
      have e2 : ((nonce.length : Int) != 12) = false := by rw [h2]; rfl
      by_cases h3 : c < 0
      · have hw := Lib.hid (show wrongN key.length nonce.length c = 1 by rw [wrongN, if_neg (by omega), if_pos (Or.inl h3)])
        go_enter Try.func17, Try.ntmps17
        go_wp2_with fail
        go_ret
        exact ⟨by rw [hw.out]; rfl, rfl⟩
      · have d3 : decide (c < 0) = false := by simp; omega
        have d3' : 0 ≤ c := by omega
        by_cases h4 : 4294967295 < c
        · have hw := Lib.hid (show wrongN key.length nonce.length c = 1 by rw [wrongN, if_neg (by omega), if_pos (Or.inr h4)])
          clear h3
          go_enter Try.func17, Try.ntmps17
          go_wp2_with fail
          go_ret
          exact ⟨by rw [hw.out]; rfl, rfl⟩
        · have d4 : decide ((4294967295 : Int) < c) = false := by simp; omega
          have hw := Lib.hid (show wrongN key.length nonce.length c = 0 by rw [wrongN, if_neg (by omega), if_neg (by omega)])
          clear h3 h4
          go_enter Try.func17, Try.ntmps17
          go_wp2_with fail
          go_ret
          exact ⟨by rw [hw.out]; rfl, rfl⟩
    · have e1 : ((key.length : Int) != 32) = false := by rw [h1]; rfl
      have e2 : ((nonce.length : Int) != 12) = true := by simp; omega
      have hw := Lib.hid (show wrongN key.length nonce.length c = 3 by rw [wrongN, if_pos (by omega)])
      clear h2
      go_enter Try.func17, Try.ntmps17
      go_wp2_with fail
      go_ret
      exact ⟨by rw [hw.out]; rfl, rfl⟩
  · have e1 : ((key.length : Int) != 32) = true := by simp; omega
    have hw := Lib.hid (show wrongN key.length nonce.length c = 3 by rw [wrongN, if_pos (by omega)])
    clear h1
    go_enter Try.func17, Try.ntmps17
    go_wp2_with fail
    go_ret
    exact ⟨by rw [hw.out]; rfl, rfl⟩
end Go.Proofs.Ytomflcpebnebpaa
