/- The law StreamTwice: a text, xor the stream, twice, is the text. -/
import Derived.Test.YtomflcpebnebpaaPureA
import Derived.Test.YtomflcpebnebpaaPStrx5
namespace Go.Proofs.Ytomflcpebnebpaa.PStr
open Go.RowKit Go.Proofs.YtomflcpebnebpaaW.PrintWords Go.Proofs.YtomflcpebnebpaaW.PrintLast Go.Proofs.YtomflcpebnebpaaW.PrintMore
set_option linter.unusedSimpArgs false
set_option linter.unusedVariables false
theorem mk_size (l : List UInt8) : (⟨l.toArray⟩ : ByteArray).size = l.length := by simp [ByteArray.size]
theorem wrongN_fit (k n : List UInt8) (c : Int) (h0 : 0 ≤ c) (h1 : c ≤ 4294967295) : wrongN (fitL k 32).length (fitL n 12).length c = 0 := by
  rw [fitL_length, fitL_length, wrongN, if_neg (by omega), if_neg (by omega)]
theorem Twice_ev (a0 a1 : ByteArray) (c : Int) (t : ByteArray) : Ev (fun k => dovecotelaw05_StreamTwice.f k a0 a1 c t) true := by
  unfold dovecotelaw05_StreamTwice.f
  refine Ev.bind works_ev ?_
  by_cases ht : 65536 < t.size
  · refine Ev.congr (f := fun _ => some true) (fun k => ?_) (Ev.now _)
    rw [if_pos rfl, if_pos (by omega)]
  · refine Ev.congr (f := fun _ => some true) (fun k => ?_) (Ev.now _)
    have hl : t.data.toList.length = t.size := data_length t
    obtain ⟨K, hK⟩ : ∃ K, K = fitL a0.data.toList 32 := ⟨_, rfl⟩
    obtain ⟨N, hN⟩ : ∃ N, N = fitL a1.data.toList 12 := ⟨_, rfl⟩
    have hw : wrongN K.length N.length (c % 4294967296) = 0 := by rw [hK, hN]; exact wrongN_fit _ _ _ (by omega) (by omega)
    obtain ⟨X, hX⟩ : ∃ X, X = xorS K N (c % 4294967296).toNat t.data.toList t.data.toList.length := ⟨_, rfl⟩
    have hXl : X.length = t.size := by rw [hX, xorS_length, hl]
    have e1 : xorL K N (c % 4294967296) t.data.toList = X := by rw [xorL, if_pos hw, if_pos (by omega), hX]
    have e2 : xorE K N (c % 4294967296) t.data.toList = 0 := by rw [xorE, if_pos hw, if_pos (by omega)]
    have e3 : xorL K N (c % 4294967296) X = t.data.toList := by
      rw [xorL, if_pos hw, if_pos (by omega), hX, xorS_length]
      have := xorS_twice K N (c % 4294967296).toNat t.data.toList
      exact this
    have e4 : xorE K N (c % 4294967296) X = 0 := by rw [xorE, if_pos hw, if_pos (by omega)]
    rw [if_pos rfl, if_neg (by omega)]
    unfold dovecotelaw05_fit.f
    rw [if_pos (by decide), if_pos (by decide)]
    simp only [Option.bind_some]
    rw [show (32 : Int).toNat = 32 from rfl, show (12 : Int).toNat = 12 from rfl, ← hK, ← hN]
    unfold stream_Xor.f
    rw [if_pos (by omega)]
    simp only [Option.bind_some]
    rw [e1, e2, if_pos (by rw [mk_size, hXl]; omega)]
    simp only [Option.bind_some]
    rw [e3, e4, ← bytes_eq, if_pos rfl, if_pos rfl, if_pos trivial]
    rw [mk_size, hXl]
    simp
end Go.Proofs.Ytomflcpebnebpaa.PStr
namespace Go.Proofs.Ytomflcpebnebpaa
open Go.RowKit
set_option linter.unusedVariables false
theorem law_StreamTwice (l0 l1 : List UInt8) (c : Int) (t : List UInt8) (W : World) (h0 : l0.length ≤ 140737488351232) (h1 : l1.length ≤ 140737488351232) (ht : t.length ≤ 140737488351232) :
    Calls Try.prog 5 #[.agg #[.string ⟨l0.toArray⟩, .string ⟨l1.toArray⟩], .int .i64 c, .string ⟨t.toArray⟩] W fun e W' => e = .returned (.bool true) ∧ Below W.heap.size W W' := by
  obtain ⟨k, hk⟩ := (PStr.Twice_ev ⟨l0.toArray⟩ ⟨l1.toArray⟩ c ⟨t.toArray⟩).rounds
  exact PStr.dovecotelaw05_StreamTwice.calls k ⟨l0.toArray⟩ ⟨l1.toArray⟩ c ⟨t.toArray⟩ true W hk
end Go.Proofs.Ytomflcpebnebpaa
