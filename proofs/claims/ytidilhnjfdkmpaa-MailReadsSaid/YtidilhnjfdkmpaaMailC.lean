/- mail.cut: takes bytes off a text in a cell. -/
import Derived.Test.YtidilhnjfdkmpaaExt11b
import Derived.Test.YtidilhnjfdkmpaaOwn
import Derived.Test.YtidilhnjfdkmpaaHk2
namespace Go.Proofs.Ytidilhnjfdkmpaa
open Go.RowKit Go.Proofs.YtidilhnjfdkmpaaW.PrintWords Go.Proofs.YtidilhnjfdkmpaaW.PrintLast
set_option linter.unusedSimpArgs false
set_option linter.unusedVariables false
set_option maxHeartbeats 400000 in
theorem cut_any (g : Nat) (s : ByteArray) (n : Nat) (w : World) (hb : Blk w g 9 #[.string s]) (hn : n ≤ s.size) :
    Calls Try.prog 27 #[.pointer (some ⟨g, 0, none⟩), .int .i64 n] w fun e w' => e = .returned (.string (s.extract 0 n)) ∧ w' = w.setCell ⟨g, 0, none⟩ (.string (s.extract n s.size)) := by
  have hc := hb.cell 0
  have hf := hb.frozen 0
  have h1 : (n : Int) ≤ (s.size : Int) := by omega
  go_enter Try.func27, Try.ntmps27
  go_wp2_with fail
  go_ret
  exact ⟨rfl, rfl⟩
end Go.Proofs.Ytidilhnjfdkmpaa
