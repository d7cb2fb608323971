/- Plain mathematics of quoted lines: what stands for a byte, the lines of bytes; no program in sight. No conditions. -/
import Derived.Test.YtafpbechcjcdbaaDoorVFnDateTextMStr
namespace Go.Proofs.YtafpbechcjcdbaaDoor.M
open Go.RowKit Go.Proofs.YtafpbechcjcdbaaDoorW.PrintWords
def SL (ls : List (List UInt8)) : List ByteArray := ls.map S
theorem SL_append (a b : List (List UInt8)) : SL a ++ SL b = SL (a ++ b) := by unfold SL; simp
theorem SL_nil : ([] : List ByteArray) = SL [] := rfl
theorem SL_one (a : List UInt8) : [S a] = SL [a] := rfl
theorem SL_length (a : List (List UInt8)) : (SL a).length = a.length := by unfold SL; simp
end Go.Proofs.YtafpbechcjcdbaaDoor.M
