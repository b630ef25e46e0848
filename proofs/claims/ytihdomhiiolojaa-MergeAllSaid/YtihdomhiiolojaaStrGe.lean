/- string >= and string < at two strings of bytes. No conditions. -/
import Derived.Test.YtihdomhiiolojaaPx0
namespace Go.Proofs.Ytihdomhiiolojaa.P
open Go.RowKit Go.Proofs.YtihdomhiiolojaaW.PrintWords Go.Proofs.YtihdomhiiolojaaW.PrintLast Go.Proofs.YtihdomhiiolojaaW.PrintMore
set_option linter.unusedVariables false
set_option linter.unusedSimpArgs false
theorem geq_run {P : Program} (t : TypeId) (a b : ByteArray) (w : World) : (binOp .geq t (.string a) (.string b)).run P w = .ok (.bool (!(Op.bytesLess a.toList b.toList))) w := by simp [binOp, Op.stringOp]
theorem lss_run {P : Program} (t : TypeId) (a b : ByteArray) (w : World) : (binOp .lss t (.string a) (.string b)).run P w = .ok (.bool (Op.bytesLess a.toList b.toList)) w := by simp [binOp, Op.stringOp]
end Go.Proofs.Ytihdomhiiolojaa.P
