/- THE EXAMPLES HOLD: sane answers true. -/
import Derived.Test.YtomglbjcfcijkaaDoorPLxx7
import Derived.Test.YtomglbjcfcijkaaDoorLexFact
namespace Go.Proofs.YtomglbjcfcijkaaDoor.PLx
open Go.RowKit Go.Proofs.YtomglbjcfcijkaaDoorW.PrintWords Go.Proofs.YtomglbjcfcijkaaDoorW.PrintLast Go.Proofs.YtomglbjcfcijkaaDoorW.PrintMore
theorem sane_40 : sizarlaw09_sane.f 40 = some true := by decide +kernel
theorem sane_all (k : Nat) (h : 40 ≤ k) : sizarlaw09_sane.f k = some true := more_rounds sizarlaw09_sane.mono sane_40 h
end Go.Proofs.YtomglbjcfcijkaaDoor.PLx
