/- StampTicks: the plain statement behind the law. -/
import Derived.Test.YtklblahjihjlpaaPStampTicksx4
set_option linter.unusedVariables false
set_option linter.unusedSimpArgs false
namespace Go.Proofs.Ytklblahjihjlpaa.Pure
open Go.RowKit Go.Proofs.Ytklblahjihjlpaa.PStampTicks Go.Proofs.YtklblahjihjlpaaW.PrintWords Go.Proofs.YtklblahjihjlpaaW.PrintLast Go.Proofs.YtklblahjihjlpaaW.PrintMore


end Go.Proofs.Ytklblahjihjlpaa.Pure
