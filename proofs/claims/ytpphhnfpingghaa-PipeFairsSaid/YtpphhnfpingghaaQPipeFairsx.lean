-- printed for this claim by the kit's print, turned by a program of this session (texts of its own are taken for some functions); not trusted: Lean checks it
import Derived.Test.YtpphhnfpingghaaQPipeFairsx0
import Derived.Test.YtpphhnfpingghaaQPipeFairsx1
import Derived.Test.YtpphhnfpingghaaQPipeFairsx2
import Derived.Test.YtpphhnfpingghaaQPipeFairsx3
namespace Go.Proofs.Ytpphhnfpingghaa.QPipeFairs
open Go.RowKit Go.Proofs.YtpphhnfpingghaaW.PrintWords Go.Proofs.YtpphhnfpingghaaW.PrintLast Go.Proofs.YtpphhnfpingghaaW.PrintMore
attribute [local go_sem] max2_int min2_int max_two min_two max_three min_three max_four min_four   -- for this text's walks alone
set_option linter.unusedVariables false
set_option linter.unusedSimpArgs false

end Go.Proofs.Ytpphhnfpingghaa.QPipeFairs
