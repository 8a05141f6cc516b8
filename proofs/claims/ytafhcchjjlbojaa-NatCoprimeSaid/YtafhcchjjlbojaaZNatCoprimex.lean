-- printed by zprint.py, a program of this session's
import Derived.Test.YtafhcchjjlbojaaZNatCoprimex0
import Derived.Test.YtafhcchjjlbojaaZNatCoprimex1
import Derived.Test.YtafhcchjjlbojaaZNatCoprimex2
import Derived.Test.YtafhcchjjlbojaaZNatCoprimex3
import Derived.Test.YtafhcchjjlbojaaZNatCoprimex4
import Derived.Test.YtafhcchjjlbojaaZNatCoprimex5
import Derived.Test.YtafhcchjjlbojaaZNatCoprimex6
import Derived.Test.YtafhcchjjlbojaaZNatCoprimex7
namespace Go.Proofs.Ytafhcchjjlbojaa.ZNatCoprime
open Go.RowKit Go.Proofs.YtafhcchjjlbojaaW.PrintWords Go.Proofs.YtafhcchjjlbojaaW.PrintLast Go.Proofs.YtafhcchjjlbojaaW.PrintMore
attribute [local go_sem] max2_int min2_int max_two min_two max_three min_three max_four min_four   -- for this text's walks alone
set_option linter.unusedVariables false
set_option linter.unusedSimpArgs false

end Go.Proofs.Ytafhcchjjlbojaa.ZNatCoprime
