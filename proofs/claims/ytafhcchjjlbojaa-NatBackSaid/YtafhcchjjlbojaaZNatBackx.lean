-- printed by zprint.py, a program of this session's
import Derived.Test.YtafhcchjjlbojaaZNatBackx0
import Derived.Test.YtafhcchjjlbojaaZNatBackx1
import Derived.Test.YtafhcchjjlbojaaZNatBackx2
import Derived.Test.YtafhcchjjlbojaaZNatBackx3
import Derived.Test.YtafhcchjjlbojaaZNatBackx4
import Derived.Test.YtafhcchjjlbojaaZNatBackx5
import Derived.Test.YtafhcchjjlbojaaZNatBackx6
import Derived.Test.YtafhcchjjlbojaaZNatBackx7
import Derived.Test.YtafhcchjjlbojaaZNatBackx8
namespace Go.Proofs.Ytafhcchjjlbojaa.ZNatBack
open Go.RowKit Go.Proofs.YtafhcchjjlbojaaW.PrintWords Go.Proofs.YtafhcchjjlbojaaW.PrintLast Go.Proofs.YtafhcchjjlbojaaW.PrintMore
attribute [local go_sem] max2_int min2_int max_two min_two max_three min_three max_four min_four   -- for this text's walks alone
set_option linter.unusedVariables false
set_option linter.unusedSimpArgs false

end Go.Proofs.Ytafhcchjjlbojaa.ZNatBack
