import Derived.Test.YtkockkfmjmheeaaGreatGI
import Derived.Test.YtkockkfmjmheeaaGreatGC
import Derived.Test.YtkockkfmjmheeaaGreatProg
import Derived.KernelRfl
import Derived.Test.YtkockkfmjmheeaaGreatGE
import Derived.Test.YtkockkfmjmheeaaGreatGF
namespace Go.Proofs.YtkockkfmjmheeaaGreat
open Go Go.Proofs Go.Proofs.YtkockkfmjmheeaaGreat.E
set_option linter.unusedSimpArgs false
set_option linter.unusedVariables false
def E.Raw.v (x : Raw) : V := .agg [.bool x.neg, nat x.num, nat x.den]
end Go.Proofs.YtkockkfmjmheeaaGreat
