import Derived.Test.YtipbefckimdkkaaGreatHA
import Derived.Test.YtipbefckimdkkaaGreatGC
import Derived.Test.YtipbefckimdkkaaGreatProg
import Derived.KernelRfl
import Derived.Test.YtipbefckimdkkaaGreatGD
namespace Go.Proofs.YtipbefckimdkkaaGreat
open Go Go.Proofs Go.Proofs.YtipbefckimdkkaaGreat.E
set_option linter.unusedSimpArgs false
set_option linter.unusedVariables false
structure Cor where
 r : Raw
 s : Raw
def corC (c : Cor) : List V := c.r.c ++ c.s.c
abbrev cl (l : List Cor) : V := .dat (l.map corC)
end Go.Proofs.YtipbefckimdkkaaGreat
