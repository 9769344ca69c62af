/- Numbers of types in this seat. -/
import Derived.Test.YtkockkfmjmheeaaGreatGA
namespace Go.Proofs.YtkockkfmjmheeaaGreat.T
abbrev int : Nat := 3
abbrev bool : Nat := 4
abbrev u32 : Nat := 112
abbrev u64 : Nat := 79
abbrev nat : Nat := 42
abbrev value : Nat := 24
abbrev values : Nat := 22
abbrev ratio : Nat := 44
abbrev type : Nat := 90
abbrev types : Nat := 32
abbrev core : Nat := 35
abbrev body : Nat := 31
abbrev run : Nat := 61
abbrev runs : Nat := 38
abbrev drawn : Nat := 110
abbrev drawns : Nat := 59
abbrev out : Nat := 58
end Go.Proofs.YtkockkfmjmheeaaGreat.T
