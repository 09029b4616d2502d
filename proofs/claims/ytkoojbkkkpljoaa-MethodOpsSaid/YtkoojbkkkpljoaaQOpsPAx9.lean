import Derived.Test.YtkoojbkkkpljoaaQOpsPAx0
import Derived.Test.YtkoojbkkkpljoaaQOpsPAx7
namespace Go.Proofs.Ytkoojbkkkpljoaa.PA
open Go.Proofs.Ytkoojbkkkpljoaa.PL
open Go.RowKit Go.Proofs.YtkoojbkkkpljoaaW.PrintWords Go.Proofs.YtkoojbkkkpljoaaW.PrintLast Go.Proofs.YtkoojbkkkpljoaaW.PrintMore
attribute [local go_sem] max2_int min2_int max_two min_two max_three min_three max_four min_four
set_option linter.unusedVariables false
set_option linter.unusedSimpArgs false
mutual
def armoireref12_Check.j0 : Nat → Bool → Int → ByteArray → ByteArray → Int → Option (Int)
  | 0, _, _, _, _, _ => none
  | k + 1, x10, x165000, x165001, x165002, x165003 => if x10 = true then (some 6) else ((armoireref12_HasA.f x165000).bind fun t165 => (if t165 = true then (if x165000 = 11 then ((armoireref12_HasN.f x165000).bind fun t166 => (if t166 = true then (armoireref12_Check.j1 k false x165000 x165001 x165002 x165003) else (armoireref12_Check.j1 k (x165003 != 0) x165000 x165001 x165002 x165003))) else (if x165002.toList = ([] : List UInt8) then ((armoireref12_HasN.f x165000).bind fun t167 => (if t167 = true then (armoireref12_Check.j1 k false x165000 x165001 x165002 x165003) else (armoireref12_Check.j1 k (x165003 != 0) x165000 x165001 x165002 x165003))) else (armoireref12_Check.j1 k true x165000 x165001 x165002 x165003))) else (if x165001.toList = ([] : List UInt8) then (if x165000 = 11 then ((armoireref12_HasN.f x165000).bind fun t168 => (if t168 = true then (armoireref12_Check.j1 k false x165000 x165001 x165002 x165003) else (armoireref12_Check.j1 k (x165003 != 0) x165000 x165001 x165002 x165003))) else (if x165002.toList = ([] : List UInt8) then ((armoireref12_HasN.f x165000).bind fun t169 => (if t169 = true then (armoireref12_Check.j1 k false x165000 x165001 x165002 x165003) else (armoireref12_Check.j1 k (x165003 != 0) x165000 x165001 x165002 x165003))) else (armoireref12_Check.j1 k true x165000 x165001 x165002 x165003))) else (armoireref12_Check.j1 k true x165000 x165001 x165002 x165003))))
def armoireref12_Check.j1 : Nat → Bool → Int → ByteArray → ByteArray → Int → Option (Int)
  | 0, _, _, _, _, _ => none
  | k + 1, x40, x165000, x165001, x165002, x165003 => if x40 = true then (some 2) else (if (x165001.size : Int) > 24 then (armoireref12_Check.j2 k true x165000 x165001 x165002 x165003) else (armoireref12_Check.j2 k (decide ((x165002.size : Int) > 24)) x165000 x165001 x165002 x165003))
def armoireref12_Check.j2 : Nat → Bool → Int → ByteArray → ByteArray → Int → Option (Int)
  | 0, _, _, _, _, _ => none
  | k + 1, x50, x165000, x165001, x165002, x165003 => if x50 = true then (some 3) else (if x165000 = 5 then (if x165003 < 1 then (some 4) else (if x165003 > 1048576 then (some 4) else (some 0))) else (if x165000 = 6 then (if x165003 < 1 then (some 4) else (if x165003 > 1048576 then (some 4) else (some 0))) else (some 0)))
end
end Go.Proofs.Ytkoojbkkkpljoaa.PA

