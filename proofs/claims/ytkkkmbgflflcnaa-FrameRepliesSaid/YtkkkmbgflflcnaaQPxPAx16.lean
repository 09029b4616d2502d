import Derived.Test.YtkkkmbgflflcnaaQPxPAx1
namespace Go.Proofs.Ytkkkmbgflflcnaa.PA
open Go.Proofs.Ytkkkmbgflflcnaa.PL
open Go.RowKit Go.Proofs.YtkkkmbgflflcnaaW.PrintWords Go.Proofs.YtkkkmbgflflcnaaW.PrintLast Go.Proofs.YtkkkmbgflflcnaaW.PrintMore
attribute [local go_sem] max2_int min2_int max_two min_two max_three min_three max_four min_four
set_option linter.unusedVariables false
set_option linter.unusedSimpArgs false
mutual
def armoireref12_Check.j0 : Nat → Bool → Int → ByteArray → ByteArray → Int → Option (Int)
  | 0, _, _, _, _, _ => none
  | k + 1, x10, x283000, x283001, x283002, x283003 => if x10 = true then (some 6) else ((armoireref12_HasA.f x283000).bind fun t283 => (if t283 = true then (if x283000 = 11 then ((armoireref12_HasN.f x283000).bind fun t284 => (if t284 = true then (armoireref12_Check.j1 k false x283000 x283001 x283002 x283003) else (armoireref12_Check.j1 k (x283003 != 0) x283000 x283001 x283002 x283003))) else (if x283002.toList = ([] : List UInt8) then ((armoireref12_HasN.f x283000).bind fun t285 => (if t285 = true then (armoireref12_Check.j1 k false x283000 x283001 x283002 x283003) else (armoireref12_Check.j1 k (x283003 != 0) x283000 x283001 x283002 x283003))) else (armoireref12_Check.j1 k true x283000 x283001 x283002 x283003))) else (if x283001.toList = ([] : List UInt8) then (if x283000 = 11 then ((armoireref12_HasN.f x283000).bind fun t286 => (if t286 = true then (armoireref12_Check.j1 k false x283000 x283001 x283002 x283003) else (armoireref12_Check.j1 k (x283003 != 0) x283000 x283001 x283002 x283003))) else (if x283002.toList = ([] : List UInt8) then ((armoireref12_HasN.f x283000).bind fun t287 => (if t287 = true then (armoireref12_Check.j1 k false x283000 x283001 x283002 x283003) else (armoireref12_Check.j1 k (x283003 != 0) x283000 x283001 x283002 x283003))) else (armoireref12_Check.j1 k true x283000 x283001 x283002 x283003))) else (armoireref12_Check.j1 k true x283000 x283001 x283002 x283003))))
def armoireref12_Check.j1 : Nat → Bool → Int → ByteArray → ByteArray → Int → Option (Int)
  | 0, _, _, _, _, _ => none
  | k + 1, x40, x283000, x283001, x283002, x283003 => if x40 = true then (some 2) else (if (x283001.size : Int) > 24 then (armoireref12_Check.j2 k true x283000 x283001 x283002 x283003) else (armoireref12_Check.j2 k (decide ((x283002.size : Int) > 24)) x283000 x283001 x283002 x283003))
def armoireref12_Check.j2 : Nat → Bool → Int → ByteArray → ByteArray → Int → Option (Int)
  | 0, _, _, _, _, _ => none
  | k + 1, x50, x283000, x283001, x283002, x283003 => if x50 = true then (some 3) else (if x283000 = 5 then (if x283003 < 1 then (some 4) else (if x283003 > 1048576 then (some 4) else (some 0))) else (if x283000 = 6 then (if x283003 < 1 then (some 4) else (if x283003 > 1048576 then (some 4) else (some 0))) else (some 0)))
end
end Go.Proofs.Ytkkkmbgflflcnaa.PA

