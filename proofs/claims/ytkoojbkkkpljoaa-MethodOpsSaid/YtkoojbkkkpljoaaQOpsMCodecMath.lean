import Derived.Test.YtkoojbkkkpljoaaQOpsMOutS
import Derived.Test.YtkoojbkkkpljoaaQOpsMOutI
import Derived.Test.YtkoojbkkkpljoaaQOpsPLx0
import Derived.Test.YtkoojbkkkpljoaaQOpsPLx1
import Derived.Test.YtkoojbkkkpljoaaQOpsMBytes
import Derived.Lib.Strings
import Derived.Laws.BitsLemmas
namespace Go.Proofs.Ytkoojbkkkpljoaa
open Go.RowKit Go.Proofs.YtkoojbkkkpljoaaW.PrintWords Go.Proofs.YtkoojbkkkpljoaaW.PrintLast Go.Proofs.YtkoojbkkkpljoaaW.PrintMore
theorem bytes_ext {s t : ByteArray} (h : s.data.toList = t.data.toList) : s = t := ByteArray.ext (Array.ext' h)
theorem ba_mk (l : List UInt8) : (⟨l.toArray⟩ : ByteArray).data.toList = l := rfl
theorem ba_size (s : ByteArray) : s.size = s.data.toList.length := by rw [Array.length_toList]; rfl
theorem ba_mk_size (l : List UInt8) : (⟨l.toArray⟩ : ByteArray).size = l.length := by rw [ba_size]
theorem ba_toList (s : ByteArray) : s.toList = s.data.toList := ByteArray.toList_eq s
end Go.Proofs.Ytkoojbkkkpljoaa

