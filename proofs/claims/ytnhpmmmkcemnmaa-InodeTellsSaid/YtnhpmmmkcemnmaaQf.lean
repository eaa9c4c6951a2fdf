/- Bytes compared as strings; a sector's body. -/
import Derived.Test.YtnhpmmmkcemnmaaQb
import Derived.Test.YtnhpmmmkcemnmaaPcx15
import Derived.Lib.Bytes
namespace Go.Proofs.Ytnhpmmmkcemnmaa.Pc
open Go.RowKit Go.Proofs.YtnhpmmmkcemnmaaW.PrintWords Go.Proofs.YtnhpmmmkcemnmaaW.PrintLast Go.Proofs.YtnhpmmmkcemnmaaW.PrintMore
set_option linter.unusedVariables false
set_option linter.unusedSimpArgs false

/-- Bytes as a string are alike just if the bytes are. -/
theorem strs_eq {a b : List Int} (ha : By a) (hb : By b) : ((strOfNums a).toList = (strOfNums b).toList) ↔ a = b := by
  constructor
  · intro h
    have h1 : (strOfNums a).data.toList = (strOfNums b).data.toList := by
      have e : ∀ x : ByteArray, x.toList = x.data.toList := fun x => Lib.toList_data x
      rw [← e, ← e]
      exact h
    rw [strOfNums_data, strOfNums_data] at h1
    have hlen : a.length = b.length := by
      have := congrArg List.length h1
      simpa using this
    apply List.ext_getElem hlen
    intro i g1 g2
    have h2 : (a.map fun n => UInt8.ofNat n.toNat)[i]'(by simpa using g1) = (b.map fun n => UInt8.ofNat n.toNat)[i]'(by simpa using g2) := by simp only [h1]
    rw [List.getElem_map, List.getElem_map] at h2
    have x1 := ha a[i] (List.getElem_mem g1)
    have x2 := hb b[i] (List.getElem_mem g2)
    have h3 := congrArg UInt8.toNat h2
    rw [UInt8.toNat_ofNat', UInt8.toNat_ofNat'] at h3
    omega
  · intro h
    rw [h]
theorem bytes_Equal_is (a b : List Int) (ha : By a) (hb : By b) : bytes_Equal.f a b = some (a == b) := by
  unfold bytes_Equal.f
  by_cases h : a = b
  · rw [h]
    simp
  · rw [beq_eq_false_iff_ne.mpr h, beq_eq_false_iff_ne.mpr (fun e => h ((strs_eq ha hb).1 e))]

/-- What a sector's body says. -/
def bodyOf (l : List Int) : List Int := (l.take 124).drop 1
theorem bodyOf_by {l : List Int} (h : By l) : By (bodyOf l) := (h.take_ 124).drop_ 1
end Go.Proofs.Ytnhpmmmkcemnmaa.Pc
