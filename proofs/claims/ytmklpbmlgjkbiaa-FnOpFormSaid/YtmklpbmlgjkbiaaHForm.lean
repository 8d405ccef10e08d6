/- What a step has not, it may not bear; no condition. -/
import Derived.Test.YtmklpbmlgjkbiaaHDefs
namespace Go.Proofs.Ytmklpbmlgjkbiaa.PS
theorem bad_of {k r s t vk vn : Int} (h : ¬ opP k r s t vk vn) : opV.f k r s t vk vn ≠ some true := by
  unfold opV.f; rw [opB_false.2 h]; simp
theorem form_r {k s t vk vn : Int} : opV.f k 4 s t vk vn ≠ some true := bad_of (fun h => by unfold opP at h; omega)
theorem form_s {k r t vk vn : Int} : opV.f k r (-1) t vk vn ≠ some true := bad_of (fun h => by unfold opP at h; omega)
theorem form_t {k r s vk vn : Int} : opV.f k r s 16 vk vn ≠ some true := bad_of (fun h => by unfold opP at h; omega)
theorem form_v {k r s t : Int} : opV.f k r s t 4 0 ≠ some true := bad_of (fun h => by unfold opP valP okP at h; omega)
theorem form_e : opV.f 8 0 0 0 1 0 ≠ some true := bad_of (fun h => by unfold opP valP okP at h; omega)
end Go.Proofs.Ytmklpbmlgjkbiaa.PS
