/- The form's reach: how long a list of bytes that came in may be. -/
import Derived.Test.YtfikeilpgnahkaaRead
import Derived.SizedLaws
namespace Go.Proofs.Ytfikeilpgnahkaa
open Go.ChangeShapes Go.WideShapes Go.ChangeAt Go.RowKit

theorem bytes_u8 : Try.prog.bytesOf 5 = 1 := by kernel_rfl
theorem rd_reach {H : Type} {enc : TypeId × Value → H} {W : World} {base : Nat} {spare : Nat → Bool} {held : Bool} {fuel : Nat} {a : Option Addr} {len cap : Nat} {d : DataW H} {p : List MemPlace}
    (h : DataW.trod enc Try.prog W base spare held fuel 33 [.slice a len cap] = some (d, p)) {ts : List TypeId} {ds : List (DataW H)} (hsz : (DataW.weightsEach Try.prog ts ds).all (· ≤ reachBytes) = true) (j : Nat) (ht : ts[j]? = some 33) (hd : ds[j]? = some d) : len ≤ 140737488351232 := by
  rcases open_ints Try.underlying33 Try.underlying5 (by kernel_rfl) h with ⟨hcs, hx⟩ | ⟨x, len', cap', zs, hcs, _, hl, hm, hz, hx, hcell, hwz⟩
  · simp at hcs
    omega
  · simp at hcs
    obtain ⟨rfl, rfl, rfl⟩ := hcs
    injection hx with hx _
    subst hx
    have h1 := sized_slice hsz ht hd Try.underlying33
    rw [bytes_u8] at h1
    simp [lits] at h1
    have hzl : len ≤ zs.length := by rw [hz]; split <;> omega
    unfold reachBytes at h1
    omega

end Go.Proofs.Ytfikeilpgnahkaa
