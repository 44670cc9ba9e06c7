/- impl.FormatInt at a number below 10, by the shelf's contract of strconv.Itoa: what a call of it computes. Conditions: the number is 0 to 9. -/
import Derived.Test.YtmidcafamppkeaaDoorP0
import Derived.Ground.NamesProg
import Derived.Shelf.Lay
import Derived.Shelf.Strconv.Itoa3
import Derived.Lib.ItoaNum
namespace Go.Proofs
open Go.Shelf
shelf_lay Lays.n171 Nm 171 at Tryd as Tryd.lays171
end Go.Proofs
namespace Go.Proofs.YtmidcafamppkeaaDoor.P
open Go.RowKit Go.Proofs.YtmidcafamppkeaaDoorW.PrintWords Go.Proofs.YtmidcafamppkeaaDoorW.PrintLast Go.Proofs.YtmidcafamppkeaaDoorW.PrintMore
set_option linter.unusedVariables false
set_option linter.unusedSimpArgs false

def impl_FormatInt.f (n : Int) : Option ByteArray := if 0 ≤ n then (if n < 10 then some ⟨#[UInt8.ofNat (48 + n.toNat)]⟩ else none) else none
set_option maxHeartbeats 8000000 in
set_option maxRecDepth 100000 in
theorem impl_FormatInt.calls (n : Int) (r : ByteArray) (w : World) (h : impl_FormatInt.f n = some r) :
    Calls Tryd.prog 50 #[.int .i64 n] w fun e w' => e = .returned (.string r) ∧ Drawn0 w w' := by
  unfold impl_FormatInt.f at h
  by_cases h0 : 0 ≤ n
  · rw [if_pos h0] at h
    by_cases h1 : n < 10
    · rw [if_pos h1] at h
      obtain rfl := Option.some.inj h
      obtain ⟨i, rfl⟩ : ∃ i : Nat, n = (i : Int) := ⟨n.toNat, by omega⟩
      have hi : i < 100 := by omega
      obtain ⟨c, hc⟩ : ∃ c, c = UInt8.ofNat (48 + i) := ⟨_, rfl⟩
      have hd : Lib.decDigits i = [c] := by rw [hc, Lib.decDigits, dif_pos (by omega)]
      obtain ⟨z, hz⟩ : ∃ z : Int, (i : Int) = z := ⟨_, rfl⟩
      have HC := Aside0.mk (fun w => Any.strconv_Itoa_small Tryd.lays171 i hi w)
      have HD := Aside0.mk hd
      rw [hz] at HC
      have HZ := Aside0.mk hz
      rw [Int.toNat_natCast, ← hc, hz]
      clear hc h h0 h1 hi hd hz
      go_enter Tryd.func50, Tryd.ntmps50
      go_wp2_with (first | (go_at_call 57; refine (HC.out _).mono ?_; rintro e w6 ⟨rfl, rfl⟩; rw [HD.out]))
      go_ret
      exact ⟨rfl, Drawn0.refl _⟩
    · rw [if_neg h1] at h; exact absurd h (by simp)
  · rw [if_neg h0] at h; exact absurd h (by simp)

end Go.Proofs.YtmidcafamppkeaaDoor.P
