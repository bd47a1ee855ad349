/-
  The chapter's examples, reckoned in plain words.
-/
import Derived.Test.YtakiinghipjopaaGreatDoorOpsMath
namespace Go.Proofs.YtakiinghipjopaaGreatDoor
open Go.Lib (NumEnd decDigits itoa)

/-- digits, as far as they go -/
def decF : Nat → Nat → List UInt8
  | 0, _ => []
  | f + 1, u => if u < 10 then [UInt8.ofNat (48 + u)] else decF f (u / 10) ++ [UInt8.ofNat (48 + u % 10)]
theorem decF_eq : ∀ (f u : Nat), u < 10 ^ (f + 1) → decDigits u = decF (f + 1) u
  | 0, u, h => by
    have h1 : u < 10 := by simpa using h
    rw [Lib.decDigits_one h1, decF, if_pos h1]
  | f + 1, u, h => by
    by_cases h1 : u < 10
    · rw [Lib.decDigits_one h1, decF, if_pos h1]
    · rw [decDigits, dif_neg h1, decF, if_neg h1, decF_eq f (u / 10) (by rw [Nat.pow_succ] at h; omega)]
def decG (u : Nat) : List UInt8 := if u < 10 ^ 20 then decF 20 u else decDigits u
theorem dec_fun : decDigits = decG := by
  funext u
  unfold decG
  split
  · rename_i h; exact decF_eq 19 u h
  · rfl
def exW (d : List Int) : OpV := ⟨5, 1, 3, 0, d⟩
theorem exText : textOf (exW (List.replicate 128 1)) = [119, 114, 105, 116, 101, 32, 49, 32, 51, 32, 48, 49, 120, 49, 50, 56] := by
  delta textOf toldOf fieldOf shownOf runTxt
  rw [dec_fun]
  decide +kernel
theorem exCommit : textOf ⟨7, 5, 0, 0, []⟩ = [111, 112, 32, 55, 32, 53, 32, 48, 32, 48, 32, 45] := by
  delta textOf toldOf fieldOf shownOf runTxt
  rw [dec_fun]
  decide +kernel
theorem ex99 : textOf ⟨99, 0, 0, 0, []⟩ = [111, 112, 32, 57, 57, 32, 48, 32, 48, 32, 48, 32, 45] := by
  delta textOf toldOf fieldOf shownOf runTxt
  rw [dec_fun]
  decide +kernel
theorem exText0 : textOf (exW ((List.replicate 128 1).set 0 0)) = [119, 114, 105, 116, 101, 32, 49, 32, 51, 32, 48, 48, 46, 48, 49, 120, 49, 50, 55] := by
  delta textOf toldOf fieldOf shownOf runTxt
  rw [dec_fun]
  decide +kernel
theorem exNone : textOf (exW []) = [119, 114, 105, 116, 101, 32, 49, 32, 51, 32, 45] := by
  delta textOf toldOf fieldOf shownOf runTxt
  rw [dec_fun]
  decide +kernel
/-- what is no line -/
def badL : List (List UInt8) := [[119, 114, 105, 116, 101, 32, 49, 32, 51], [119, 114, 105, 116, 101, 32, 49, 32, 51, 32, 48, 49, 120, 49], [119, 114, 105, 116, 101, 32, 49, 32, 51, 32, 48, 49, 46, 48, 49], [119, 114, 105, 116, 101, 32, 48, 49, 32, 51, 32, 45],
  [111, 112, 32, 55, 32, 48, 32, 48, 32, 48, 32, 45], [114, 101, 97, 100, 32, 49, 32, 49, 56, 52, 52, 54, 55, 52, 52, 48, 55, 51, 55, 48, 57, 53, 53, 49, 54, 49, 54], [], [109, 97, 107, 101, 32], [119, 114, 105, 116, 101, 32, 49, 32, 51, 32, 48, 49, 120, 50, 53, 54]]
theorem bad_all : ∀ k : Fin 9, parseR (badL.getD k.val []) = (op0, 270) := by
  delta parseR textR textOf toldOf fieldOf shownOf runTxt
  rw [dec_fun]
  decide +kernel
theorem exShown : shownOf (List.replicate 128 1) = [48, 49, 120, 49, 50, 56] := by
  delta shownOf runTxt
  rw [dec_fun]
  decide +kernel
end Go.Proofs.YtakiinghipjopaaGreatDoor
