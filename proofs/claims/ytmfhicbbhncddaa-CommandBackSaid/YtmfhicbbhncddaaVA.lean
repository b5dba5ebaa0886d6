/-
  The kinds of this seat, for the evaluation.
-/
import Derived.Test.YtmfhicbbhncddaaV19
set_option linter.unusedVariables false
set_option linter.unusedSimpArgs false
namespace Go.V
theorem get_int (xs : List (Int)) (i : Nat) : Ety.get .int xs i = xs.getD i 0 := rfl
theorem get_byte (xs : List (UInt8)) (i : Nat) : Ety.get .byte xs i = xs.getD i 0 := rfl
theorem get_str (xs : List (List UInt8)) (i : Nat) : Ety.get .str xs i = xs.getD i [] := rfl
theorem get_ints (xs : List (List Int)) (i : Nat) : Ety.get .ints xs i = xs.getD i [] := rfl
attribute [go_sem] dec_int dec_byte dec_str dec_ints Cmd.cells get_int get_byte get_str get_ints
end Go.V
