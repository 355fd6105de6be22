/- A text of the claim, with what no other text of it needs taken out. -/
import Derived.Lib.DecodeN
namespace Go.Proofs.YtjciehecedepeaaDoor.U
open Go
set_option linter.unusedVariables false
set_option linter.unusedSimpArgs false
def isx (c : Nat) : Bool := c == 9 || c == 10 || c == 13 || (decide (32 ≤ c) && decide (c ≤ 55295)) || (decide (57344 ≤ c) && decide (c ≤ 65533)) || (decide (65536 ≤ c) && decide (c ≤ 1114111))
def enc (c : Nat) : List UInt8 :=
  if c < 128 then [UInt8.ofNat c]
  else if c < 2048 then [UInt8.ofNat (192 + c / 64), UInt8.ofNat (128 + c % 64)]
  else if c < 65536 then [UInt8.ofNat (224 + c / 4096), UInt8.ofNat (128 + c / 64 % 64), UInt8.ofNat (128 + c % 64)]
  else [UInt8.ofNat (240 + c / 262144), UInt8.ofNat (128 + c / 4096 % 64), UInt8.ofNat (128 + c / 64 % 64), UInt8.ofNat (128 + c % 64)]
def dec (l : List UInt8) : Nat × Nat := Lib.decodeN l.length (l.getD 0 0).toNat (l.getD 1 0).toNat (l.getD 2 0).toNat (l.getD 3 0).toNat
def nx (l : List UInt8) : Nat × Nat := if l = [] then (0, 0) else if isx (dec l).1 = true ∧ ¬ ((dec l).1 = 65533 ∧ (dec l).2 = 1) then dec l else (0, 0)
def number (l : List UInt8) (n : Nat) : Int :=
  if n = 1 then (l.getD 0 0).toNat
  else if n = 2 then ((l.getD 0 0).toNat - 192) * 64 + (l.getD 1 0).toNat - 128
  else if n = 3 then (((l.getD 0 0).toNat - 224) * 64 + (l.getD 1 0).toNat - 128) * 64 + (l.getD 2 0).toNat - 128
  else ((((l.getD 0 0).toNat - 240) * 64 + (l.getD 1 0).toNat - 128) * 64 + (l.getD 2 0).toNat - 128) * 64 + (l.getD 3 0).toNat - 128
end Go.Proofs.YtjciehecedepeaaDoor.U
