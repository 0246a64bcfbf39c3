/- Part 4 of the proof: General steps, and closed facts on the program. -/
import Derived.Test.YthfhbddnkgfhaaaDoorPartC
import Derived.Test.YthfhbddnkgfhaaaDoorProg
import Derived.KernelRfl
set_option linter.unusedVariables false
set_option linter.unusedSimpArgs false
/-! ### PD0 -/
namespace Go.AM
open Go.Proofs
set_option maxRecDepth 100000
theorem mixed : Tryd.prog.follows .mixedOrders = true := by kernel_rfl
def H0 : Nat → List (Nat × Nat) := fun _ => []
theorem T22 : undOf Tryd.prog 22 = some (.slice 25) := by kernel_rfl
theorem T25 : undOf Tryd.prog 25 = some (.slice 3) := by kernel_rfl
theorem T35 : undOf Tryd.prog 35 = some (.slice 40) := by kernel_rfl
theorem T55 : undOf Tryd.prog 55 = some (.slice 76) := by kernel_rfl
theorem T63 : undOf Tryd.prog 63 = some (.slice 5) := by kernel_rfl
theorem T40 : undOf Tryd.prog 40 = some (.array 2 3) := by kernel_rfl
theorem T92 : undOf Tryd.prog 92 = some (.array 1024 4) := by kernel_rfl
theorem T93 : undOf Tryd.prog 93 = some (.array 1024 4) := by kernel_rfl
theorem T96 : undOf Tryd.prog 96 = some (.array 3 95) := by kernel_rfl
theorem T105 : undOf Tryd.prog 105 = some (.array 3 3) := by kernel_rfl
theorem T87 : undOf Tryd.prog 87 = some (.map 3 3) := by kernel_rfl
theorem S3 : szOf Tryd.prog 3 = some 1 := by kernel_rfl
theorem S4 : szOf Tryd.prog 4 = some 1 := by kernel_rfl
theorem S5 : szOf Tryd.prog 5 = some 1 := by kernel_rfl
theorem S22 : szOf Tryd.prog 22 = some 1 := by kernel_rfl
theorem S24 : szOf Tryd.prog 24 = some 1 := by kernel_rfl
theorem S25 : szOf Tryd.prog 25 = some 1 := by kernel_rfl
theorem S30 : szOf Tryd.prog 30 = some 1 := by kernel_rfl
theorem S35 : szOf Tryd.prog 35 = some 1 := by kernel_rfl
theorem S40 : szOf Tryd.prog 40 = some 2 := by kernel_rfl
theorem S55 : szOf Tryd.prog 55 = some 1 := by kernel_rfl
theorem S57 : szOf Tryd.prog 57 = some 3 := by kernel_rfl
theorem S63 : szOf Tryd.prog 63 = some 1 := by kernel_rfl
theorem S65 : szOf Tryd.prog 65 = some 1 := by kernel_rfl
theorem S76 : szOf Tryd.prog 76 = some 4 := by kernel_rfl
theorem S79 : szOf Tryd.prog 79 = some 3 := by kernel_rfl
theorem S87 : szOf Tryd.prog 87 = some 1 := by kernel_rfl
theorem S92 : szOf Tryd.prog 92 = some 1024 := by kernel_rfl
theorem S93 : szOf Tryd.prog 93 = some 1024 := by kernel_rfl
theorem S95 : szOf Tryd.prog 95 = some 1 := by kernel_rfl
theorem S96 : szOf Tryd.prog 96 = some 3 := by kernel_rfl
theorem S105 : szOf Tryd.prog 105 = some 3 := by kernel_rfl
theorem S111 : szOf Tryd.prog 111 = some 1 := by kernel_rfl
theorem S113 : szOf Tryd.prog 113 = some 3 := by kernel_rfl
theorem S116 : szOf Tryd.prog 116 = some 2 := by kernel_rfl
theorem S125 : szOf Tryd.prog 125 = some 1 := by kernel_rfl
theorem S118 : szOf Tryd.prog 118 = some 1 := by kernel_rfl
theorem S129 : szOf Tryd.prog 129 = some 1 := by kernel_rfl
theorem S91 : szOf Tryd.prog 91 = some 1 := by kernel_rfl
theorem S83 : szOf Tryd.prog 83 = some 1 := by kernel_rfl
theorem S99 : szOf Tryd.prog 99 = some 1 := by kernel_rfl
theorem A3 : isAggT Tryd.prog 3 = some false := by kernel_rfl
theorem A4 : isAggT Tryd.prog 4 = some false := by kernel_rfl
theorem A5 : isAggT Tryd.prog 5 = some false := by kernel_rfl
theorem A22 : isAggT Tryd.prog 22 = some false := by kernel_rfl
theorem A24 : isAggT Tryd.prog 24 = some true := by kernel_rfl
theorem A25 : isAggT Tryd.prog 25 = some false := by kernel_rfl
theorem A30 : isAggT Tryd.prog 30 = some false := by kernel_rfl
theorem A35 : isAggT Tryd.prog 35 = some false := by kernel_rfl
theorem A40 : isAggT Tryd.prog 40 = some true := by kernel_rfl
theorem A55 : isAggT Tryd.prog 55 = some false := by kernel_rfl
theorem A57 : isAggT Tryd.prog 57 = some true := by kernel_rfl
theorem A63 : isAggT Tryd.prog 63 = some false := by kernel_rfl
theorem A65 : isAggT Tryd.prog 65 = some false := by kernel_rfl
theorem A76 : isAggT Tryd.prog 76 = some true := by kernel_rfl
theorem A79 : isAggT Tryd.prog 79 = some true := by kernel_rfl
theorem A87 : isAggT Tryd.prog 87 = some false := by kernel_rfl
theorem A92 : isAggT Tryd.prog 92 = some true := by kernel_rfl
theorem A93 : isAggT Tryd.prog 93 = some true := by kernel_rfl
theorem A95 : isAggT Tryd.prog 95 = some true := by kernel_rfl
theorem A96 : isAggT Tryd.prog 96 = some true := by kernel_rfl
theorem A105 : isAggT Tryd.prog 105 = some true := by kernel_rfl
theorem A111 : isAggT Tryd.prog 111 = some false := by kernel_rfl
theorem A113 : isAggT Tryd.prog 113 = some true := by kernel_rfl
theorem A116 : isAggT Tryd.prog 116 = some true := by kernel_rfl
theorem A125 : isAggT Tryd.prog 125 = some false := by kernel_rfl
theorem A118 : isAggT Tryd.prog 118 = some false := by kernel_rfl
theorem A129 : isAggT Tryd.prog 129 = some false := by kernel_rfl
theorem A91 : isAggT Tryd.prog 91 = some false := by kernel_rfl
theorem A83 : isAggT Tryd.prog 83 = some false := by kernel_rfl
theorem A99 : isAggT Tryd.prog 99 = some false := by kernel_rfl
theorem Z3 : zeroOf Tryd.prog 3 = some (nv 0) := by kernel_rfl
theorem Z4 : zeroOf Tryd.prog 4 = some (.bool false) := by kernel_rfl
theorem Z5 : zeroOf Tryd.prog 5 = some (.int .u8 0) := by kernel_rfl
theorem Z22 : zeroOf Tryd.prog 22 = some (.slice none 0 0) := by kernel_rfl
theorem Z25 : zeroOf Tryd.prog 25 = some (.slice none 0 0) := by kernel_rfl
theorem Z35 : zeroOf Tryd.prog 35 = some (.slice none 0 0) := by kernel_rfl
theorem Z55 : zeroOf Tryd.prog 55 = some (.slice none 0 0) := by kernel_rfl
theorem Z24 : zeroOf Tryd.prog 24 = some (.agg #[.slice none 0 0]) := by kernel_rfl
theorem Z30 : zeroOf Tryd.prog 30 = some (nv 0) := by kernel_rfl
theorem Z40 : zeroOf Tryd.prog 40 = some (.agg #[nv 0, nv 0]) := by kernel_rfl
theorem Z57 : zeroOf Tryd.prog 57 = some (.agg #[nv 0, nv 0, .slice none 0 0]) := by kernel_rfl
theorem Z76 : zeroOf Tryd.prog 76 = some (.agg #[nv 0, .slice none 0 0, nv 0, nv 0]) := by kernel_rfl
theorem Z79 : zeroOf Tryd.prog 79 = some (.agg #[.slice none 0 0, .slice none 0 0, nv 0]) := by kernel_rfl
theorem Z87 : zeroOf Tryd.prog 87 = some (.map none) := by kernel_rfl
theorem Z93 : zeroOf Tryd.prog 93 = some (.agg (Array.replicate 1024 (.bool false))) := by kernel_rfl
theorem Z105 : zeroOf Tryd.prog 105 = some (.agg #[nv 0, nv 0, nv 0]) := by kernel_rfl
theorem Z116 : zeroOf Tryd.prog 116 = some (.agg #[nv 0, nv 0]) := by kernel_rfl
theorem Z99 : zeroOf Tryd.prog 99 = some (.nilFunc) := by kernel_rfl
theorem Z95 : zeroOf Tryd.prog 95 = some (.agg #[.nilFunc]) := by kernel_rfl
theorem F24_0 {b o : Nat} : aFieldAddr Tryd.prog 24 (.pointer (some ⟨b, o, none⟩)) 0 = some (.pointer (some ⟨b, o, none⟩)) := by kernel_rfl
theorem F57_0 {b o : Nat} : aFieldAddr Tryd.prog 57 (.pointer (some ⟨b, o, none⟩)) 0 = some (.pointer (some ⟨b, o, none⟩)) := by kernel_rfl
theorem F57_1 {b o : Nat} : aFieldAddr Tryd.prog 57 (.pointer (some ⟨b, o, none⟩)) 1 = some (.pointer (some ⟨b, o + 1, none⟩)) := by kernel_rfl
theorem F57_2 {b o : Nat} : aFieldAddr Tryd.prog 57 (.pointer (some ⟨b, o, none⟩)) 2 = some (.pointer (some ⟨b, o + 2, none⟩)) := by kernel_rfl
theorem F76_0 {b o : Nat} : aFieldAddr Tryd.prog 76 (.pointer (some ⟨b, o, none⟩)) 0 = some (.pointer (some ⟨b, o, none⟩)) := by kernel_rfl
theorem F76_1 {b o : Nat} : aFieldAddr Tryd.prog 76 (.pointer (some ⟨b, o, none⟩)) 1 = some (.pointer (some ⟨b, o + 1, none⟩)) := by kernel_rfl
theorem F76_2 {b o : Nat} : aFieldAddr Tryd.prog 76 (.pointer (some ⟨b, o, none⟩)) 2 = some (.pointer (some ⟨b, o + 2, none⟩)) := by kernel_rfl
theorem F76_3 {b o : Nat} : aFieldAddr Tryd.prog 76 (.pointer (some ⟨b, o, none⟩)) 3 = some (.pointer (some ⟨b, o + 3, none⟩)) := by kernel_rfl
theorem F79_0 {b o : Nat} : aFieldAddr Tryd.prog 79 (.pointer (some ⟨b, o, none⟩)) 0 = some (.pointer (some ⟨b, o, none⟩)) := by kernel_rfl
theorem F79_1 {b o : Nat} : aFieldAddr Tryd.prog 79 (.pointer (some ⟨b, o, none⟩)) 1 = some (.pointer (some ⟨b, o + 1, none⟩)) := by kernel_rfl
theorem F79_2 {b o : Nat} : aFieldAddr Tryd.prog 79 (.pointer (some ⟨b, o, none⟩)) 2 = some (.pointer (some ⟨b, o + 2, none⟩)) := by kernel_rfl
theorem F113_0 {b o : Nat} : aFieldAddr Tryd.prog 113 (.pointer (some ⟨b, o, none⟩)) 0 = some (.pointer (some ⟨b, o, none⟩)) := by kernel_rfl
theorem F113_1 {b o : Nat} : aFieldAddr Tryd.prog 113 (.pointer (some ⟨b, o, none⟩)) 1 = some (.pointer (some ⟨b, o + 1, none⟩)) := by kernel_rfl
theorem F113_2 {b o : Nat} : aFieldAddr Tryd.prog 113 (.pointer (some ⟨b, o, none⟩)) 2 = some (.pointer (some ⟨b, o + 2, none⟩)) := by kernel_rfl
theorem F116_0 {b o : Nat} : aFieldAddr Tryd.prog 116 (.pointer (some ⟨b, o, none⟩)) 0 = some (.pointer (some ⟨b, o, none⟩)) := by kernel_rfl
theorem F116_1 {b o : Nat} : aFieldAddr Tryd.prog 116 (.pointer (some ⟨b, o, none⟩)) 1 = some (.pointer (some ⟨b, o + 1, none⟩)) := by kernel_rfl
theorem F95_0 {b o : Nat} : aFieldAddr Tryd.prog 95 (.pointer (some ⟨b, o, none⟩)) 0 = some (.pointer (some ⟨b, o, none⟩)) := by kernel_rfl
theorem bytes3 : bytesOf' Tryd.prog 3 = some 8 := by kernel_rfl
theorem App25 : AppT Tryd.prog 25 25 := ⟨_, _, _, T25, T25, rfl, S3, Z3, rfl, by kernel_rfl⟩
theorem U3 : undOf Tryd.prog 3 = some (.int .i64) := by kernel_rfl
theorem call3 : callable Tryd.prog 3 = true := by kernel_rfl
theorem call4 : callable Tryd.prog 4 = true := by kernel_rfl
theorem call5 : callable Tryd.prog 5 = true := by kernel_rfl
theorem call6 : callable Tryd.prog 6 = true := by kernel_rfl
theorem call7 : callable Tryd.prog 7 = true := by kernel_rfl
theorem call8 : callable Tryd.prog 8 = true := by kernel_rfl
theorem call9 : callable Tryd.prog 9 = true := by kernel_rfl
theorem call10 : callable Tryd.prog 10 = true := by kernel_rfl
theorem call11 : callable Tryd.prog 11 = true := by kernel_rfl
theorem call12 : callable Tryd.prog 12 = true := by kernel_rfl
theorem call13 : callable Tryd.prog 13 = true := by kernel_rfl
theorem call14 : callable Tryd.prog 14 = true := by kernel_rfl
theorem call15 : callable Tryd.prog 15 = true := by kernel_rfl
theorem call16 : callable Tryd.prog 16 = true := by kernel_rfl
theorem call17 : callable Tryd.prog 17 = true := by kernel_rfl
theorem call18 : callable Tryd.prog 18 = true := by kernel_rfl
theorem call19 : callable Tryd.prog 19 = true := by kernel_rfl
theorem call20 : callable Tryd.prog 20 = true := by kernel_rfl
theorem call21 : callable Tryd.prog 21 = true := by kernel_rfl
theorem call22 : callable Tryd.prog 22 = true := by kernel_rfl
theorem call23 : callable Tryd.prog 23 = true := by kernel_rfl
theorem call24 : callable Tryd.prog 24 = true := by kernel_rfl
theorem call25 : callable Tryd.prog 25 = true := by kernel_rfl
theorem call26 : callable Tryd.prog 26 = true := by kernel_rfl
theorem call27 : callable Tryd.prog 27 = true := by kernel_rfl
theorem call28 : callable Tryd.prog 28 = true := by kernel_rfl
theorem call29 : callable Tryd.prog 29 = true := by kernel_rfl
theorem call30 : callable Tryd.prog 30 = true := by kernel_rfl
theorem call31 : callable Tryd.prog 31 = true := by kernel_rfl
theorem call32 : callable Tryd.prog 32 = true := by kernel_rfl
theorem call33 : callable Tryd.prog 33 = true := by kernel_rfl
theorem call34 : callable Tryd.prog 34 = true := by kernel_rfl
theorem call35 : callable Tryd.prog 35 = true := by kernel_rfl
theorem call36 : callable Tryd.prog 36 = true := by kernel_rfl
theorem call37 : callable Tryd.prog 37 = true := by kernel_rfl
theorem call38 : callable Tryd.prog 38 = true := by kernel_rfl
theorem call39 : callable Tryd.prog 39 = true := by kernel_rfl
theorem call40 : callable Tryd.prog 40 = true := by kernel_rfl
theorem call41 : callable Tryd.prog 41 = true := by kernel_rfl
theorem call42 : callable Tryd.prog 42 = true := by kernel_rfl
theorem call43 : callable Tryd.prog 43 = true := by kernel_rfl
theorem call44 : callable Tryd.prog 44 = true := by kernel_rfl
theorem call45 : callable Tryd.prog 45 = true := by kernel_rfl
theorem call46 : callable Tryd.prog 46 = true := by kernel_rfl
theorem call47 : callable Tryd.prog 47 = true := by kernel_rfl
theorem call48 : callable Tryd.prog 48 = true := by kernel_rfl
theorem call49 : callable Tryd.prog 49 = true := by kernel_rfl
theorem call50 : callable Tryd.prog 50 = true := by kernel_rfl
theorem call51 : callable Tryd.prog 51 = true := by kernel_rfl
theorem call52 : callable Tryd.prog 52 = true := by kernel_rfl
theorem call53 : callable Tryd.prog 53 = true := by kernel_rfl
theorem call54 : callable Tryd.prog 54 = true := by kernel_rfl
theorem call55 : callable Tryd.prog 55 = true := by kernel_rfl
theorem call56 : callable Tryd.prog 56 = true := by kernel_rfl
theorem call57 : callable Tryd.prog 57 = true := by kernel_rfl
theorem call58 : callable Tryd.prog 58 = true := by kernel_rfl
theorem call59 : callable Tryd.prog 59 = true := by kernel_rfl
theorem call60 : callable Tryd.prog 60 = true := by kernel_rfl
theorem call61 : callable Tryd.prog 61 = true := by kernel_rfl
theorem call62 : callable Tryd.prog 62 = true := by kernel_rfl
theorem call63 : callable Tryd.prog 63 = true := by kernel_rfl
theorem call64 : callable Tryd.prog 64 = true := by kernel_rfl
theorem call65 : callable Tryd.prog 65 = true := by kernel_rfl
theorem call66 : callable Tryd.prog 66 = true := by kernel_rfl
theorem call67 : callable Tryd.prog 67 = true := by kernel_rfl
theorem call68 : callable Tryd.prog 68 = true := by kernel_rfl
theorem call69 : callable Tryd.prog 69 = true := by kernel_rfl
theorem call70 : callable Tryd.prog 70 = true := by kernel_rfl
theorem call71 : callable Tryd.prog 71 = true := by kernel_rfl
theorem call72 : callable Tryd.prog 72 = true := by kernel_rfl
theorem call73 : callable Tryd.prog 73 = true := by kernel_rfl
theorem call74 : callable Tryd.prog 74 = true := by kernel_rfl
theorem call75 : callable Tryd.prog 75 = true := by kernel_rfl
theorem call76 : callable Tryd.prog 76 = true := by kernel_rfl
theorem call77 : callable Tryd.prog 77 = true := by kernel_rfl
theorem call78 : callable Tryd.prog 78 = true := by kernel_rfl
theorem call79 : callable Tryd.prog 79 = true := by kernel_rfl
theorem call80 : callable Tryd.prog 80 = true := by kernel_rfl
theorem call81 : callable Tryd.prog 81 = true := by kernel_rfl
theorem call82 : callable Tryd.prog 82 = true := by kernel_rfl
theorem call83 : callable Tryd.prog 83 = true := by kernel_rfl
theorem call84 : callable Tryd.prog 84 = true := by kernel_rfl
theorem call85 : callable Tryd.prog 85 = true := by kernel_rfl
theorem call86 : callable Tryd.prog 86 = true := by kernel_rfl
theorem call87 : callable Tryd.prog 87 = true := by kernel_rfl
theorem call88 : callable Tryd.prog 88 = true := by kernel_rfl
theorem call89 : callable Tryd.prog 89 = true := by kernel_rfl
theorem call90 : callable Tryd.prog 90 = true := by kernel_rfl
theorem call91 : callable Tryd.prog 91 = true := by kernel_rfl
theorem call92 : callable Tryd.prog 92 = true := by kernel_rfl
theorem call93 : callable Tryd.prog 93 = true := by kernel_rfl
theorem call94 : callable Tryd.prog 94 = true := by kernel_rfl
theorem call95 : callable Tryd.prog 95 = true := by kernel_rfl
theorem call96 : callable Tryd.prog 96 = true := by kernel_rfl
theorem call97 : callable Tryd.prog 97 = true := by kernel_rfl
theorem call98 : callable Tryd.prog 98 = true := by kernel_rfl
theorem call99 : callable Tryd.prog 99 = true := by kernel_rfl
theorem call100 : callable Tryd.prog 100 = true := by kernel_rfl
theorem call101 : callable Tryd.prog 101 = true := by kernel_rfl
theorem call102 : callable Tryd.prog 102 = true := by kernel_rfl
theorem call104 : callable Tryd.prog 104 = true := by kernel_rfl
theorem call105 : callable Tryd.prog 105 = true := by kernel_rfl
theorem call106 : callable Tryd.prog 106 = true := by kernel_rfl
theorem call107 : callable Tryd.prog 107 = true := by kernel_rfl
theorem call108 : callable Tryd.prog 108 = true := by kernel_rfl
theorem call109 : callable Tryd.prog 109 = true := by kernel_rfl
theorem call110 : callable Tryd.prog 110 = true := by kernel_rfl
theorem call111 : callable Tryd.prog 111 = true := by kernel_rfl
theorem call112 : callable Tryd.prog 112 = true := by kernel_rfl
theorem call113 : callable Tryd.prog 113 = true := by kernel_rfl
theorem call114 : callable Tryd.prog 114 = true := by kernel_rfl
theorem call115 : callable Tryd.prog 115 = true := by kernel_rfl
theorem call116 : callable Tryd.prog 116 = true := by kernel_rfl
theorem call117 : callable Tryd.prog 117 = true := by kernel_rfl
theorem call118 : callable Tryd.prog 118 = true := by kernel_rfl
theorem call119 : callable Tryd.prog 119 = true := by kernel_rfl
theorem call120 : callable Tryd.prog 120 = true := by kernel_rfl
theorem call121 : callable Tryd.prog 121 = true := by kernel_rfl
theorem call122 : callable Tryd.prog 122 = true := by kernel_rfl
theorem call123 : callable Tryd.prog 123 = true := by kernel_rfl
end Go.AM

/-! ### M0 -/
namespace Go.AM
def popF : Nat → Nat → Nat
  | 0, _ => 0
  | f + 1, x => if x = 0 then 0 else x % 2 + popF f (x / 2)
@[simp] theorem popF_zero (x : Nat) : popF 0 x = 0 := rfl
theorem popF_fuel : ∀ (f g x : Nat), x < 2 ^ f → x < 2 ^ g → popF f x = popF g x
  | 0, 0, x, _, _ => rfl
  | 0, g + 1, x, h, _ => by obtain rfl : x = 0 := by omega
                            simp [popF]
  | f + 1, 0, x, _, h => by obtain rfl : x = 0 := by omega
                            simp [popF]
  | f + 1, g + 1, x, h, h' => by
    rw [popF, popF]
    split
    · rfl
    · rw [popF_fuel f g (x / 2) (by rw [Nat.pow_succ] at h; omega) (by rw [Nat.pow_succ] at h'; omega)]
def popc (x : Nat) : Nat := popF x x
def parity : Nat → Nat
  | 0 => 0
  | x + 1 => (x + 1) % 2 ^^^ parity ((x + 1) / 2)
def blen (x : Nat) : Nat := if x = 0 then 0 else x.log2 + 1
theorem popc_pos {x : Nat} (h : 0 < x) : popc x = x % 2 + popc (x / 2) := by
  obtain ⟨y, rfl⟩ : ∃ y, x = y + 1 := ⟨x - 1, by omega⟩
  unfold popc
  rw [popF, if_neg (by omega), popF_fuel y ((y + 1) / 2) _ (Nat.lt_of_le_of_lt (by omega) (Nat.lt_two_pow_self (n := y))) Nat.lt_two_pow_self]
theorem parity_pos {x : Nat} (h : 0 < x) : parity x = x % 2 ^^^ parity (x / 2) := by
  obtain ⟨y, rfl⟩ : ∃ y, x = y + 1 := ⟨x - 1, by omega⟩
  rw [parity]
theorem blen_pos {x : Nat} (h : 0 < x) : blen x = 1 + blen (x / 2) := by
  unfold blen
  rw [if_neg (by omega)]
  by_cases h2 : x / 2 = 0
  · obtain rfl : x = 1 := by omega
    rfl
  · rw [if_neg h2, Nat.log2_def, if_pos (by omega)]; omega
theorem popc_le (x : Nat) : popc x ≤ x := by
  induction x using Nat.strongRecOn with
  | _ x ih =>
    by_cases h : 0 < x
    · rw [popc_pos h]; have := ih (x / 2) (by omega); omega
    · obtain rfl : x = 0 := by omega
      simp [popc]
theorem blen_le (x : Nat) : blen x ≤ x := by
  induction x using Nat.strongRecOn with
  | _ x ih =>
    by_cases h : 0 < x
    · rw [blen_pos h]; have := ih (x / 2) (by omega); omega
    · obtain rfl : x = 0 := by omega
      simp [blen]
theorem parity_lt (x : Nat) : parity x < 2 := by
  induction x using Nat.strongRecOn with
  | _ x ih =>
    by_cases h : 0 < x
    · rw [parity_pos h]; have := ih (x / 2) (by omega)
      exact Nat.xor_lt_two_pow (n := 1) (by omega) (by omega)
    · obtain rfl : x = 0 := by omega
      simp [parity]
end Go.AM

/-! ### M1 -/
namespace Go.AM
set_option linter.unusedVariables false

/-! ### How long a number is -/
theorem blen_zero : blen 0 = 0 := by simp [blen]
theorem lt_two_pow_blen (x : Nat) : x < 2 ^ blen x := by
  induction x using Nat.strongRecOn with
  | _ x ih =>
    by_cases h : 0 < x
    · rw [blen_pos h]
      have := ih (x / 2) (by omega)
      rw [Nat.add_comm, Nat.pow_succ]; omega
    · obtain rfl : x = 0 := by omega
      simp [blen]
theorem blen_le_of_lt {x k : Nat} (h : x < 2 ^ k) : blen x ≤ k := by
  induction k generalizing x with
  | zero => obtain rfl : x = 0 := by omega
            simp [blen]
  | succ k ih =>
    by_cases hx : 0 < x
    · rw [blen_pos hx]
      have := ih (x := x / 2) (by rw [Nat.pow_succ] at h; omega)
      omega
    · obtain rfl : x = 0 := by omega
      simp [blen]
theorem blen_pos_iff {x : Nat} : 0 < blen x ↔ x ≠ 0 := by
  constructor
  · intro h e; subst e; simp [blen] at h
  · intro h; rw [blen_pos (by omega)]; omega
theorem testBit_blen {x : Nat} (h : x ≠ 0) : x.testBit (blen x - 1) = true := by
  induction x using Nat.strongRecOn with
  | _ x ih =>
    rw [blen_pos (by omega), show 1 + blen (x / 2) - 1 = blen (x / 2) by omega]
    by_cases h2 : x / 2 = 0
    · have : x = 1 := by omega
      subst this; simp [blen]
    · have h3 := ih (x / 2) (by omega) h2
      have h4 := blen_pos_iff.2 h2
      rw [show blen (x / 2) = blen (x / 2) - 1 + 1 by omega, Nat.testBit_succ]
      exact h3
theorem lt_blen_of_testBit {x j : Nat} (h : x.testBit j = true) : j < blen x := by
  by_cases hj : j < blen x
  · exact hj
  · have : x < 2 ^ j := Nat.lt_of_lt_of_le (lt_two_pow_blen x) (Nat.pow_le_pow_right (by omega) (by omega))
    rw [Nat.testBit_lt_two_pow this] at h; cases h
theorem blen_eq {x k : Nat} (h1 : x < 2 ^ (k + 1)) (h2 : x.testBit k = true) : blen x = k + 1 := by
  have := blen_le_of_lt h1
  have := lt_blen_of_testBit h2
  omega
theorem testBit_ge {x k j : Nat} (h : x < 2 ^ k) (hj : k ≤ j) : x.testBit j = false :=
  Nat.testBit_lt_two_pow (Nat.lt_of_lt_of_le h (Nat.pow_le_pow_right (by omega) hj))
theorem lt_two_pow_of_bits {x k : Nat} (h : ∀ j, k ≤ j → x.testBit j = false) : x < 2 ^ k := by
  by_cases hx : x = 0
  · subst hx; exact Nat.two_pow_pos k
  · have h1 := testBit_blen hx
    have h2 : blen x - 1 < k := by
      by_cases hk : k ≤ blen x - 1
      · rw [h _ hk] at h1; cases h1
      · omega
    exact Nat.lt_of_lt_of_le (lt_two_pow_blen x) (Nat.pow_le_pow_right (by omega) (by omega))
/-- The greatest bit in which two numbers are not the same tells which is less. -/
theorem top_bit {x y : Nat} (h : y < x) : x ^^^ y ≠ 0 ∧ x.testBit (blen (x ^^^ y) - 1) = true := by
  have hd : x ^^^ y ≠ 0 := by
    intro e
    have : x = y := by
      apply Nat.eq_of_testBit_eq; intro i
      have := congrArg (·.testBit i) e
      simp only [Nat.testBit_xor, Nat.zero_testBit] at this
      revert this; cases x.testBit i <;> cases y.testBit i <;> simp
    omega
  refine ⟨hd, ?_⟩
  generalize hi : blen (x ^^^ y) - 1 = i
  have hb := testBit_blen hd
  rw [hi, Nat.testBit_xor] at hb
  have hup : ∀ j, i < j → x.testBit j = y.testBit j := by
    intro j hj
    have : (x ^^^ y).testBit j = false := by
      cases e : (x ^^^ y).testBit j with
      | false => rfl
      | true => have := lt_blen_of_testBit e; omega
    rw [Nat.testBit_xor] at this
    revert this; cases x.testBit j <;> cases y.testBit j <;> simp
  cases ex : x.testBit i with
  | true => rfl
  | false =>
    exfalso
    have ey : y.testBit i = true := by rw [ex] at hb; simpa using hb
    have e1 : x / 2 ^ (i + 1) = y / 2 ^ (i + 1) := by
      apply Nat.eq_of_testBit_eq; intro j
      rw [Nat.testBit_div_two_pow, Nat.testBit_div_two_pow]
      exact hup _ (by omega)
    have e2 : x % 2 ^ (i + 1) < 2 ^ i := by
      apply lt_two_pow_of_bits
      intro j hj
      rw [Nat.testBit_mod_two_pow]
      by_cases hji : j = i
      · subst hji; simp [ex]
      · have : ¬ j < i + 1 := by omega
        simp [this]
    have e3 : 2 ^ i ≤ y % 2 ^ (i + 1) := by
      apply Nat.ge_two_pow_of_testBit
      rw [Nat.testBit_mod_two_pow, ey]; simp
    have a1 := Nat.div_add_mod x (2 ^ (i + 1))
    have a2 := Nat.div_add_mod y (2 ^ (i + 1))
    rw [e1] at a1
    omega

theorem xor_cancel_left (a b : Nat) : a ^^^ (a ^^^ b) = b := by rw [← Nat.xor_assoc, Nat.xor_self, Nat.zero_xor]
theorem xor_cancel_right (a b : Nat) : a ^^^ b ^^^ b = a := by rw [Nat.xor_assoc, Nat.xor_self, Nat.xor_zero]
theorem xor_swap4 (a b c d : Nat) : (a ^^^ b) ^^^ (c ^^^ d) = (a ^^^ c) ^^^ (b ^^^ d) := by
  rw [Nat.xor_assoc, Nat.xor_assoc, ← Nat.xor_assoc b c d, Nat.xor_comm b c, Nat.xor_assoc c b d]
theorem xor_mid (a b c : Nat) : a ^^^ b ^^^ c ^^^ b = a ^^^ c := by
  rw [Nat.xor_assoc (a ^^^ b) c b, Nat.xor_comm c b, ← Nat.xor_assoc, xor_cancel_right]
theorem eq_of_xor_zero {a b : Nat} (h : a ^^^ b = 0) : a = b := by
  have := xor_cancel_right a b
  rw [h, Nat.zero_xor] at this; exact this.symm
theorem xor_div_two (a b : Nat) : (a ^^^ b) / 2 = a / 2 ^^^ b / 2 := by
  apply Nat.eq_of_testBit_eq; intro i
  rw [Nat.testBit_xor, Nat.testBit_div_two, Nat.testBit_div_two, Nat.testBit_div_two, Nat.testBit_xor]
theorem blen_xor_top {a b k : Nat} (ha : blen a = k + 1) (hb : b < 2 ^ k) : blen (a ^^^ b) = k + 1 := by
  have h1 : a < 2 ^ (k + 1) := by rw [← ha]; exact lt_two_pow_blen a
  have h2 : a.testBit k = true := by
    have := testBit_blen (x := a) (by intro e; subst e; simp [blen] at ha)
    rw [ha] at this; exact this
  refine blen_eq (Nat.xor_lt_two_pow h1 (Nat.lt_of_lt_of_le hb (Nat.pow_le_pow_right (by omega) (by omega)))) ?_
  rw [Nat.testBit_xor, h2, Nat.testBit_lt_two_pow hb]; rfl

/-! ### Sums of rows -/
def total : List Nat → Nat → Nat
  | [], _ => 0
  | r :: l, w => (if w.testBit 0 then r else 0) ^^^ total l (w / 2)
theorem total_zero : ∀ l : List Nat, total l 0 = 0
  | [] => rfl
  | r :: l => by simp [total, total_zero l]
theorem total_xor : ∀ (l : List Nat) (a b : Nat), total l (a ^^^ b) = total l a ^^^ total l b
  | [], a, b => by simp [total]
  | r :: l, a, b => by
    simp only [total, xor_div_two, total_xor l, Nat.testBit_xor]
    rw [xor_swap4]
    congr 1
    cases a.testBit 0 <;> cases b.testBit 0 <;> simp
theorem total_append : ∀ (l r : List Nat) (w : Nat), total (l ++ r) w = total l w ^^^ total r (w / 2 ^ l.length)
  | [], r, w => by simp [total]
  | x :: l, r, w => by
    simp only [List.cons_append, total, total_append l r, List.length_cons]
    rw [Nat.xor_assoc, Nat.div_div_eq_div_mul, Nat.pow_succ, Nat.mul_comm]
theorem total_single (x w : Nat) : total [x] w = if w.testBit 0 then x else 0 := by simp [total]
theorem total_snoc (l : List Nat) (x w : Nat) : total (l ++ [x]) w = total l w ^^^ (if w.testBit l.length then x else 0) := by
  rw [total_append, total_single, Nat.testBit_div_two_pow, Nat.zero_add]
theorem total_pow : ∀ (l : List Nat) (i : Nat), total l (2 ^ i) = l.getD i 0
  | [], i => by simp [total]
  | r :: l, 0 => by simp [total, total_zero]
  | r :: l, i + 1 => by
    have : 2 ^ (i + 1) / 2 = 2 ^ i := by rw [Nat.pow_succ]; omega
    simp only [total, this, total_pow l i]
    have : (2 ^ (i + 1)).testBit 0 = false := by rw [Nat.testBit_two_pow]; simp
    simp [this]
theorem total_take_succ (l : List Nat) (k w : Nat) : total (l.take (k + 1)) w = total (l.take k) w ^^^ (if w.testBit k then l.getD k 0 else 0) := by
  by_cases hk : k < l.length
  · rw [List.take_succ_eq_append_getElem hk, total_snoc]
    simp only [List.length_take, Nat.min_eq_left (Nat.le_of_lt hk), List.getD_eq_getElem?_getD, List.getElem?_eq_getElem hk, Option.getD_some]
  · have h1 : l.take (k + 1) = l := List.take_of_length_le (by omega)
    have h2 : l.take k = l := List.take_of_length_le (by omega)
    rw [h1, h2, List.getD_eq_getElem?_getD, List.getElem?_eq_none (by omega)]
    simp
theorem total_lt {l : List Nat} {n : Nat} (h : ∀ x ∈ l, x < 2 ^ n) (w : Nat) : total l w < 2 ^ n := by
  induction l generalizing w with
  | nil => exact Nat.two_pow_pos n
  | cons r l ih =>
    simp only [total]
    refine Nat.xor_lt_two_pow ?_ (ih (fun x hx => h x (by simp [hx])) _)
    split
    · exact h r (by simp)
    · exact Nat.two_pow_pos n
theorem total_mod (l : List Nat) (w : Nat) : total l (w % 2 ^ l.length) = total l w := by
  induction l generalizing w with
  | nil => rfl
  | cons r l ih =>
    simp only [total, List.length_cons]
    have h1 : (w % 2 ^ (l.length + 1)).testBit 0 = w.testBit 0 := by rw [Nat.testBit_mod_two_pow]; simp
    have h2 : w % 2 ^ (l.length + 1) / 2 = (w / 2) % 2 ^ l.length := by
      rw [Nat.pow_succ, Nat.mul_comm, Nat.mod_mul_right_div_self]
    simp only [h1, h2, ih]

/-! ### Spans -/
def InSpan (l : List Nat) (x : Nat) : Prop := ∃ w, total l w = x
theorem InSpan.zero (l : List Nat) : InSpan l 0 := ⟨0, total_zero l⟩
theorem InSpan.xor {l : List Nat} {x y : Nat} (hx : InSpan l x) (hy : InSpan l y) : InSpan l (x ^^^ y) := by
  obtain ⟨a, rfl⟩ := hx
  obtain ⟨b, rfl⟩ := hy
  exact ⟨a ^^^ b, total_xor l a b⟩
theorem InSpan.mem {l : List Nat} {x : Nat} (h : x ∈ l) : InSpan l x := by
  obtain ⟨i, hi, rfl⟩ := List.mem_iff_getElem.1 h
  refine ⟨2 ^ i, ?_⟩
  rw [total_pow]; simp [hi]
theorem InSpan.trans {l r : List Nat} (h : ∀ x ∈ l, InSpan r x) {y : Nat} (hy : InSpan l y) : InSpan r y := by
  obtain ⟨w, rfl⟩ := hy
  induction l generalizing w with
  | nil => exact .zero r
  | cons a l ih =>
    simp only [total]
    refine .xor ?_ (ih (fun x hx => h x (by simp [hx])) _)
    split
    · exact h a (by simp)
    · exact .zero r
theorem InSpan.lt {l : List Nat} {n : Nat} (h : ∀ x ∈ l, x < 2 ^ n) {x : Nat} (hx : InSpan l x) : x < 2 ^ n := by
  obtain ⟨w, rfl⟩ := hx; exact total_lt h w
theorem InSpan.take {l : List Nat} {k x : Nat} (h : InSpan (l.take k) x) : InSpan l x := h.trans fun y hy => .mem (List.mem_of_mem_take hy)
def SameSpan (l r : List Nat) : Prop := ∀ x, InSpan l x ↔ InSpan r x
theorem SameSpan.refl (l : List Nat) : SameSpan l l := fun _ => Iff.rfl
theorem SameSpan.symm {l r : List Nat} (h : SameSpan l r) : SameSpan r l := fun x => (h x).symm
theorem SameSpan.trans {l r s : List Nat} (h : SameSpan l r) (h' : SameSpan r s) : SameSpan l s := fun x => (h x).trans (h' x)
theorem SameSpan.of {l r : List Nat} (h1 : ∀ x ∈ l, InSpan r x) (h2 : ∀ x ∈ r, InSpan l x) : SameSpan l r := fun x => ⟨fun h => h.trans h1, fun h => h.trans h2⟩

/-- Rows by their leads: none, or a row whose greatest bit is just there. -/
def Leads (t : List Nat) : Prop := ∀ k, k < t.length → t.getD k 0 = 0 ∨ blen (t.getD k 0) = k + 1
theorem Leads.take_span {t : List Nat} (h : Leads t) (w : Nat) : ∀ k, k ≤ t.length → total (t.take k) w < 2 ^ k ∧ (total (t.take k) w = 0 ∨ t.getD (blen (total (t.take k) w) - 1) 0 ≠ 0)
  | 0, _ => by simp [total]
  | k + 1, hk => by
    obtain ⟨h1, h2⟩ := h.take_span w k (by omega)
    rw [total_take_succ]
    by_cases hb : w.testBit k = true ∧ t.getD k 0 ≠ 0
    · rw [if_pos hb.1]
      rcases h k (by omega) with e | e
      · exact absurd e hb.2
      · have e2 : blen (total (t.take k) w ^^^ t.getD k 0) = k + 1 := by rw [Nat.xor_comm]; exact blen_xor_top e h1
        refine ⟨by have := lt_two_pow_blen (total (t.take k) w ^^^ t.getD k 0); rw [e2] at this; exact this, .inr ?_⟩
        rw [e2]; exact hb.2
    · have : (if w.testBit k = true then t.getD k 0 else 0) = 0 := by
        by_cases h0 : w.testBit k = true
        · rw [if_pos h0]; exact Decidable.not_not.1 fun h3 => hb ⟨h0, h3⟩
        · rw [if_neg h0]
      rw [this, Nat.xor_zero]
      exact ⟨Nat.lt_of_lt_of_le h1 (Nat.pow_le_pow_right (by omega) (by omega)), h2⟩
/-- The greatest bit of what such rows give is a lead. -/
theorem Leads.lead {t : List Nat} (h : Leads t) {x : Nat} (hx : InSpan t x) (h0 : x ≠ 0) : t.getD (blen x - 1) 0 ≠ 0 := by
  obtain ⟨w, rfl⟩ := hx
  have := h.take_span w t.length (Nat.le_refl _)
  rw [List.take_length] at this
  exact this.2.resolve_left h0
end Go.AM
namespace Go.AM
theorem blen_shr {x k : Nat} (h : 2 ^ k ≤ x) : blen x = k + blen (x >>> k) := by
  have hx : x ≠ 0 := by have := Nat.two_pow_pos k; omega
  have h0 : x >>> k ≠ 0 := by
    rw [Nat.shiftRight_eq_div_pow]
    have := Nat.div_pos h (Nat.two_pow_pos k); omega
  have h1 := testBit_blen h0
  rw [Nat.testBit_shiftRight] at h1
  have h2 := lt_blen_of_testBit h1
  have h3 := testBit_blen hx
  have h4 := blen_pos_iff.2 h0
  have h5 := blen_pos_iff.2 hx
  have h6 : (x >>> k).testBit (blen x - 1 - k) = true := by
    rw [Nat.testBit_shiftRight, show k + (blen x - 1 - k) = blen x - 1 by omega]; exact h3
  have h7 := lt_blen_of_testBit h6
  omega
end Go.AM

/-! ### M2 -/
namespace Go.AM
set_option linter.unusedVariables false

abbrev Sys := List (Nat × Nat)
def Sys.at (s : Sys) (k : Nat) : Nat × Nat := s.getD k (0, 0)
def sys0 : Sys := List.replicate 24 (0, 0)
/-- Rows of the span are taken off a row, from the column k - 1 on. -/
def splitM (s : Sys) : Nat → Nat × Nat → Nat × Nat
  | 0, x => x
  | k + 1, x => splitM s k (if x.1.testBit k then (x.1 ^^^ (s.at k).1, x.2 ^^^ (s.at k).2) else x)
def addM (s : Sys) (i row : Nat) : Sys :=
  if (splitM s 24 (row, 0)).1 = 0 then s else s.set (blen (splitM s 24 (row, 0)).1 - 1) ((splitM s 24 (row, 0)).1, (splitM s 24 (row, 0)).2 ^^^ 2 ^ i)
def spannedM : Sys → Nat → List Nat → Sys
  | s, _, [] => s
  | s, i, r :: l => spannedM (addM s i r) (i + 1) l
def innerM (t : List Nat) (x : Nat) : Nat → Nat
  | 0 => x
  | j + 1 => if (innerM t x j).testBit j then innerM t x j ^^^ t.getD j 0 else innerM t x j
def reducedM (s : Sys) : Nat → List Nat
  | 0 => []
  | k + 1 => reducedM s k ++ [innerM (reducedM s k) (s.at k).1 k]
def fallingM (t : List Nat) : List Nat := (t.filter (· ≠ 0)).reverse
/-- The system of rows. -/
def sysM (l : List Nat) : Sys := spannedM sys0 0 l
def tableM (l : List Nat) : List Nat := reducedM (sysM l) 24
def redM (l : List Nat) : List Nat := fallingM (tableM l)

theorem reducedM_length (s : Sys) : ∀ k, (reducedM s k).length = k
  | 0 => rfl
  | k + 1 => by simp [reducedM, reducedM_length s k]
theorem addM_length (s : Sys) (i row : Nat) : (addM s i row).length = s.length := by
  unfold addM; split <;> simp
theorem spannedM_length : ∀ (l : List Nat) (s : Sys) (i : Nat), (spannedM s i l).length = s.length
  | [], _, _ => rfl
  | r :: l, s, i => by rw [spannedM, spannedM_length l, addM_length]
theorem tableM_length (l : List Nat) : (tableM l).length = 24 := reducedM_length _ _
theorem spannedM_append : ∀ (l r : List Nat) (s : Sys) (i : Nat), spannedM s i (l ++ r) = spannedM (spannedM s i l) (i + l.length) r
  | [], r, s, i => by simp [spannedM]
  | x :: l, r, s, i => by
    rw [List.cons_append, spannedM, spannedM, spannedM_append l r, List.length_cons]
    congr 1; omega

/-! ### Bounds -/
theorem splitM_lt {s : Sys} {n p : Nat} (h : ∀ k, (s.at k).1 < 2 ^ n ∧ (s.at k).2 < 2 ^ p) : ∀ (k : Nat) (x : Nat × Nat), x.1 < 2 ^ n → x.2 < 2 ^ p → (splitM s k x).1 < 2 ^ n ∧ (splitM s k x).2 < 2 ^ p
  | 0, x, h1, h2 => ⟨h1, h2⟩
  | k + 1, x, h1, h2 => by
    rw [splitM]
    split
    · exact splitM_lt h k _ (Nat.xor_lt_two_pow h1 (h k).1) (Nat.xor_lt_two_pow h2 (h k).2)
    · exact splitM_lt h k _ h1 h2

/-- Rows at work: by their leads; what they are made of. -/
structure Good (s : Sys) (l : List Nat) (i : Nat) : Prop where
  len : s.length = 24
  lead : ∀ k, k < 24 → (s.at k).1 = 0 ∨ blen (s.at k).1 = k + 1
  zero : ∀ k, k < 24 → (s.at k).1 = 0 → (s.at k).2 = 0
  of : ∀ k, total l (s.at k).2 = (s.at k).1
  lt : ∀ k, (s.at k).2 < 2 ^ i
  piv : ∀ k b, (s.at k).2.testBit b = true → ¬ InSpan (l.take b) (l.getD b 0)
  sp : ∀ b, b < i → InSpan (s.map (·.1)) (l.getD b 0)

theorem Sys.at_out {s : Sys} {k : Nat} (h : s.length ≤ k) : s.at k = (0, 0) := by
  unfold Sys.at; rw [List.getD_eq_getElem?_getD, List.getElem?_eq_none h]; rfl
theorem Sys.rows_getD (s : Sys) (k : Nat) : (s.map (·.1)).getD k 0 = (s.at k).1 := by
  unfold Sys.at
  rw [List.getD_eq_getElem?_getD, List.getD_eq_getElem?_getD, List.getElem?_map]
  cases s[k]? <;> rfl
theorem Good.leads {s : Sys} {l : List Nat} {i : Nat} (h : Good s l i) : Leads (s.map (·.1)) := by
  intro k hk
  rw [Sys.rows_getD]
  exact h.lead k (by simpa [h.len] using hk)

/-- What taking off rows leaves: a member of the span is taken off; no bit is left where there is a lead. -/
theorem splitM_spec {s : Sys} {l : List Nat} (hlead : ∀ k, k < 24 → (s.at k).1 = 0 ∨ blen (s.at k).1 = k + 1) (hof : ∀ k, total l (s.at k).2 = (s.at k).1) : ∀ (k : Nat) (x : Nat × Nat), k ≤ 24 →
    InSpan (s.map (·.1)) (x.1 ^^^ (splitM s k x).1) ∧ total l x.2 ^^^ x.1 = total l (splitM s k x).2 ^^^ (splitM s k x).1 ∧ (∀ j, k ≤ j → (splitM s k x).1.testBit j = x.1.testBit j) ∧ (∀ j, j < k → (s.at j).1 ≠ 0 → (splitM s k x).1.testBit j = false)
  | 0, x, _ => ⟨by simp [splitM, InSpan.zero], rfl, fun _ _ => rfl, fun j h => absurd h (by omega)⟩
  | k + 1, x, hk => by
    have hrow : InSpan (s.map (·.1)) (s.at k).1 := by
      by_cases hks : k < s.length
      · refine .mem ?_
        rw [← Sys.rows_getD, List.getD_eq_getElem?_getD, List.getElem?_eq_getElem (by simpa using hks)]
        exact List.getElem_mem _
      · rw [Sys.at_out (by omega)]; exact .zero _
    rw [splitM]
    split
    · rename_i hb
      obtain ⟨h1, h2, h3, h4⟩ := splitM_spec hlead hof k (x.1 ^^^ (s.at k).1, x.2 ^^^ (s.at k).2) (by omega)
      refine ⟨?_, ?_, fun j hj => ?_, fun j hj h0 => ?_⟩
      · have := h1.xor hrow
        simp only at this
        rwa [xor_mid] at this
      · rw [← h2, total_xor, hof, xor_swap4, Nat.xor_self, Nat.xor_zero]
      · rw [h3 j (by omega), Nat.testBit_xor]
        have : (s.at k).1.testBit j = false := by
          rcases hlead k (by omega) with e | e
          · rw [e]; simp
          · cases e2 : (s.at k).1.testBit j with
            | false => rfl
            | true => have := lt_blen_of_testBit e2; omega
        rw [this]; simp
      · by_cases hjk : j < k
        · exact h4 j hjk h0
        · obtain rfl : j = k := by omega
          rw [h3 j (Nat.le_refl _), Nat.testBit_xor, hb]
          have := testBit_blen h0
          rw [(hlead j (by omega)).resolve_left h0] at this
          simp only [Nat.add_sub_cancel] at this
          rw [this]; rfl
    · rename_i hb
      obtain ⟨h1, h2, h3, h4⟩ := splitM_spec hlead hof k x (by omega)
      refine ⟨h1, h2, fun j hj => h3 j (by omega), fun j hj h0 => ?_⟩
      by_cases hjk : j < k
      · exact h4 j hjk h0
      · obtain rfl : j = k := by omega
        rw [h3 j (Nat.le_refl _)]; simpa using hb
theorem splitM_piv {s : Sys} {Q : Nat → Prop} (h : ∀ k b, (s.at k).2.testBit b = true → Q b) : ∀ (k : Nat) (x : Nat × Nat), (∀ b, x.2.testBit b = true → Q b) → ∀ b, (splitM s k x).2.testBit b = true → Q b
  | 0, x, hx => hx
  | k + 1, x, hx => by
    rw [splitM]
    split
    · refine splitM_piv h k _ fun b hb => ?_
      simp only [Nat.testBit_xor] at hb
      cases e : x.2.testBit b with
      | true => exact hx b e
      | false => rw [e] at hb; exact h k b (by simpa using hb)
    · exact splitM_piv h k _ hx

theorem Good.init (l : List Nat) : Good sys0 l 0 := by
  have h0 : ∀ k, sys0.at k = (0, 0) := by
    intro k; unfold Sys.at sys0
    rw [List.getD_eq_getElem?_getD, List.getElem?_replicate]
    split <;> rfl
  refine ⟨rfl, fun k _ => .inl (by rw [h0]), fun k _ _ => by rw [h0], fun k => by rw [h0]; exact total_zero l, fun k => by rw [h0]; simp, fun k b hb => ?_, fun b hb => absurd hb (by omega)⟩
  rw [h0] at hb; simp at hb

theorem Sys.at_set (s : Sys) (p k : Nat) (x : Nat × Nat) (hp : p < s.length) : Sys.at (s.set p x) k = if k = p then x else s.at k := by
  unfold Sys.at
  rw [List.getD_eq_getElem?_getD, List.getD_eq_getElem?_getD, List.getElem?_set]
  by_cases h : k = p
  · subst h; simp [hp]
  · rw [if_neg (fun e => h e.symm), if_neg h]

theorem InSpan.of_set {s : Sys} {p x : Nat} {v : Nat × Nat} (h0 : (s.at p).1 = 0) (hp : p < s.length) (h : InSpan (s.map (·.1)) x) : InSpan ((s.set p v).map (·.1)) x := by
  refine h.trans fun y hy => ?_
  obtain ⟨k, hk, rfl⟩ := List.mem_iff_getElem.1 hy
  have hk' : k < s.length := by simpa using hk
  have e : (s.map (·.1))[k] = (s.at k).1 := by
    rw [← Sys.rows_getD, List.getD_eq_getElem?_getD, List.getElem?_eq_getElem hk]; rfl
  rw [e]
  by_cases hkp : k = p
  · subst hkp; rw [h0]; exact .zero _
  · refine .mem ?_
    have := Sys.at_set s p k v hp
    rw [if_neg hkp] at this
    rw [← this, ← Sys.rows_getD, List.getD_eq_getElem?_getD, List.getElem?_eq_getElem (by simpa using hk')]
    exact List.getElem_mem _

theorem Good.rows_span {s : Sys} {l : List Nat} {i : Nat} (h : Good s l i) (hi : i ≤ l.length) {x : Nat} (hx : InSpan (s.map (·.1)) x) : InSpan (l.take i) x := by
  refine hx.trans fun y hy => ?_
  obtain ⟨k, hk, rfl⟩ := List.mem_iff_getElem.1 hy
  have e : (s.map (·.1))[k] = (s.at k).1 := by
    rw [← Sys.rows_getD, List.getD_eq_getElem?_getD, List.getElem?_eq_getElem hk]; rfl
  rw [e, ← h.of k]
  refine ⟨(s.at k).2, ?_⟩
  have e2 : l = l.take i ++ l.drop i := (List.take_append_drop i l).symm
  conv => rhs; rw [e2]
  rw [total_append, List.length_take, Nat.min_eq_left hi, Nat.div_eq_of_lt (h.lt k), total_zero, Nat.xor_zero]

theorem Good.step {s : Sys} {l : List Nat} {i : Nat} (h : Good s l i) (hi : i < l.length) (hl : ∀ x ∈ l, x < 2 ^ 24) : Good (addM s i (l.getD i 0)) l (i + 1) := by
  have hrow : l.getD i 0 < 2 ^ 24 := by
    rw [List.getD_eq_getElem?_getD, List.getElem?_eq_getElem hi]; exact hl _ (List.getElem_mem _)
  obtain ⟨h1, h2, h3, h4⟩ := splitM_spec h.lead h.of 24 (l.getD i 0, 0) (Nat.le_refl _)
  have hlt : (splitM s 24 (l.getD i 0, 0)).1 < 2 ^ 24 ∧ (splitM s 24 (l.getD i 0, 0)).2 < 2 ^ i := by
    refine splitM_lt (fun k => ⟨?_, h.lt k⟩) 24 _ hrow (Nat.two_pow_pos i)
    by_cases hk : k < 24
    · rcases h.lead k hk with e | e
      · rw [e]; exact Nat.two_pow_pos 24
      · refine Nat.lt_of_lt_of_le (lt_two_pow_blen _) (Nat.pow_le_pow_right (by omega) (by omega))
    · rw [Sys.at_out (by rw [h.len]; omega)]; exact Nat.two_pow_pos 24
  have hpv := splitM_piv (s := s) h.piv 24 (l.getD i 0, 0) (by simp)
  unfold addM
  generalize hx : splitM s 24 (l.getD i 0, 0) = x at *
  simp only [total_zero, Nat.zero_xor] at h2
  by_cases h0 : x.1 = 0
  · rw [if_pos h0]
    refine ⟨h.len, h.lead, h.zero, h.of, fun k => Nat.lt_of_lt_of_le (h.lt k) (Nat.pow_le_pow_right (by omega) (by omega)), h.piv, fun b hb => ?_⟩
    by_cases hbi : b < i
    · exact h.sp b hbi
    · obtain rfl : b = i := by omega
      simpa [h0] using h1
  · rw [if_neg h0]
    have hp : blen x.1 - 1 < 24 := by have := blen_le_of_lt hlt.1; have := blen_pos_iff.2 h0; omega
    have hp0 : (s.at (blen x.1 - 1)).1 = 0 := by
      cases Nat.decEq (s.at (blen x.1 - 1)).1 0 with
      | isTrue e => exact e
      | isFalse e => have := h4 _ hp e; rw [testBit_blen h0] at this; cases this
    have hps : blen x.1 - 1 < s.length := by rw [h.len]; exact hp
    have hnew : ¬ InSpan (l.take i) (l.getD i 0) := by
      intro hin
      have hin2 : InSpan (s.map (·.1)) (l.getD i 0) := hin.trans fun y hy => by
        obtain ⟨b, hb, rfl⟩ := List.mem_iff_getElem.1 hy
        have hb' : b < i := by have := hb; rw [List.length_take] at this; omega
        have := h.sp b hb'
        rw [List.getD_eq_getElem?_getD, List.getElem?_eq_getElem (by omega)] at this
        rw [List.getElem_take]; exact this
      have hx1 : InSpan (s.map (·.1)) x.1 := by
        have := hin2.xor h1
        rw [xor_cancel_left] at this; exact this
      have := h.leads.lead hx1 h0
      rw [Sys.rows_getD] at this
      exact this hp0
    refine ⟨by rw [List.length_set]; exact h.len, fun k hk => ?_, fun k hk => ?_, fun k => ?_, fun k => ?_, fun k b => ?_, fun b hb => ?_⟩
    · rw [Sys.at_set _ _ _ _ hps]
      split
      · rename_i e; subst e; right; simp only; have := blen_pos_iff.2 h0; omega
      · exact h.lead k hk
    · rw [Sys.at_set _ _ _ _ hps]
      split
      · intro e; exact absurd e h0
      · exact h.zero k hk
    · rw [Sys.at_set _ _ _ _ hps]
      split
      · simp only [total_xor, total_pow]
        rw [h2, xor_cancel_left]
      · exact h.of k
    · rw [Sys.at_set _ _ _ _ hps]
      split
      · exact Nat.xor_lt_two_pow (Nat.lt_of_lt_of_le hlt.2 (Nat.pow_le_pow_right (by omega) (by omega))) (Nat.pow_lt_pow_right (by omega) (by omega))
      · exact Nat.lt_of_lt_of_le (h.lt k) (Nat.pow_le_pow_right (by omega) (by omega))
    · rw [Sys.at_set _ _ _ _ hps]
      split
      · simp only [Nat.testBit_xor, Nat.testBit_two_pow]
        intro hb
        by_cases hbi : i = b
        · subst hbi; exact hnew
        · exact hpv b (by simpa [hbi] using hb)
      · exact h.piv k b
    · by_cases hbi : b < i
      · exact (h.sp b hbi).of_set hp0 hps
      · obtain rfl : b = i := by omega
        have a1 := InSpan.of_set (v := (x.1, x.2 ^^^ 2 ^ b)) hp0 hps h1
        have a2 : InSpan ((s.set (blen x.1 - 1) (x.1, x.2 ^^^ 2 ^ b)).map (·.1)) x.1 := by
          refine .mem ?_
          refine List.mem_map.2 ⟨(x.1, x.2 ^^^ 2 ^ b), ?_, rfl⟩
          exact List.mem_iff_getElem.2 ⟨blen x.1 - 1, by simpa using hps, by simp⟩
        have := a1.xor a2
        simp only at this
        rw [xor_cancel_right] at this; exact this
end Go.AM

/-! ### M3 -/
namespace Go.AM
set_option linter.unusedVariables false

/-- A table of reduced rows. -/
def RedT (t : List Nat) : Prop := ∀ j, j < t.length → t.getD j 0 = 0 ∨ (blen (t.getD j 0) = j + 1 ∧ ∀ i, i < j → t.getD i 0 ≠ 0 → (t.getD j 0).testBit i = false)
theorem RedT.leads {t : List Nat} (h : RedT t) : Leads t := fun k hk => (h k hk).imp id (·.1)
theorem getD_mem {t : List Nat} {k : Nat} (h : k < t.length) : t.getD k 0 ∈ t := by
  rw [List.getD_eq_getElem?_getD, List.getElem?_eq_getElem h]; exact List.getElem_mem _
theorem getD_out {t : List Nat} {k : Nat} (h : t.length ≤ k) : t.getD k 0 = 0 := by
  rw [List.getD_eq_getElem?_getD, List.getElem?_eq_none h]; rfl
theorem InSpan.getD (t : List Nat) (k : Nat) : InSpan t (t.getD k 0) := by
  by_cases h : k < t.length
  · exact .mem (getD_mem h)
  · rw [getD_out (by omega)]; exact .zero t

theorem innerM_spec {t : List Nat} (h : RedT t) (x : Nat) : ∀ j, j ≤ t.length →
    InSpan t (x ^^^ innerM t x j) ∧ (∀ b, j ≤ b → (innerM t x j).testBit b = x.testBit b) ∧ ∀ i, i < j → t.getD i 0 ≠ 0 → (innerM t x j).testBit i = false
  | 0, _ => by simp [innerM, InSpan.zero]
  | j + 1, hj => by
    obtain ⟨h1, h2, h3⟩ := innerM_spec h x j (by omega)
    rw [innerM]
    split
    · rename_i hb
      refine ⟨?_, fun b hb' => ?_, fun i hi h0 => ?_⟩
      · rw [← Nat.xor_assoc]; exact h1.xor (.getD t j)
      · rw [Nat.testBit_xor, h2 b (by omega)]
        have : (t.getD j 0).testBit b = false := by
          rcases h j (by omega) with e | ⟨e, _⟩
          · rw [e]; simp
          · cases e2 : (t.getD j 0).testBit b with
            | false => rfl
            | true => have := lt_blen_of_testBit e2; omega
        rw [this]; simp
      · rw [Nat.testBit_xor]
        by_cases hij : i < j
        · rw [h3 i hij h0]
          rcases h j (by omega) with e | ⟨_, e⟩
          · rw [e]; simp
          · rw [e i hij h0]; rfl
        · obtain rfl : i = j := by omega
          rw [hb]
          have := testBit_blen h0
          rw [((h i (by omega)).resolve_left h0).1, Nat.add_sub_cancel] at this
          rw [this]; rfl
    · rename_i hb
      refine ⟨h1, fun b hb' => h2 b (by omega), fun i hi h0 => ?_⟩
      by_cases hij : i < j
      · exact h3 i hij h0
      · obtain rfl : i = j := by omega
        simpa using hb

theorem getD_append_left {t r : List Nat} {j : Nat} (h : j < t.length) : (t ++ r).getD j 0 = t.getD j 0 := by
  rw [List.getD_eq_getElem?_getD, List.getD_eq_getElem?_getD, List.getElem?_append_left h]
theorem getD_append_here {t : List Nat} {x : Nat} : (t ++ [x]).getD t.length 0 = x := by
  rw [List.getD_eq_getElem?_getD, List.getElem?_append_right (Nat.le_refl _)]; simp

theorem reducedM_spec {s : Sys} (hs : s.length = 24) (hl : ∀ k, k < 24 → (s.at k).1 = 0 ∨ blen (s.at k).1 = k + 1) : ∀ k, k ≤ 24 →
    RedT (reducedM s k) ∧ SameSpan (reducedM s k) ((s.map (·.1)).take k)
  | 0, _ => ⟨fun j hj => absurd hj (by simp [reducedM]), by simp [reducedM]; exact .refl _⟩
  | k + 1, hk => by
    obtain ⟨h1, h2⟩ := reducedM_spec hs hl k (by omega)
    have hlen := reducedM_length s k
    obtain ⟨i1, i2, i3⟩ := innerM_spec h1 (s.at k).1 k (by rw [hlen]; exact Nat.le_refl _)
    have htop : ∀ b, k ≤ b → (innerM (reducedM s k) (s.at k).1 k).testBit b = (s.at k).1.testBit b := i2
    have htake : (s.map (·.1)).take (k + 1) = (s.map (·.1)).take k ++ [(s.at k).1] := by
      rw [List.take_succ_eq_append_getElem (by simp [hs]; omega)]
      congr 2
      rw [← Sys.rows_getD, List.getD_eq_getElem?_getD, List.getElem?_eq_getElem (by simp [hs]; omega)]; rfl
    rw [reducedM, htake]
    generalize hx : innerM (reducedM s k) (s.at k).1 k = x at *
    have hzero : (s.at k).1 = 0 → x = 0 := by
      intro e
      have hz : ∀ j, innerM (reducedM s k) 0 j = 0 := by
        intro j; induction j with
        | zero => rfl
        | succ j ih => rw [innerM, ih]; simp
      rw [← hx, e, hz]
    refine ⟨fun j hj => ?_, .of (fun y hy => ?_) (fun y hy => ?_)⟩
    · rw [List.length_append, hlen, List.length_singleton] at hj
      by_cases hjk : j < k
      · rw [getD_append_left (by omega)]
        refine (h1 j (by omega)).imp id fun ⟨a, b⟩ => ⟨a, fun i hi => ?_⟩
        rw [getD_append_left (by omega)]; exact b i hi
      · obtain rfl : j = k := by omega
        have e : (reducedM s j ++ [x]).getD j 0 = x := by
          have := getD_append_here (t := reducedM s j) (x := x); rw [hlen] at this; exact this
        rw [e]
        rcases hl j (by omega) with e0 | e0
        · exact .inl (hzero e0)
        · right
          refine ⟨blen_eq (lt_two_pow_of_bits fun b hb => ?_) ?_, fun i hi => ?_⟩
          · rw [htop b (by omega)]
            cases e2 : (s.at j).1.testBit b with
            | false => rfl
            | true => have := lt_blen_of_testBit e2; omega
          · rw [htop j (Nat.le_refl _)]
            have := testBit_blen (x := (s.at j).1) (by intro e; rw [e] at e0; simp [blen] at e0)
            rw [e0] at this; exact this
          · rw [getD_append_left (by omega)]; exact i3 i hi
    · rcases List.mem_append.1 hy with hy | hy
      · exact ((h2 y).1 (.mem hy)).trans fun z hz => .mem (List.mem_append.2 (.inl hz))
      · obtain rfl := List.mem_singleton.1 hy
        have a1 : InSpan ((s.map (·.1)).take k ++ [(s.at k).1]) ((s.at k).1 ^^^ y) := ((h2 _).1 i1).trans fun z hz => .mem (List.mem_append.2 (.inl hz))
        have a2 : InSpan ((s.map (·.1)).take k ++ [(s.at k).1]) (s.at k).1 := .mem (by simp)
        have := a2.xor a1
        rw [xor_cancel_left] at this; exact this
    · rcases List.mem_append.1 hy with hy | hy
      · exact ((h2 y).2 (.mem hy)).trans fun z hz => .mem (List.mem_append.2 (.inl hz))
      · obtain rfl := List.mem_singleton.1 hy
        have a1 : InSpan (reducedM s k ++ [x]) ((s.at k).1 ^^^ x) := i1.trans fun z hz => .mem (List.mem_append.2 (.inl hz))
        have a2 : InSpan (reducedM s k ++ [x]) x := .mem (by simp)
        have := a1.xor a2
        rw [xor_cancel_right] at this; exact this

/-! ### Lists of reduced rows -/
def Fall (l : List Nat) : Prop := l.Pairwise fun a b => blen b < blen a
structure Rref (r : List Nat) : Prop where
  fall : Fall r
  ne : ∀ a ∈ r, a ≠ 0
  alone : ∀ a ∈ r, ∀ b ∈ r, a ≠ b → b.testBit (blen a - 1) = false
theorem Fall.tail_lt {a : Nat} {r : List Nat} (h : Fall (a :: r)) : ∀ b ∈ r, blen b < blen a := (List.pairwise_cons.1 h).1
theorem Fall.eq : ∀ {l r : List Nat}, Fall l → Fall r → (∀ x, x ∈ l ↔ x ∈ r) → l = r
  | [], [], _, _, _ => rfl
  | [], b :: r, _, _, h => absurd ((h b).2 (by simp)) (by simp)
  | a :: l, [], _, _, h => absurd ((h a).1 (by simp)) (by simp)
  | a :: l, b :: r, h1, h2, h => by
    have hab : a = b := by
      rcases List.mem_cons.1 ((h a).1 (by simp)) with e | e
      · exact e
      · rcases List.mem_cons.1 ((h b).2 (by simp)) with e2 | e2
        · exact e2.symm
        · have := h1.tail_lt b e2; have := h2.tail_lt a e; omega
    subst hab
    rw [Fall.eq (List.pairwise_cons.1 h1).2 (List.pairwise_cons.1 h2).2 fun x => ?_]
    constructor
    · intro hx
      rcases List.mem_cons.1 ((h x).1 (by simp [hx])) with e | e
      · subst e; have := h1.tail_lt _ hx; omega
      · exact e
    · intro hx
      rcases List.mem_cons.1 ((h x).2 (by simp [hx])) with e | e
      · subst e; have := h2.tail_lt _ hx; omega
      · exact e
theorem Fall.lead : ∀ {r : List Nat}, Fall r → (∀ a ∈ r, a ≠ 0) → ∀ w, (∀ k, (∀ a ∈ r, blen a ≤ k) → total r w < 2 ^ k) ∧ (total r w ≠ 0 → ∃ a ∈ r, blen a = blen (total r w))
  | [], _, _, w => ⟨fun k _ => by simp [total]; exact Nat.two_pow_pos k, fun h => absurd rfl h⟩
  | a :: r, hf, hn, w => by
    have ih := Fall.lead (List.pairwise_cons.1 hf).2 (fun b hb => hn b (by simp [hb])) (w / 2)
    refine ⟨fun k hk => total_lt (fun b hb => Nat.lt_of_lt_of_le (lt_two_pow_blen b) (Nat.pow_le_pow_right (by omega) (hk b hb))) w, fun h0 => ?_⟩
    simp only [total] at h0 ⊢
    split
    · rename_i hb
      refine ⟨a, by simp, ?_⟩
      have ha := blen_pos_iff.2 (hn a (by simp))
      have := ih.1 (blen a - 1) fun b hb => by have := hf.tail_lt b hb; omega
      have := blen_xor_top (a := a) (k := blen a - 1) (by omega) this
      omega
    · rename_i hb
      rw [if_neg hb, Nat.zero_xor] at h0
      obtain ⟨b, hb, e⟩ := ih.2 h0
      exact ⟨b, by simp [hb], by rw [Nat.zero_xor]; exact e⟩
theorem Rref.lead {r : List Nat} (h : Rref r) {x : Nat} (hx : InSpan r x) (h0 : x ≠ 0) : ∃ a ∈ r, blen a = blen x := by
  obtain ⟨w, rfl⟩ := hx; exact (h.fall.lead h.ne w).2 h0
theorem Rref.sub {r s : List Nat} (h : Rref r) (h' : Rref s) (hs : SameSpan r s) {a : Nat} (ha : a ∈ r) : a ∈ s := by
  obtain ⟨b, hb, e⟩ := h'.lead ((hs a).1 (.mem ha)) (h.ne a ha)
  by_cases hd : a ^^^ b = 0
  · rw [eq_of_xor_zero hd]; exact hb
  · exfalso
    have hin : InSpan r (a ^^^ b) := (InSpan.mem ha).xor ((hs b).2 (.mem hb))
    obtain ⟨c, hc, ec⟩ := h.lead hin hd
    obtain ⟨d, hd', ed⟩ := h'.lead ((hs _).1 hin) hd
    have hlt : blen (a ^^^ b) < blen a := by
      have ha0 := blen_pos_iff.2 (h.ne a ha)
      have : a ^^^ b < 2 ^ (blen a - 1) := by
        apply lt_two_pow_of_bits
        intro j hj
        rw [Nat.testBit_xor]
        by_cases e1 : j = blen a - 1
        · subst e1
          rw [testBit_blen (h.ne a ha)]
          have := testBit_blen (h'.ne b hb)
          rw [e] at this; rw [this]; rfl
        · have e2 : a.testBit j = false := by
            cases e3 : a.testBit j with
            | false => rfl
            | true => have := lt_blen_of_testBit e3; omega
          have e4 : b.testBit j = false := by
            cases e3 : b.testBit j with
            | false => rfl
            | true => have := lt_blen_of_testBit e3; omega
          rw [e2, e4]; rfl
      have := blen_le_of_lt this
      omega
    have t1 : a.testBit (blen (a ^^^ b) - 1) = false := by
      rw [← ec]; exact h.alone c hc a ha (by intro e3; subst e3; omega)
    have t2 : b.testBit (blen (a ^^^ b) - 1) = false := by
      rw [← ed]; exact h'.alone d hd' b hb (by intro e3; subst e3; omega)
    have := testBit_blen hd
    rw [Nat.testBit_xor, t1, t2] at this
    cases this
/-- A span has one list of reduced rows. -/
theorem Rref.unique {r s : List Nat} (h : Rref r) (h' : Rref s) (hs : SameSpan r s) : r = s :=
  h.fall.eq h'.fall fun _ => ⟨h.sub h' hs, h'.sub h hs.symm⟩

theorem mem_fallingM {t : List Nat} {x : Nat} : x ∈ fallingM t ↔ x ∈ t ∧ x ≠ 0 := by simp [fallingM]
theorem fallingM_span (t : List Nat) : SameSpan (fallingM t) t := .of (fun x hx => .mem (mem_fallingM.1 hx).1) fun x hx => by
  by_cases h : x = 0
  · subst h; exact .zero _
  · exact .mem (mem_fallingM.2 ⟨hx, h⟩)
theorem RedT.rref {t : List Nat} (h : RedT t) : Rref (fallingM t) := by
  have hget : ∀ x ∈ t, x ≠ 0 → ∃ j, j < t.length ∧ t.getD j 0 = x ∧ blen x = j + 1 := by
    intro x hx h0
    obtain ⟨j, hj, rfl⟩ := List.mem_iff_getElem.1 hx
    have e : t.getD j 0 = t[j] := by rw [List.getD_eq_getElem?_getD, List.getElem?_eq_getElem hj]; rfl
    refine ⟨j, hj, e, ?_⟩
    rw [← e] at h0 ⊢
    exact ((h j hj).resolve_left h0).1
  refine ⟨?_, fun a ha => (mem_fallingM.1 ha).2, fun a ha b hb hab => ?_⟩
  · unfold Fall fallingM
    rw [List.pairwise_reverse, List.pairwise_filter, List.pairwise_iff_getElem]
    intro i j hi hj hij h1 h2
    obtain ⟨p, hp, e1, e2⟩ := hget _ (List.getElem_mem hi) (by simpa using h1)
    have e3 : t.getD i 0 = t[i] := by rw [List.getD_eq_getElem?_getD, List.getElem?_eq_getElem hi]; rfl
    have e4 : t.getD j 0 = t[j] := by rw [List.getD_eq_getElem?_getD, List.getElem?_eq_getElem hj]; rfl
    have e5 := ((h i hi).resolve_left (by rw [e3]; simpa using h1)).1
    have e6 := ((h j hj).resolve_left (by rw [e4]; simpa using h2)).1
    rw [e3] at e5; rw [e4] at e6; omega
  · obtain ⟨ha1, ha2⟩ := mem_fallingM.1 ha
    obtain ⟨hb1, hb2⟩ := mem_fallingM.1 hb
    obtain ⟨i, hi, ei, li⟩ := hget a ha1 ha2
    obtain ⟨j, hj, ej, lj⟩ := hget b hb1 hb2
    rw [li, Nat.add_sub_cancel]
    by_cases hij : i < j
    · have := ((h j hj).resolve_left (by rw [ej]; exact hb2)).2 i hij (by rw [ei]; exact ha2)
      rw [ej] at this; exact this
    · have hne : i ≠ j := by intro e; subst e; exact hab (ei.symm.trans ej)
      cases e3 : b.testBit i with
      | false => rfl
      | true => have := lt_blen_of_testBit e3; omega
theorem RedT.eq {t t' : List Nat} (h : RedT t) (h' : RedT t') (hl : t.length = t'.length) (hf : fallingM t = fallingM t') : t = t' := by
  have key : ∀ {t t' : List Nat}, RedT t → RedT t' → t.length = t'.length → fallingM t = fallingM t' → ∀ j, j < t.length → t.getD j 0 ≠ 0 → t.getD j 0 = t'.getD j 0 := by
    intro t t' h h' hl hf j hj h0
    have e := ((h j hj).resolve_left h0).1
    have hm : t.getD j 0 ∈ fallingM t' := by rw [← hf]; exact mem_fallingM.2 ⟨getD_mem hj, h0⟩
    obtain ⟨h1, _⟩ := mem_fallingM.1 hm
    obtain ⟨i, hi, ei⟩ := List.mem_iff_getElem.1 h1
    have e3 : t'.getD i 0 = t'[i] := by rw [List.getD_eq_getElem?_getD, List.getElem?_eq_getElem hi]; rfl
    have e5 := ((h' i hi).resolve_left (by rw [e3, ei]; exact h0)).1
    rw [e3, ei] at e5
    obtain rfl : i = j := by omega
    rw [e3, ei]
  apply List.ext_getElem hl
  intro j h1 h2
  have e3 : t.getD j 0 = t[j] := by rw [List.getD_eq_getElem?_getD, List.getElem?_eq_getElem h1]; rfl
  have e4 : t'.getD j 0 = t'[j] := by rw [List.getD_eq_getElem?_getD, List.getElem?_eq_getElem h2]; rfl
  rw [← e3, ← e4]
  by_cases h0 : t.getD j 0 = 0
  · by_cases h0' : t'.getD j 0 = 0
    · rw [h0, h0']
    · exact (key h' h hl.symm hf.symm j h2 h0').symm
  · exact key h h' hl hf j h1 h0
end Go.AM

/-! ### M4 -/
namespace Go.AM
set_option linter.unusedVariables false

theorem spannedM_good {l : List Nat} (hl : ∀ x ∈ l, x < 2 ^ 24) : ∀ (r : List Nat) (s : Sys) (i : Nat), l.drop i = r → i ≤ l.length → Good s l i → Good (spannedM s i r) l l.length
  | [], s, i, he, hi, h => by
    have : i = l.length := by
      have := congrArg List.length he
      simp at this; omega
    subst this; exact h
  | x :: r, s, i, he, hi, h => by
    have hlt : i < l.length := by
      have := congrArg List.length he
      simp at this; omega
    have hx : l.getD i 0 = x := by
      have := congrArg (·[0]?) he
      simp only [List.getElem?_drop, Nat.add_zero, List.getElem?_cons_zero] at this
      rw [List.getD_eq_getElem?_getD, this]; rfl
    rw [spannedM]
    refine spannedM_good hl r _ (i + 1) ?_ (by omega) ?_
    · have := congrArg List.tail he
      simpa using this
    · have := h.step hlt hl
      rw [hx] at this; exact this
theorem sysM_good {l : List Nat} (hl : ∀ x ∈ l, x < 2 ^ 24) : Good (sysM l) l l.length := spannedM_good hl l _ 0 (by simp) (by omega) (.init l)
theorem Good.span {s : Sys} {l : List Nat} (h : Good s l l.length) : SameSpan (s.map (·.1)) l := .of (fun x hx => by
    have := h.rows_span (Nat.le_refl _) (.mem hx); rwa [List.take_length] at this) fun x hx => by
  obtain ⟨i, hi, rfl⟩ := List.mem_iff_getElem.1 hx
  have := h.sp i hi
  rwa [List.getD_eq_getElem?_getD, List.getElem?_eq_getElem hi] at this
theorem tableM_red {l : List Nat} (hl : ∀ x ∈ l, x < 2 ^ 24) : RedT (tableM l) ∧ SameSpan (tableM l) l := by
  have hg := sysM_good hl
  obtain ⟨h1, h2⟩ := reducedM_spec hg.len hg.lead 24 (Nat.le_refl _)
  refine ⟨h1, ?_⟩
  rw [List.take_of_length_le (by simp [hg.len])] at h2
  exact h2.trans hg.span
theorem redM_rref {l : List Nat} (hl : ∀ x ∈ l, x < 2 ^ 24) : Rref (redM l) ∧ SameSpan (redM l) l :=
  ⟨(tableM_red hl).1.rref, (fallingM_span _).trans (tableM_red hl).2⟩

/-- Which rows give a row. -/
theorem split_spec {l : List Nat} (hl : ∀ x ∈ l, x < 2 ^ 24) {x : Nat} :
    ((splitM (sysM l) 24 (x, 0)).1 = 0 ↔ InSpan l x) ∧ ((splitM (sysM l) 24 (x, 0)).1 = 0 → total l (splitM (sysM l) 24 (x, 0)).2 = x ∧ ∀ y, total l y = x → (splitM (sysM l) 24 (x, 0)).2 ≤ y) := by
  have hg := sysM_good hl
  obtain ⟨h1, h2, h3, h4⟩ := splitM_spec hg.lead hg.of 24 (x, 0) (Nat.le_refl _)
  have hpv := splitM_piv (s := sysM l) hg.piv 24 (x, 0) (by simp)
  generalize splitM (sysM l) 24 (x, 0) = p at *
  simp only [total_zero, Nat.zero_xor] at h1 h2
  refine ⟨⟨fun e => ?_, fun hin => ?_⟩, fun e => ?_⟩
  · rw [e, Nat.xor_zero] at h2; exact ⟨_, h2.symm⟩
  · have hin2 : InSpan ((sysM l).map (·.1)) p.1 := by
      have := ((hg.span x).2 hin).xor h1
      rwa [xor_cancel_left] at this
    cases Nat.decEq p.1 0 with
    | isTrue e => exact e
    | isFalse e =>
      exfalso
      have hlead := hg.leads.lead hin2 e
      rw [Sys.rows_getD] at hlead
      have hlt : blen p.1 - 1 < 24 := by
        cases Nat.decLt (blen p.1 - 1) 24 with
        | isTrue e => exact e
        | isFalse e => exact absurd (by rw [Sys.at_out (by rw [hg.len]; omega)]) hlead
      have := h4 _ hlt hlead
      rw [testBit_blen e] at this; cases this
  · rw [e, Nat.xor_zero] at h2
    refine ⟨h2.symm, fun y hy => ?_⟩
    cases Nat.decLe p.2 y with
    | isTrue e => exact e
    | isFalse hlt =>
      exfalso
      obtain ⟨hd, hb⟩ := top_bit (x := p.2) (y := y) (by omega)
      have hp := hpv _ hb
      apply hp
      have htot : total l (p.2 ^^^ y) = 0 := by rw [total_xor, hy, ← h2, Nat.xor_self]
      generalize hdd : p.2 ^^^ y = d at *
      generalize hi : blen d - 1 = i at *
      -- d is the bit i and lesser bits
      have hlow : d ^^^ 2 ^ i < 2 ^ i := by
        apply lt_two_pow_of_bits
        intro j hj
        rw [Nat.testBit_xor, Nat.testBit_two_pow]
        by_cases hji : i = j
        · subst hji
          have := testBit_blen hd
          rw [hi] at this; simp [this]
        · have : d.testBit j = false := by
            cases e3 : d.testBit j with
            | false => rfl
            | true => have := lt_blen_of_testBit e3; omega
          simp [this, hji]
      have h5 : total l (d ^^^ 2 ^ i) = l.getD i 0 := by rw [total_xor, htot, Nat.zero_xor, total_pow]
      by_cases hil : i < l.length
      · refine ⟨d ^^^ 2 ^ i, ?_⟩
        rw [← h5]
        have e2 : l = l.take i ++ l.drop i := (List.take_append_drop i l).symm
        conv => rhs; rw [e2]
        rw [total_append, List.length_take, Nat.min_eq_left (Nat.le_of_lt hil), Nat.div_eq_of_lt hlow, total_zero, Nat.xor_zero]
      · rw [getD_out (by omega)]; exact .zero _
end Go.AM

/-! ### M8 -/
namespace Go.AM
set_option linter.unusedVariables false

theorem popF_eq (f x : Nat) (h : x < 2 ^ f) : popF f x = popc x := popF_fuel f x x h Nat.lt_two_pow_self
theorem popc_double (x b : Nat) (hb : b < 2) : popc (b + 2 * x) = b + popc x := by
  by_cases h : b + 2 * x = 0
  · have : x = 0 := by omega
    have : b = 0 := by omega
    subst_vars; simp [popc]
  · rw [popc_pos (by omega)]
    rw [show (b + 2 * x) % 2 = b by omega, show (b + 2 * x) / 2 = x by omega]
theorem popc_split (k : Nat) : ∀ (lo hi : Nat), lo < 2 ^ k → popc (lo + 2 ^ k * hi) = popc lo + popc hi := by
  induction k with
  | zero => intro lo hi h; obtain rfl : lo = 0 := by omega
            simp [popc]
  | succ k ih =>
    intro lo hi h
    have e : lo + 2 ^ (k + 1) * hi = lo % 2 + 2 * (lo / 2 + 2 ^ k * hi) := by
      rw [Nat.pow_succ, Nat.mul_add, ← Nat.mul_assoc, Nat.mul_comm 2 (2 ^ k)]; omega
    have e2 : popc lo = lo % 2 + popc (lo / 2) := by
      have := popc_double (lo / 2) (lo % 2) (by omega)
      rw [show lo % 2 + 2 * (lo / 2) = lo by omega] at this; exact this
    rw [e, popc_double _ _ (by omega), ih _ _ (by rw [Nat.pow_succ] at h; omega), e2]; omega

theorem and_split {ul ml uh mh : Nat} (h1 : ul < 256) (h2 : ml < 256) : (ul + 256 * uh) &&& (ml + 256 * mh) = (ul &&& ml) + 256 * (uh &&& mh) := by
  have a : (ul &&& ml) < 256 := Nat.lt_of_le_of_lt Nat.and_le_left h1
  apply Nat.eq_of_testBit_eq
  intro i
  rw [Nat.testBit_and, show 256 = 2 ^ 8 from rfl, Nat.add_comm ul, Nat.add_comm ml, Nat.add_comm (ul &&& ml)]
  rw [Nat.testBit_two_pow_mul_add _ h1, Nat.testBit_two_pow_mul_add _ h2, Nat.testBit_two_pow_mul_add _ a]
  split <;> rw [Nat.testBit_and]
/-- Eight bytes as a number. -/
def val8 (a b c d e f g h : Nat) : Nat := a + 256 * (b + 256 * (c + 256 * (d + 256 * (e + 256 * (f + 256 * (g + 256 * h))))))
theorem and_val8 {a b c d e f g h k : Nat} (ha : a < 256) (hb : b < 256) (hc : c < 256) (hd : d < 256) (he : e < 256) (hf : f < 256) (hg : g < 256) (hk : k < 256) :
    val8 a b c d e f g h &&& val8 k k k k k k k k = val8 (a &&& k) (b &&& k) (c &&& k) (d &&& k) (e &&& k) (f &&& k) (g &&& k) (h &&& k) := by
  unfold val8
  rw [and_split ha hk, and_split hb hk, and_split hc hk, and_split hd hk, and_split he hk, and_split hf hk, and_split hg hk]
theorem val8_of (x : Nat) (hx : x < 2 ^ 64) : ∃ a b c d e f g h, x = val8 a b c d e f g h ∧ a < 256 ∧ b < 256 ∧ c < 256 ∧ d < 256 ∧ e < 256 ∧ f < 256 ∧ g < 256 ∧ h < 256 :=
  ⟨x % 256, x / 256 % 256, x / 256 / 256 % 256, x / 256 / 256 / 256 % 256, x / 256 / 256 / 256 / 256 % 256, x / 256 / 256 / 256 / 256 / 256 % 256, x / 256 / 256 / 256 / 256 / 256 / 256 % 256, x / 256 / 256 / 256 / 256 / 256 / 256 / 256, by unfold val8; omega, by omega, by omega, by omega, by omega, by omega, by omega, by omega, by omega⟩
theorem val8_lt {a b c d e f g h : Nat} (ha : a < 256) (hb : b < 256) (hc : c < 256) (hd : d < 256) (he : e < 256) (hf : f < 256) (hg : g < 256) (hh : h < 256) : val8 a b c d e f g h < 2 ^ 64 := by
  unfold val8; omega
theorem popc_val8 {a b c d e f g h : Nat} (ha : a < 256) (hb : b < 256) (hc : c < 256) (hd : d < 256) (he : e < 256) (hf : f < 256) (hg : g < 256) : popc (val8 a b c d e f g h) = popc a + popc b + popc c + popc d + popc e + popc f + popc g + popc h := by
  unfold val8
  rw [show (256 : Nat) = 2 ^ 8 from rfl, popc_split 8 _ _ ha, popc_split 8 _ _ hb, popc_split 8 _ _ hc, popc_split 8 _ _ hd, popc_split 8 _ _ he, popc_split 8 _ _ hf, popc_split 8 _ _ hg]
  omega

/-! ### The stages -/
def s1 (x : Nat) : Nat := (x >>> 1 &&& 6148914691236517205) + (x &&& 6148914691236517205)
def s2 (x : Nat) : Nat := (x >>> 2 &&& 3689348814741910323) + (x &&& 3689348814741910323)
def s3 (x : Nat) : Nat := (x >>> 4) + x &&& 1085102592571150095
def t1 (b : Nat) : Nat := (b / 2 &&& 85) + (b &&& 85)
def t2 (b : Nat) : Nat := (b / 4 &&& 51) + (b &&& 51)
theorem t1_all : ∀ b : Fin 256, t1 b.val < 256 ∧ ∀ r : Fin 2, (b.val / 2 + 128 * r.val) &&& 85 = b.val / 2 &&& 85 := by decide +kernel
theorem t2_all : ∀ b : Fin 256, t2 b.val < 256 ∧ ∀ r : Fin 4, (b.val / 4 + 64 * r.val) &&& 51 = b.val / 4 &&& 51 := by decide +kernel
theorem t3_all : ∀ b : Fin 256, (t2 (t1 b.val)) / 16 ≤ 4 ∧ (t2 (t1 b.val)) % 16 ≤ 4 ∧ (t2 (t1 b.val)) / 16 + (t2 (t1 b.val)) % 16 = popF 8 b.val := by decide +kernel
theorem t4_all : ∀ p q : Fin 16, (16 * p.val + q.val) &&& 15 = q.val := by decide +kernel
theorem t1_lt {b : Nat} (h : b < 256) : t1 b < 256 := (t1_all ⟨b, h⟩).1
theorem t2_lt {b : Nat} (h : b < 256) : t2 b < 256 := (t2_all ⟨b, h⟩).1
theorem t1_and {b r : Nat} (h : b < 256) (hr : r < 2) : (b / 2 + 128 * r) &&& 85 = b / 2 &&& 85 := (t1_all ⟨b, h⟩).2 ⟨r, hr⟩
theorem t2_and {b r : Nat} (h : b < 256) (hr : r < 4) : (b / 4 + 64 * r) &&& 51 = b / 4 &&& 51 := (t2_all ⟨b, h⟩).2 ⟨r, hr⟩

section
variable {a b c d e f g h : Nat} (ha : a < 256) (hb : b < 256) (hc : c < 256) (hd : d < 256) (he : e < 256) (hf : f < 256) (hg : g < 256) (hh : h < 256)
include ha hb hc hd he hf hg hh
theorem s1_val : s1 (val8 a b c d e f g h) = val8 (t1 a) (t1 b) (t1 c) (t1 d) (t1 e) (t1 f) (t1 g) (t1 h) := by
  unfold s1
  have e1 : val8 a b c d e f g h >>> 1 = val8 (a / 2 + 128 * (b % 2)) (b / 2 + 128 * (c % 2)) (c / 2 + 128 * (d % 2)) (d / 2 + 128 * (e % 2)) (e / 2 + 128 * (f % 2)) (f / 2 + 128 * (g % 2)) (g / 2 + 128 * (h % 2)) (h / 2 + 128 * 0) := by
    rw [Nat.shiftRight_eq_div_pow]; unfold val8; omega
  rw [e1, show 6148914691236517205 = val8 85 85 85 85 85 85 85 85 from rfl, and_val8 (by omega) (by omega) (by omega) (by omega) (by omega) (by omega) (by omega) (by omega), and_val8 ha hb hc hd he hf hg (by omega)]
  rw [t1_and ha (by omega), t1_and hb (by omega), t1_and hc (by omega), t1_and hd (by omega), t1_and he (by omega), t1_and hf (by omega), t1_and hg (by omega), t1_and hh (by omega)]
  unfold val8 t1; omega
theorem s2_val : s2 (val8 a b c d e f g h) = val8 (t2 a) (t2 b) (t2 c) (t2 d) (t2 e) (t2 f) (t2 g) (t2 h) := by
  unfold s2
  have e1 : val8 a b c d e f g h >>> 2 = val8 (a / 4 + 64 * (b % 4)) (b / 4 + 64 * (c % 4)) (c / 4 + 64 * (d % 4)) (d / 4 + 64 * (e % 4)) (e / 4 + 64 * (f % 4)) (f / 4 + 64 * (g % 4)) (g / 4 + 64 * (h % 4)) (h / 4 + 64 * 0) := by
    rw [Nat.shiftRight_eq_div_pow]; unfold val8; omega
  rw [e1, show 3689348814741910323 = val8 51 51 51 51 51 51 51 51 from rfl, and_val8 (by omega) (by omega) (by omega) (by omega) (by omega) (by omega) (by omega) (by omega), and_val8 ha hb hc hd he hf hg (by omega)]
  rw [t2_and ha (by omega), t2_and hb (by omega), t2_and hc (by omega), t2_and hd (by omega), t2_and he (by omega), t2_and hf (by omega), t2_and hg (by omega), t2_and hh (by omega)]
  unfold val8 t2; omega
end
/-- Nibbles that are not great. -/
def nib (x : Nat) : Prop := x / 16 ≤ 4 ∧ x % 16 ≤ 4
theorem t4_and {p q : Nat} (hp : p < 16) (hq : q < 16) : (16 * p + q) &&& 15 = q := t4_all ⟨p, hp⟩ ⟨q, hq⟩
theorem s3_val {a b c d e f g h : Nat} (ha : nib a) (hb : nib b) (hc : nib c) (hd : nib d) (he : nib e) (hf : nib f) (hg : nib g) (hh : nib h) :
    s3 (val8 a b c d e f g h) = val8 (a / 16 + a % 16) (b / 16 + b % 16) (c / 16 + c % 16) (d / 16 + d % 16) (e / 16 + e % 16) (f / 16 + f % 16) (g / 16 + g % 16) (h / 16 + h % 16) ∧ (val8 a b c d e f g h >>> 4) + val8 a b c d e f g h < 2 ^ 64 := by
  unfold nib at *
  have e1 : (val8 a b c d e f g h >>> 4) + val8 a b c d e f g h = val8 (16 * (a / 16 + b % 16) + (a / 16 + a % 16)) (16 * (b / 16 + c % 16) + (b / 16 + b % 16)) (16 * (c / 16 + d % 16) + (c / 16 + c % 16)) (16 * (d / 16 + e % 16) + (d / 16 + d % 16)) (16 * (e / 16 + f % 16) + (e / 16 + e % 16)) (16 * (f / 16 + g % 16) + (f / 16 + f % 16)) (16 * (g / 16 + h % 16) + (g / 16 + g % 16)) (16 * (h / 16) + (h / 16 + h % 16)) := by
    rw [Nat.shiftRight_eq_div_pow]; unfold val8; omega
  refine ⟨?_, ?_⟩
  · unfold s3
    rw [e1, show 1085102592571150095 = val8 15 15 15 15 15 15 15 15 from rfl, and_val8 (by omega) (by omega) (by omega) (by omega) (by omega) (by omega) (by omega) (by omega)]
    rw [t4_and (by omega) (by omega), t4_and (by omega) (by omega), t4_and (by omega) (by omega), t4_and (by omega) (by omega), t4_and (by omega) (by omega), t4_and (by omega) (by omega), t4_and (by omega) (by omega), t4_and (by omega) (by omega)]
  · rw [e1]; unfold val8; omega
/-- What is behind the three stages: bytes that add up to the number of ones. -/
theorem s123 {x : Nat} (hx : x < 2 ^ 64) : ∃ a b c d e f g h, s3 (s2 (s1 x)) = val8 a b c d e f g h ∧ a ≤ 8 ∧ b ≤ 8 ∧ c ≤ 8 ∧ d ≤ 8 ∧ e ≤ 8 ∧ f ≤ 8 ∧ g ≤ 8 ∧ h ≤ 8 ∧ a + b + c + d + e + f + g + h = popc x ∧ s1 x < 2 ^ 64 ∧ s2 (s1 x) < 2 ^ 64 ∧ (s2 (s1 x) >>> 4) + s2 (s1 x) < 2 ^ 64 := by
  obtain ⟨a, b, c, d, e, f, g, h, rfl, ha, hb, hc, hd, he, hf, hg, hh⟩ := val8_of x hx
  have la := t1_lt ha; have lb := t1_lt hb; have lc := t1_lt hc; have ld := t1_lt hd; have le := t1_lt he; have lf := t1_lt hf; have lg := t1_lt hg; have lh := t1_lt hh
  have ka := t2_lt la; have kb := t2_lt lb; have kc := t2_lt lc; have kd := t2_lt ld; have ke := t2_lt le; have kf := t2_lt lf; have kg := t2_lt lg; have kh := t2_lt lh
  have na := t3_all ⟨a, ha⟩; have nb := t3_all ⟨b, hb⟩; have nc := t3_all ⟨c, hc⟩; have nd := t3_all ⟨d, hd⟩; have ne := t3_all ⟨e, he⟩; have nf := t3_all ⟨f, hf⟩; have ng := t3_all ⟨g, hg⟩; have nh := t3_all ⟨h, hh⟩
  rw [popF_eq 8 _ (by simpa using ha)] at na
  rw [popF_eq 8 _ (by simpa using hb)] at nb
  rw [popF_eq 8 _ (by simpa using hc)] at nc
  rw [popF_eq 8 _ (by simpa using hd)] at nd
  rw [popF_eq 8 _ (by simpa using he)] at ne
  rw [popF_eq 8 _ (by simpa using hf)] at nf
  rw [popF_eq 8 _ (by simpa using hg)] at ng
  rw [popF_eq 8 _ (by simpa using hh)] at nh
  simp only at na nb nc nd ne nf ng nh
  rw [s1_val ha hb hc hd he hf hg hh, s2_val la lb lc ld le lf lg lh]
  generalize t2 (t1 a) = A at *
  generalize t2 (t1 b) = B at *
  generalize t2 (t1 c) = C at *
  generalize t2 (t1 d) = D at *
  generalize t2 (t1 e) = E at *
  generalize t2 (t1 f) = F at *
  generalize t2 (t1 g) = G at *
  generalize t2 (t1 h) = J at *
  obtain ⟨h3, h4⟩ := s3_val ⟨na.1, na.2.1⟩ ⟨nb.1, nb.2.1⟩ ⟨nc.1, nc.2.1⟩ ⟨nd.1, nd.2.1⟩ ⟨ne.1, ne.2.1⟩ ⟨nf.1, nf.2.1⟩ ⟨ng.1, ng.2.1⟩ ⟨nh.1, nh.2.1⟩
  refine ⟨_, _, _, _, _, _, _, _, h3, by omega, by omega, by omega, by omega, by omega, by omega, by omega, by omega, ?_, ?_, ?_, h4⟩
  · rw [popc_val8 ha hb hc hd he hf hg]; omega
  · exact val8_lt la lb lc ld le lf lg lh
  · exact val8_lt ka kb kc kd ke kf kg kh
/-- The end: the bytes are added up. -/
theorem s456 {a b c d e f g h : Nat} (ha : a ≤ 8) (hb : b ≤ 8) (hc : c ≤ 8) (hd : d ≤ 8) (he : e ≤ 8) (hf : f ≤ 8) (hg : g ≤ 8) (hh : h ≤ 8) :
    ∃ x y z, val8 a b c d e f g h + (val8 a b c d e f g h >>> 8) = x ∧ x + x >>> 16 = y ∧ y + y >>> 32 = z ∧ x < 2 ^ 63 ∧ y < 2 ^ 63 ∧ z < 2 ^ 63 ∧ z &&& 127 = a + b + c + d + e + f + g + h := by
  refine ⟨_, _, _, rfl, rfl, rfl, ?_⟩
  have e1 : val8 a b c d e f g h + (val8 a b c d e f g h >>> 8) = val8 (a + b) (b + c) (c + d) (d + e) (e + f) (f + g) (g + h) h := by
    rw [Nat.shiftRight_eq_div_pow]; unfold val8; omega
  have e2 : val8 (a + b) (b + c) (c + d) (d + e) (e + f) (f + g) (g + h) h + (val8 (a + b) (b + c) (c + d) (d + e) (e + f) (f + g) (g + h) h >>> 16) = val8 (a + b + c + d) (b + c + d + e) (c + d + e + f) (d + e + f + g) (e + f + g + h) (f + g + h) (g + h) h := by
    rw [Nat.shiftRight_eq_div_pow]; unfold val8; omega
  rw [e1, e2]
  refine ⟨by unfold val8; omega, by unfold val8; omega, ?_⟩
  have e3 : val8 (a + b + c + d) (b + c + d + e) (c + d + e + f) (d + e + f + g) (e + f + g + h) (f + g + h) (g + h) h + (val8 (a + b + c + d) (b + c + d + e) (c + d + e + f) (d + e + f + g) (e + f + g + h) (f + g + h) (g + h) h >>> 32) =
      val8 (a + b + c + d + e + f + g + h) (b + c + d + e + f + g + h) (c + d + e + f + g + h) (d + e + f + g + h) (e + f + g + h) (f + g + h) (g + h) h := by
    rw [Nat.shiftRight_eq_div_pow]; unfold val8; omega
  rw [e3]
  refine ⟨by unfold val8; omega, ?_⟩
  rw [show 127 = 2 ^ 7 - 1 from rfl, Nat.and_two_pow_sub_one_eq_mod]
  unfold val8; omega
end Go.AM

/-! ### G1 -/
namespace Go.AM
set_option linter.unusedVariables false
set_option linter.unusedSimpArgs false
/-- Numbers as cells. -/
def cellsN (l : List Nat) : Array Value := (l.map nv).toArray
@[simp] theorem cellsN_size (l : List Nat) : (cellsN l).size = l.length := by simp [cellsN]
theorem cellsN_get {l : List Nat} {i x : Nat} (h : l[i]? = some x) : (cellsN l)[i]? = some (nv x) := by simp [cellsN, h]
theorem cellsN_set (l : List Nat) (i x : Nat) : (cellsN l).setIfInBounds i (nv x) = cellsN (l.set i x) := by
  apply Array.ext_getElem?
  intro j
  simp only [cellsN, Array.getElem?_setIfInBounds, List.getElem?_toArray, List.getElem?_map, List.getElem?_set]
  split <;> simp
theorem cellsN_ints {m : Mem} {b cap : Nat} {r : Bool} {l : List Nat} (h : Mem.get m b = .cells r (cellsN l)) : IntsAt m (.slice (some ⟨b, 0, some 1⟩) l.length cap) (ofs l) :=
  .inr ⟨b, 0, cap, r, _, by rw [ofs_length], h, fun i x hi => by
    rw [Nat.zero_add]
    simp only [ofs, List.getElem?_map, Option.map_eq_some_iff] at hi
    obtain ⟨y, hy, rfl⟩ := hi
    exact cellsN_get hy⟩
theorem OwnF.ofCells {N : Nat} {m : Mem} {b : Nat} {l r : List Nat} (hN : N ≤ b) (h : Mem.get m b = .cells true (cellsN (l ++ r))) : OwnF N m (.slice (some ⟨b, 0, some 1⟩) l.length (l ++ r).length) (ofs l) := by
  refine .inr ⟨b, _, _, by rw [ofs_length], hN, h, by simp, by simp, fun i x hi => ?_⟩
  simp only [ofs, List.getElem?_map, Option.map_eq_some_iff] at hi
  obtain ⟨y, hy, rfl⟩ := hi
  refine cellsN_get ?_
  rw [List.getElem?_append_left (List.getElem?_eq_some_iff.1 hy).1]; exact hy
theorem sMkN {P : Program} {ρ : Env} {m : Mem} {K : Env → Mem → Prop} {ops : Array Oper} {l : List Oper} {d : Option Nat} {ty t e : TypeId} {pos : String} {af : Array Edge} {x y : Operand} {n : Nat}
    (ht : undOf P t = some (.slice e)) (hs : szOf P e = some 1) (hz : zeroOf P e = some (nv 0)) (hb : bytesOf' P e = some 8) (hx : evR ρ x = nv n) (hy : evR ρ y = nv n) (hn : n ≤ 1000000)
    (hk : wpOps P ops K l (updO ρ d (.slice (some ⟨m.size, 0, some 1⟩) n n)) (m.push (.cells true (cellsN (List.replicate n 0))))) : wpOps P ops K (⟨d, .makeSlice t x y, ty, pos, af, none⟩ :: l) ρ m := by
  refine sO (opF_eff rfl rfl ?_) hk
  have hcl : (nv 0).cells = #[nv 0] := rfl
  simp only [aEff, hx, hy, aMakeSlice, ht, hs, hz, hb, nv]
  rw [if_pos ⟨by decide, by decide, by kernel_rfl, by simp, by simp, by simp; omega, by simp; omega⟩]
  have e1 : ((Array.range ((Int.ofNat n).toNat * 1)).map fun x => (Value.int .i64 (Int.ofNat 0)).cells[x % (Value.int .i64 (Int.ofNat 0)).cells.size]!) = cellsN (List.replicate n 0) := by
    apply Array.ext
    · simp [cellsN]
    · intro i h1 h2
      simp [cellsN, Value.cells, Nat.mod_one]
  rw [e1]; rfl
theorem fill1 {a : Int} : Instr.fill (fun i => some (i * 1, 1)) (if 1 * 1 = 0 then #[] else (Array.range (1 * 1)).map ((nv 0).cells[· % (nv 0).cells.size]!)) [(0, .int .i64 a)] = some #[.int .i64 a] := by kernel_rfl
theorem one_ints {m : Mem} {k : Nat} : IntsAt (m.push (.cells true #[nv k])) (.slice (some ⟨m.size, 0, some 1⟩) 1 1) [Int.ofNat k] :=
  .inr ⟨m.size, 0, 1, true, _, rfl, gP rfl, fun i x hi => by
    match i with
    | 0 => simp at hi; subst hi; rfl
    | i + 1 => simp at hi⟩
theorem new_ints {m : Mem} {l : List Nat} {n : Nat} (h : l.length = n := by rfl) : IntsAt (m.push (.cells true (cellsN l))) (.slice (some ⟨m.size, 0, some 1⟩) n n) (ofs l) := by
  subst h; exact cellsN_ints (gP rfl)
def ifOk {α : Type} (e : Nat) (x y : α) : α := if e = 0 then x else y
theorem ifOk_0 {α : Type} {e : Nat} (h : e = 0) (x y : α) : ifOk e x y = x := if_pos h
theorem ifOk_n {α : Type} {e : Nat} (h : e ≠ 0) (x y : α) : ifOk e x y = y := if_neg h
def nats (l : List Int) : List Nat := l.map Int.toNat
@[simp] theorem nats_ofs (l : List Nat) : nats (ofs l) = l := by
  simp only [nats, ofs, List.map_map]
  conv => rhs; rw [← List.map_id l]
  exact List.map_congr_left fun x _ => rfl
theorem getDeq {l : List Nat} {i : Nat} (h : i < l.length) : l[i]? = some (l.getD i 0) := by rw [List.getD_eq_getElem?_getD, List.getElem?_eq_getElem h]; rfl
theorem bit_one (w i : Nat) : (w >>> i &&& 1 = 1) ↔ w.testBit i = true := by
  rw [Nat.testBit, Nat.and_one_is_mod, Nat.one_and_eq_mod_two]; simp
theorem mk_own {m m' : Mem} {M : Nat} {x : Nat} (hM : M ≤ m.size) (hl : Low M (m.push (.cells true #[nv x])) m') : Low M m m' := (Low.push M hM _).trans hl
theorem neqF {a b : Nat} (h : a = b) : aInt .neq .i64 (Int.ofNat a) (Int.ofNat b) = some (.bool false) := by rw [aInt_neq, decide_eq_false (by simpa using h)]
theorem neqT {a b : Nat} (h : a ≠ b) : aInt .neq .i64 (Int.ofNat a) (Int.ofNat b) = some (.bool true) := by rw [aInt_neq, decide_eq_true h]
theorem eqlT {a b : Nat} (h : a = b) : aInt .eql .i64 (Int.ofNat a) (Int.ofNat b) = some (.bool true) := by rw [aInt_eql, decide_eq_true h]
theorem eqlF {a b : Nat} (h : a ≠ b) : aInt .eql .i64 (Int.ofNat a) (Int.ofNat b) = some (.bool false) := by rw [aInt_eql, decide_eq_false h]
theorem lssF {a b : Nat} (h : ¬ a < b) : aInt .lss .i64 (Int.ofNat a) (Int.ofNat b) = some (.bool false) := by rw [aInt_lss, decide_eq_false h]
theorem lssT {a b : Nat} (h : a < b) : aInt .lss .i64 (Int.ofNat a) (Int.ofNat b) = some (.bool true) := by rw [aInt_lss, decide_eq_true h]
theorem gtrF {a b : Nat} (h : ¬ b < a) : aInt .gtr .i64 (Int.ofNat a) (Int.ofNat b) = some (.bool false) := by rw [aInt_gtr, decide_eq_false h]
theorem gtrT {a b : Nat} (h : b < a) : aInt .gtr .i64 (Int.ofNat a) (Int.ofNat b) = some (.bool true) := by rw [aInt_gtr, decide_eq_true h]
theorem leqF {a b : Nat} (h : ¬ a ≤ b) : aInt .leq .i64 (Int.ofNat a) (Int.ofNat b) = some (.bool false) := by rw [aInt_leq, decide_eq_false h]
theorem leqT {a b : Nat} (h : a ≤ b) : aInt .leq .i64 (Int.ofNat a) (Int.ofNat b) = some (.bool true) := by rw [aInt_leq, decide_eq_true h]
theorem geqF {a b : Nat} (h : ¬ b ≤ a) : aInt .geq .i64 (Int.ofNat a) (Int.ofNat b) = some (.bool false) := by rw [aInt_geq, decide_eq_false h]
theorem geqT {a b : Nat} (h : b ≤ a) : aInt .geq .i64 (Int.ofNat a) (Int.ofNat b) = some (.bool true) := by rw [aInt_geq, decide_eq_true h]

/-! ### Rows of rows -/
def RowsAt (m : Mem) (v : Value) (G : List (List Int)) : Prop :=
  (G = [] ∧ (v = .slice none 0 0 ∨ ∃ b o, v = .slice (some ⟨b, o, none⟩) 0 0)) ∨
  ∃ b o cap r c, v = .slice (some ⟨b, o, some 1⟩) G.length cap ∧ Mem.get m b = .cells r c ∧ ∀ i g, G[i]? = some g → ∃ s, c[o + i * 1]? = some s ∧ IntsAt m s g
theorem RowsAt.ext {m m' : Mem} {v : Value} {G : List (List Int)} (h : RowsAt m v G) (he : Ext m m') : RowsAt m' v G := by
  rcases h with h | ⟨b, o, cap, r, c, h1, h2, h3⟩
  · exact .inl h
  · refine .inr ⟨b, o, cap, r, c, h1, he.cells h2, fun i g hg => ?_⟩
    obtain ⟨s, hs, hi⟩ := h3 i g hg
    exact ⟨s, hs, hi.ext he⟩
theorem RowsAt.len {m : Mem} {v : Value} {G : List (List Int)} (h : RowsAt m v G) : ∃ q cap, v = .slice q G.length cap := by
  rcases h with ⟨rfl, rfl | ⟨b, o, rfl⟩⟩ | ⟨b, o, cap, r, c, rfl, _, _⟩
  · exact ⟨_, _, rfl⟩
  · exact ⟨_, _, rfl⟩
  · exact ⟨_, _, rfl⟩
theorem RowsAt.at {m : Mem} {v : Value} {G : List (List Int)} (h : RowsAt m v G) (hl : 0 < G.length) : ∃ b o cap r c, v = .slice (some ⟨b, o, some 1⟩) G.length cap ∧ Mem.get m b = .cells r c ∧ ∀ i g, G[i]? = some g → ∃ s, c[o + i * 1]? = some s ∧ IntsAt m s g := by
  rcases h with ⟨rfl, _⟩ | h
  · simp at hl
  · exact h
/-- Rows of numbers that are not below 0. -/
def ofs2 (G : List (List Nat)) : List (List Int) := G.map ofs
@[simp] theorem ofs2_length (G : List (List Nat)) : (ofs2 G).length = G.length := by simp [ofs2]
theorem ofs2_get {G : List (List Nat)} {i : Nat} {g : List Nat} (h : G[i]? = some g) : (ofs2 G)[i]? = some (ofs g) := by simp [ofs2, h]

/-! ### Maps of numbers to numbers -/
def MapAt (m : Mem) (b : Nat) (es : List (Nat × Nat)) : Prop := Mem.get m b = .map true (es.map fun p => (nv p.1, nv p.2))
def findE : List (Nat × Nat) → Nat → Nat → Option (Nat × Nat)
  | [], _, _ => none
  | p :: es, k, i => if k = p.1 then some (i, p.2) else findE es k (i + 1)
theorem find_now (k : Nat) : ∀ (es : List (Nat × Nat)) (i : Nat), aFindNow (.int .i64) (nv k) (es.map fun p => (nv p.1, nv p.2)) i = some ((findE es k i).map fun p => (p.1, nv p.2))
  | [], i => rfl
  | p :: es, i => by
    rw [List.map_cons, aFindNow, findE]
    have hs : Instr.sameNow (.int .i64) (nv k) (nv p.1) = some (decide (k = p.1)) := by
      simp only [Instr.sameNow, if_true]
      congr 1
      rw [Bool.eq_iff_iff]; simp; omega
    rw [hs]
    by_cases h : k = p.1
    · rw [decide_eq_true h, if_pos h]; rfl
    · rw [decide_eq_false h, if_neg h]
      exact find_now k es (i + 1)
def lookE (es : List (Nat × Nat)) (k : Nat) : Option Nat := (findE es k 0).map (·.2)
end Go.AM

/-! ### M9 -/
namespace Go.AM
def tzF : Nat → Nat → Nat
  | 0, _ => 0
  | f + 1, x => if x % 2 = 1 then 0 else 1 + tzF f (x / 2)
def deBL : List Nat := [0, 1, 56, 2, 57, 49, 28, 3, 61, 58, 42, 50, 38, 29, 17, 4, 62, 47, 59, 36, 45, 43, 51, 22, 53, 39, 33, 30, 24, 18, 12, 5, 63, 55, 48, 27, 60, 41, 37, 16, 46, 35, 44, 21, 52, 32, 23, 11, 54, 26, 40, 15, 34, 20, 31, 10, 25, 14, 19, 9, 13, 8, 7, 6]
def tzIx (x : Nat) : Nat := ((x &&& (18446744073709551616 - x)) * 285870213051353865 % 18446744073709551616) >>> 58
theorem and_compl {n k : Nat} (h : k < 2 ^ n) : k &&& (2 ^ n - (k + 1)) = 0 := by
  apply Nat.eq_of_testBit_eq
  intro i
  rw [Nat.testBit_and, Nat.testBit_two_pow_sub_succ h, Nat.zero_testBit]
  cases k.testBit i <;> simp
theorem and_two {a b r s : Nat} (hr : r < 2) (hs : s < 2) : (2 * a + r) &&& (2 * b + s) = 2 * (a &&& b) + (r &&& s) := by
  have h : (r &&& s) < 2 := Nat.lt_of_le_of_lt Nat.and_le_left hr
  apply Nat.eq_of_testBit_eq
  intro i
  have e1 : 2 * a + r = 2 ^ 1 * a + r := by omega
  have e2 : 2 * b + s = 2 ^ 1 * b + s := by omega
  have e3 : 2 * (a &&& b) + (r &&& s) = 2 ^ 1 * (a &&& b) + (r &&& s) := by omega
  rw [Nat.testBit_and, e1, e2, e3, Nat.testBit_two_pow_mul_add _ (by omega), Nat.testBit_two_pow_mul_add _ (by omega), Nat.testBit_two_pow_mul_add _ (by omega)]
  split <;> rw [Nat.testBit_and]
theorem low_bit : ∀ (n x : Nat), x ≠ 0 → x < 2 ^ n → x &&& (2 ^ n - x) = 2 ^ tzF n x ∧ tzF n x < n
  | 0, x, h0, h => absurd h (by omega)
  | n + 1, x, h0, h => by
    rw [Nat.pow_succ] at h ⊢
    rw [tzF]
    by_cases hx : x % 2 = 1
    · rw [if_pos hx]
      have e1 : x = 2 * (x / 2) + 1 := by omega
      have e2 : 2 ^ n * 2 - x = 2 * (2 ^ n - (x / 2 + 1)) + 1 := by omega
      rw [e2]
      conv => lhs; lhs; lhs; rw [e1]
      rw [and_two (by omega) (by omega), and_compl (by omega)]
      exact ⟨rfl, by omega⟩
    · rw [if_neg hx]
      have e1 : x = 2 * (x / 2) + 0 := by omega
      have e2 : 2 ^ n * 2 - x = 2 * (2 ^ n - x / 2) + 0 := by omega
      obtain ⟨i1, i2⟩ := low_bit n (x / 2) (by omega) (by omega)
      rw [e2]
      conv => lhs; lhs; lhs; rw [e1]
      rw [and_two (by omega) (by omega), i1]
      refine ⟨?_, by omega⟩
      rw [Nat.add_comm 1, Nat.pow_succ]; simp; omega
theorem tz_all : ∀ t : Fin 64, (2 ^ t.val * 285870213051353865 % 18446744073709551616) >>> 58 < 64 ∧ deBL[(2 ^ t.val * 285870213051353865 % 18446744073709551616) >>> 58]? = some t.val := by decide +kernel
theorem tz_ok {x : Nat} (h0 : x ≠ 0) (h : x < 2 ^ 64) : tzIx x < 64 ∧ deBL[tzIx x]? = some (tzF 64 x) := by
  obtain ⟨h1, h2⟩ := low_bit 64 x h0 h
  have := tz_all ⟨tzF 64 x, h2⟩
  unfold tzIx
  rw [show 18446744073709551616 = 2 ^ 64 from rfl, h1]
  exact this
end Go.AM

/-! ### G2 -/
namespace Go.AM
set_option maxRecDepth 100000
set_option linter.unusedVariables false
set_option linter.unusedSimpArgs false
theorem ACalls.callee {P : Program} {f : FuncId} {x : Array Value} {m : Mem} {v : Value} (h : ∃ w m', ACalls P f x m w m' ∧ (w = v ∧ m' = m)) : ACalls P f x m v m := by
  obtain ⟨w, m', h, rfl, rfl⟩ := h; exact h
/-- The error of rows. -/
def checkF (l : List Int) (n : Int) : Nat :=
  if n < 1 ∨ 16 < n then 3 else if 24 < l.length then 2 else if l.all (fun x => decide (0 ≤ x ∧ x < 2 ^ n.toNat)) then 0 else 4
/-- Pairs of numbers, one behind the other. -/
def PairsAt (m : Mem) (v : Value) (l : List (Nat × Nat)) : Prop :=
  ∃ b cap r c, v = .slice (some ⟨b, 0, some 2⟩) l.length cap ∧ Mem.get m b = .cells r c ∧ c.size = l.length * 2 ∧ ∀ (i : Nat) (x : Nat × Nat), l[i]? = some x → c.extract (0 + i * 2) (0 + i * 2 + 2) = #[nv x.1, nv x.2]
def sumP (l : List (Nat × Nat)) : Nat × Nat := l.foldl (fun a p => (a.1 ^^^ p.1, a.2 ^^^ p.2)) (0, 0)
theorem sumP_snoc (l : List (Nat × Nat)) (x : Nat × Nat) : sumP (l ++ [x]) = ((sumP l).1 ^^^ x.1, (sumP l).2 ^^^ x.2) := by simp [sumP]
theorem sumP_lt {l : List (Nat × Nat)} (h : ∀ x ∈ l, x.1 < 2 ^ 62 ∧ x.2 < 2 ^ 62) : ∀ k, (sumP (l.take k)).1 < 2 ^ 62 ∧ (sumP (l.take k)).2 < 2 ^ 62
  | 0 => by simp [sumP]
  | k + 1 => by
    by_cases hk : k < l.length
    · rw [List.take_succ_eq_append_getElem hk, sumP_snoc]
      have h1 := sumP_lt h k
      have h2 := h _ (List.getElem_mem hk)
      exact ⟨Nat.xor_lt_two_pow h1.1 h2.1, Nat.xor_lt_two_pow h1.2 h2.2⟩
    · have := sumP_lt h k
      rw [List.take_of_length_le (by omega)] at this ⊢
      exact this

/-- Rows at work, in memory. -/
def SysAt (m : Mem) (p : Nat) (s : Sys) : Prop :=
  s.length = 24 ∧ ∃ c, Mem.get m p = .cells true c ∧ c.size = 49 ∧ ∀ k, k < 24 → c.extract (0 + 1 + k * 2) (0 + 1 + k * 2 + 2) = #[nv (s.at k).1, nv (s.at k).2]
def SysLt (s : Sys) : Prop := ∀ k, (s.at k).1 < 2 ^ 62 ∧ (s.at k).2 < 2 ^ 62
theorem SysAt.ext {m m' : Mem} {p : Nat} {s : Sys} (h : SysAt m p s) (he : Ext m m') : SysAt m' p s := by
  obtain ⟨h1, c, h2, h3⟩ := h
  exact ⟨h1, c, he.cells h2, h3⟩
theorem fill2 {a b c d : Int} : Instr.fill (fun i => some (i * 2, 2)) (if 2 * 2 = 0 then #[] else (Array.range (2 * 2)).map ((Value.agg #[nv 0, nv 0]).cells[· % (Value.agg #[nv 0, nv 0]).cells.size]!)) [(0, .agg #[.int .i64 a, .int .i64 b]), (1, .agg #[.int .i64 c, .int .i64 d])] = some #[.int .i64 a, .int .i64 b, .int .i64 c, .int .i64 d] := by kernel_rfl
theorem and_one (x k : Nat) : (x >>> k &&& 1 = 1) = (x.testBit k = true) := by
  rw [Nat.testBit, Nat.and_comm 1, bne_iff_ne]
  have := Nat.and_one_is_mod (x >>> k)
  apply propext; omega

def blenF : Nat → Nat → Nat
  | 0, _ => 0
  | f + 1, x => if x = 0 then 0 else 1 + blenF f (x / 2)
theorem blenF_eq : ∀ (f x : Nat), x < 2 ^ f → blenF f x = blen x
  | 0, x, h => by obtain rfl : x = 0 := by omega
                  simp [blenF, blen]
  | f + 1, x, h => by
    by_cases hx : x = 0
    · subst hx; simp [blenF, blen]
    · rw [blenF, if_neg hx, blenF_eq f (x / 2) (by rw [Nat.pow_succ] at h; omega), blen_pos (x := x) (by omega)]
/-- All that was there, but one block, is as it was. -/
def But (p : Nat) (m m' : Mem) : Prop := m.size ≤ m'.size ∧ ∀ b, b < m.size → b ≠ p → Mem.get m' b = Mem.get m b
theorem But.of_ext {p : Nat} {m m' : Mem} (h : Ext m m') : But p m m' := ⟨h.1, fun b hb _ => h.2 b hb⟩
theorem But.trans {p : Nat} {a b c : Mem} (h : But p a b) (h' : But p b c) : But p a c :=
  ⟨Nat.le_trans h.1 h'.1, fun i hi hp => (h'.2 i (Nat.lt_of_lt_of_le hi h.1) hp).trans (h.2 i hi hp)⟩
theorem But.set {p : Nat} {a b : Mem} (h : But p a b) {i : Nat} (hi : i = p ∨ a.size ≤ i) (o : AObj) : But p a (b.setIfInBounds i o) :=
  ⟨by simpa using h.1, fun j hj hp => by rw [get_set, if_neg (by omega)]; exact h.2 j hj hp⟩
theorem But.cells {p : Nat} {m m' : Mem} (h : But p m m') {b : Nat} {r : Bool} {c : Array Value} (hb : Mem.get m b = .cells r c) (hp : b ≠ p) : Mem.get m' b = .cells r c := by
  rw [h.2 b (live hb) hp, hb]
theorem But.ext {p : Nat} {m0 m m' : Mem} (h : But p m m') (h0 : Ext m0 m) (hp : m0.size ≤ p) : Ext m0 m' :=
  ⟨Nat.le_trans h0.1 h.1, fun b hb => (h.2 b (Nat.lt_of_lt_of_le hb h0.1) (by omega)).trans (h0.2 b hb)⟩
theorem But.low {N p : Nat} {m m' : Mem} (h : But p m m') (hN : N ≤ p) (hm : N ≤ m.size) : Low N m m' := ⟨h.1, fun b hb => h.2 b (by omega) (by omega)⟩

/-- Rows at work: bounds. -/
def SysOk (s : Sys) : Prop := ∀ k, (s.at k).1 < 2 ^ 24 ∧ (s.at k).2 < 2 ^ 40
theorem SysOk.lt {s : Sys} (h : SysOk s) : SysLt s := fun k => by have := h k; omega
theorem addM_ok {s : Sys} (h : SysOk s) {i row : Nat} (hi : i < 40) (hr : row < 2 ^ 24) : SysOk (addM s i row) := by
  have hs := splitM_lt h 24 (row, 0) hr (by decide : 0 < 2 ^ 40)
  unfold addM
  split
  · exact h
  · intro k
    by_cases hk : blen (splitM s 24 (row, 0)).1 - 1 < s.length
    · rw [Sys.at_set _ _ _ _ hk]
      split
      · exact ⟨hs.1, Nat.xor_lt_two_pow hs.2 (Nat.pow_lt_pow_right (by omega) hi)⟩
      · exact h k
    · rw [List.set_eq_of_length_le (by omega)]; exact h k
theorem extract2_lay {c vs : Array Value} {j k : Nat} (hc : c.size = 49) (hv : vs.size = 2) (hj : j < 24) (hk : k < 24) :
    (lay c (0 + 1 + k * 2) vs).extract (0 + 1 + j * 2) (0 + 1 + j * 2 + 2) = if j = k then vs else c.extract (0 + 1 + j * 2) (0 + 1 + j * 2 + 2) := by
  apply Array.ext_getElem?
  intro i
  rw [Array.getElem?_extract, lay_size]
  by_cases e : j = k
  · subst e
    rw [if_pos rfl]
    by_cases hi : i < 2
    · rw [if_pos (by omega), lay_get', if_pos (by omega)]
      congr 1; omega
    · rw [if_neg (by omega), Array.getElem?_eq_none (by omega)]
  · rw [if_neg e, Array.getElem?_extract]
    by_cases hi : i < 2
    · rw [if_pos (by omega), if_pos (by omega), lay_get', if_neg (by omega)]
    · rw [if_neg (by omega), if_neg (by omega)]
theorem sCallF1 {P : Program} {ρ : Env} {m m' : Mem} {K : Env → Mem → Prop} {ops : Array Oper} {l : List Oper} {d : Option Nat} {ty : TypeId} {pos : String} {af : Array Edge} {v : Value} {f x : Operand} {tys : Array TypeId} {g : FuncId} {a b : Value}
    (hv : evR ρ f = .func (.func g) #[a] #[]) (hk : callable P g = true) (h1 : evR ρ x = b) (h : ACalls P g #[a, b] m v m') (hK : wpOps P ops K l (updO ρ d v) m') :
    wpOps P ops K (⟨d, .call ⟨.value f, ⟨[x]⟩, tys⟩, ty, pos, af, none⟩ :: l) ρ m := sCall hv hk (by simpa [h1] using h) hK

def H112 : Nat → List (Nat × Nat) := fun id => if id = 2 then [(0, 5), (7, 0), (9, 0)] else []
theorem sCallC2 {P : Program} {ρ : Env} {m m' : Mem} {K : Env → Mem → Prop} {ops : Array Oper} {l : List Oper} {d : Option Nat} {ty : TypeId} {pos : String} {af : Array Edge} {v : Value} {f x y : Operand} {tys : Array TypeId} {g : FuncId} {a b c e : Value}
    (hv : evR ρ f = .func (.func g) #[] #[c, e]) (hk : callable P g = true) (h1 : evR ρ x = a) (h2 : evR ρ y = b) (h : ACalls P g #[a, b, c, e] m v m') (hK : wpOps P ops K l (updO ρ d v) m') :
    wpOps P ops K (⟨d, .call ⟨.value f, ⟨[x, y]⟩, tys⟩, ty, pos, af, none⟩ :: l) ρ m := sCall hv hk (by simpa [h1, h2] using h) hK
theorem sys0_at (k : Nat) : sys0.at k = (0, 0) := by
  unfold Sys.at sys0
  rw [List.getD_eq_getElem?_getD, List.getElem?_replicate]
  split <;> rfl
theorem sysAt0 {m : Mem} {p : Nat} {a : Value} (h : Mem.get m p = .cells true (#[a] ++ Array.replicate 48 (nv 0))) : SysAt m p sys0 := by
  refine ⟨rfl, _, h, by simp, fun k hk => ?_⟩
  rw [sys0_at]
  apply Array.ext_getElem?
  intro i
  rw [Array.getElem?_extract]
  by_cases hi : i < 2
  · rw [if_pos (by simp; omega), Array.getElem?_append_right (by simp; omega), Array.getElem?_replicate, if_pos (by simp; omega)]
    match i with
    | 0 => rfl
    | 1 => rfl
    | i + 2 => omega
  · rw [if_neg (by omega), Array.getElem?_eq_none (by simp; omega)]
theorem sysOk0 : SysOk sys0 := fun k => by rw [sys0_at]; decide
theorem spannedM_take {l : List Nat} {i : Nat} (hi : i < l.length) : spannedM sys0 0 (l.take (i + 1)) = addM (spannedM sys0 0 (l.take i)) i l[i] := by
  rw [List.take_succ_eq_append_getElem hi, spannedM_append]
  simp only [spannedM, List.length_take, Nat.zero_add]
  rw [Nat.min_eq_left (by omega)]

theorem cellsN_one (l : List Nat) : (cellsN l).all Value.oneCell' = true := by
  simp [cellsN]; intro x _; rfl
theorem cellsN_zero (n : Nat) : Array.replicate n (nv 0) = cellsN (List.replicate n 0) := by simp [cellsN]
/-- The table at work: what is done, one row, and what is to come. -/
def tabM (t : List Nat) (k x : Nat) : List Nat := t ++ x :: List.replicate (23 - k) 0
theorem tabM_length {t : List Nat} {k x : Nat} (h : t.length = k) (hk : k < 24) : (tabM t k x).length = 24 := by simp [tabM, h]; omega
theorem tabM_here {t : List Nat} {k x : Nat} (h : t.length = k) : (tabM t k x)[k]? = some x := by simp [tabM, ← h]
theorem tabM_before {t : List Nat} {k x j : Nat} (h : t.length = k) (hj : j < k) : (tabM t k x)[j]? = some (t.getD j 0) := by
  simp only [tabM]
  rw [List.getElem?_append_left (by omega), List.getD_eq_getElem?_getD, List.getElem?_eq_getElem (by omega)]; rfl
theorem tabM_set {t : List Nat} {k x y : Nat} (h : t.length = k) : (tabM t k x).set k y = tabM t k y := by simp [tabM, ← h]
theorem tabM_next {t : List Nat} {k x : Nat} (hk : k < 23) : tabM t k x = tabM (t ++ [x]) (k + 1) 0 := by
  simp only [tabM]
  rw [show 23 - k = (23 - (k + 1)) + 1 by omega, List.replicate_succ]; simp
theorem tabM_last {t : List Nat} {x : Nat} : tabM t 23 x = t ++ [x] := by simp [tabM]
theorem innerM_lt {t : List Nat} {x n : Nat} (ht : ∀ j, t.getD j 0 < 2 ^ n) (hx : x < 2 ^ n) : ∀ j, innerM t x j < 2 ^ n
  | 0 => hx
  | j + 1 => by
    rw [innerM]; split
    · exact Nat.xor_lt_two_pow (innerM_lt ht hx j) (ht j)
    · exact innerM_lt ht hx j
theorem reducedM_lt {s : Sys} {n : Nat} (hs : ∀ k, (s.at k).1 < 2 ^ n) : ∀ k j, (reducedM s k).getD j 0 < 2 ^ n
  | 0, j => by simp [reducedM]; exact Nat.two_pow_pos n
  | k + 1, j => by
    rw [reducedM]
    by_cases hj : j < (reducedM s k).length
    · rw [getD_append_left hj]; exact reducedM_lt hs k j
    · by_cases hj2 : j = (reducedM s k).length
      · subst hj2; rw [getD_append_here]; exact innerM_lt (reducedM_lt hs k) (hs k) k
      · rw [getD_out (by simp; omega)]; exact Nat.two_pow_pos n
def idxM (p : Nat → Bool) (l : List Nat) : Int := if l.any p then Int.ofNat (l.findIdx p) else -1
theorem aInt_lssNI {a : Nat} {b : Int} : aInt .lss .i64 (Int.ofNat a) b = some (.bool (decide (Int.ofNat a < b))) := by simp [aInt]

theorem beqI {a b : Nat} : (Int.ofNat a == Int.ofNat b) = decide (a = b) := by
  rw [Bool.eq_iff_iff]; simp; omega
/-- The error of rows and a row more. -/
def oneF (l : List Int) (n row : Int) : Nat := if checkF l n = 0 ∧ ¬ (0 ≤ row ∧ row < 2 ^ n.toNat) then 4 else checkF l n
def bothF (a b : List Int) (n : Int) : Nat := if checkF a n = 0 then checkF b n else checkF a n
theorem checkF_range {l : List Int} {n : Int} (h : checkF l n = 0) : 1 ≤ n ∧ n ≤ 16 ∧ l.length ≤ 24 ∧ ∀ x ∈ l, 0 ≤ x ∧ x < 2 ^ n.toNat := by
  unfold checkF at h
  split at h
  · cases h
  · rename_i h1
    split at h
    · cases h
    · rename_i h2
      split at h
      · rename_i h3
        refine ⟨by omega, by omega, by omega, fun x hx => ?_⟩
        have := List.all_eq_true.1 h3 x hx
        simpa using this
      · cases h
/-- Right rows are numbers. -/
theorem checkF_nat {l : List Int} {n : Int} (h : checkF l n = 0) : ∃ (N : Nat) (L : List Nat), n = Int.ofNat N ∧ l = ofs L ∧ 1 ≤ N ∧ N ≤ 16 ∧ L.length ≤ 24 ∧ ∀ x ∈ L, x < 2 ^ N := by
  obtain ⟨h1, h2, h3, h4⟩ := checkF_range h
  refine ⟨n.toNat, l.map Int.toNat, by simp; omega, ?_, by omega, by omega, by simpa using h3, fun x hx => ?_⟩
  · rw [ofs, List.map_map]
    refine (List.map_id _).symm.trans (List.map_congr_left fun x hx => ?_)
    have := (h4 x hx).1
    simp; omega
  · obtain ⟨y, hy, rfl⟩ := List.mem_map.1 hx
    have h5 := h4 y hy
    have : (y.toNat : Int) < ((2 ^ n.toNat : Nat) : Int) := by rw [Int.toNat_of_nonneg h5.1]; exact_mod_cast h5.2
    exact_mod_cast this

/-- What the table of math/bits for TrailingZeros64 holds. -/
def deB : List Nat := [0, 1, 56, 2, 57, 49, 28, 3, 61, 58, 42, 50, 38, 29, 17, 4, 62, 47, 59, 36, 45, 43, 51, 22, 53, 39, 33, 30, 24, 18, 12, 5, 63, 55, 48, 27, 60, 41, 37, 16, 46, 35, 44, 21, 52, 32, 23, 11, 54, 26, 40, 15, 34, 20, 31, 10, 25, 14, 19, 9, 13, 8, 7, 6]
def cellsB (l : List Nat) : Array Value := (l.map fun x => Value.int .u8 (Int.ofNat x)).toArray
/-- What the variables of the packages hold. -/
structure Glob (m : Mem) : Prop where
  col : ∃ r q rw es i j, Mem.get m 0 = .cells r #[.map (some q)] ∧ Mem.get m q = .map rw es ∧ aFindNow .bool (.bool true) es 0 = some (some (i, .agg #[.func (.func 139) #[] #[]])) ∧ aFindNow .bool (.bool false) es 0 = some (some (j, .agg #[.func (.func 140) #[] #[]]))
  deb : ∃ r, Mem.get m 2 = .cells r (cellsB deB)
theorem Glob.ext {m m' : Mem} (h : Glob m) (he : Ext m m') : Glob m' := by
  obtain ⟨⟨r, q, rw, es, i, j, h1, h2, h3, h4⟩, r2, h5⟩ := h
  refine ⟨⟨r, q, rw, es, i, j, he.cells h1, ?_, h3, h4⟩, r2, he.cells h5⟩
  rw [he.2 q (Mem.lt_of_live (by rw [h2]; rfl)), h2]
def colF (lead : Bool) : FuncId := if lead then 139 else 140
theorem tableM_bound {l : List Nat} {n : Nat} (h : ∀ k, ((sysM l).at k).1 < 2 ^ n) (j : Nat) : (tableM l).getD j 0 < 2 ^ n := reducedM_lt h 24 j

/-- Which rows give a row: the number, and whether there are such. -/
def whichM (l : List Nat) (row : Nat) : Nat × Nat := splitM (sysM l) 24 (row, 0)
/-- The error of 'which rows give a row'. -/
def whichE (l : List Int) (n row : Int) : Nat := if oneF l n row = 0 ∧ ¬ (whichM (nats l) row.toNat).1 = 0 then 6 else oneF l n row
theorem oneF_ok {l : List Int} {n row : Int} (h : oneF l n row = 0) : checkF l n = 0 ∧ 0 ≤ row ∧ row < 2 ^ n.toNat := by
  unfold oneF at h
  split at h
  · cases h
  · rename_i h1
    refine ⟨h, ?_⟩
    by_cases h2 : 0 ≤ row ∧ row < 2 ^ n.toNat
    · exact h2
    · exact absurd ⟨h, h2⟩ h1
theorem row_nat {row : Int} {N : Nat} (h : 0 ≤ row ∧ row < 2 ^ (Int.ofNat N).toNat) (hN : N ≤ 24) : ∃ r : Nat, row = Int.ofNat r ∧ r < 2 ^ 24 := by
  refine ⟨row.toNat, by simp; omega, ?_⟩
  have h1 : row < ((2 ^ N : Nat) : Int) := by exact_mod_cast h.2
  have h2 : 2 ^ N ≤ 2 ^ 24 := Nat.pow_le_pow_right (by omega) hN
  omega
def turnE (l : List Int) (n : Int) : Nat := if checkF l n = 0 then (if l.length = 0 ∨ 16 < l.length then 7 else 0) else checkF l n
def mulE (a : List Int) (m : Int) (b : List Int) (n : Int) : Nat := if checkF a m = 0 then (if checkF b n = 0 then (if Int.ofNat b.length ≠ m then 7 else 0) else checkF b n) else checkF a m
def oneM (n : Nat) : List Nat := (List.range n).map fun k => 2 ^ k
def identE (n : Int) : Nat := if n < 1 ∨ 16 < n then 3 else 0
def oneAt (n k : Nat) : List Nat := (List.range k).map (fun k => 2 ^ k) ++ List.replicate (n - k) 0
theorem oneAt_length {n k : Nat} (h : k ≤ n) : (oneAt n k).length = n := by simp [oneAt]; omega
theorem oneAt_set {n k : Nat} (h : k < n) : (oneAt n k).set k (2 ^ k) = oneAt n (k + 1) := by
  unfold oneAt
  rw [List.set_append_right _ _ (by simp), List.range_succ, List.map_append]
  obtain ⟨d, hd⟩ : ∃ d, n - k = d + 1 := ⟨n - k - 1, by omega⟩
  rw [hd, show n - (k + 1) = d by omega, List.replicate_succ]
  simp
theorem oneAt_last (n : Nat) : oneAt n n = oneM n := by simp [oneAt, oneM]
def mulM (a b : List Nat) : List Nat := a.map (total b)
def invOk (L : List Nat) (n : Nat) : Bool := (List.range n).all fun k => decide ((whichM L (2 ^ k)).1 = 0)
def invL (L : List Nat) (n : Nat) : List Nat := (List.range n).map fun k => (whichM L (2 ^ k)).2
def invE (l : List Int) (n : Int) : Nat := if checkF l n = 0 then (if Int.ofNat l.length ≠ n then 7 else if invOk (nats l) n.toNat then 0 else 6) else checkF l n
theorem sumU {x : Nat} (h : s1 x < 2 ^ 64) : (x >>> 1 &&& 6148914691236517205) + (x &&& 6148914691236517205) < 18446744073709551616 := h
theorem sumU2 {x : Nat} (h : s2 x < 2 ^ 64) : (x >>> 2 &&& 3689348814741910323) + (x &&& 3689348814741910323) < 18446744073709551616 := h

/-- From one sum to the next one a single row comes or goes. -/
def rowG (L : List Nat) (r0 : Nat) : Nat → Nat
  | 0 => r0
  | i + 1 => rowG L r0 i ^^^ L.getD (tzF 64 (i + 1)) 0
theorem rowG_lt {L : List Nat} {r0 n : Nat} (h0 : r0 < 2 ^ n) (hL : ∀ x ∈ L, x < 2 ^ n) : ∀ i, rowG L r0 i < 2 ^ n
  | 0 => h0
  | i + 1 => by
    rw [rowG]
    refine Nat.xor_lt_two_pow (rowG_lt h0 hL i) ?_
    by_cases hj : tzF 64 (i + 1) < L.length
    · exact hL _ (getD_mem hj)
    · rw [getD_out (by omega)]; exact Nat.two_pow_pos n
theorem tz_lt {i k : Nat} (h0 : i ≠ 0) (h : i < 2 ^ k) (hk : k ≤ 64) : tzF 64 i < k := by
  have h64 : i < 2 ^ 64 := Nat.lt_of_lt_of_le h (Nat.pow_le_pow_right (by omega) hk)
  obtain ⟨h1, h2⟩ := low_bit 64 i h0 h64
  have h3 : 2 ^ tzF 64 i ≤ i := by rw [← h1]; exact Nat.and_le_left
  exact (Nat.pow_lt_pow_iff_right (by omega)).1 (Nat.lt_of_le_of_lt h3 h)
def H109 : Nat → List (Nat × Nat) := fun id => if id = 4 then [(0, 5), (1, 5)] else []
theorem popc_bits : ∀ (n x : Nat), x < 2 ^ n → popc x ≤ n
  | 0, x, h => by obtain rfl : x = 0 := by omega
                  simp [popc]
  | n + 1, x, h => by
    have h1 := popc_double (x / 2) (x % 2) (by omega)
    rw [show x % 2 + 2 * (x / 2) = x by omega] at h1
    have := popc_bits n (x / 2) (by rw [Nat.pow_succ] at h; omega)
    omega
theorem redM_length (l : List Nat) : (redM l).length ≤ 24 := by
  unfold redM fallingM
  rw [List.length_reverse]
  have := List.length_filter_le (fun x => decide (x ≠ 0)) (tableM l)
  rw [tableM_length] at this; exact this
theorem redM_lt {l : List Nat} {n : Nat} (hn : n ≤ 24) (hl : ∀ x ∈ l, x < 2 ^ n) : ∀ x ∈ redM l, x < 2 ^ n := by
  have h := redM_rref (l := l) fun x hx => Nat.lt_of_lt_of_le (hl x hx) (Nat.pow_le_pow_right (by omega) hn)
  exact fun x hx => ((h.2 x).1 (.mem hx)).lt hl
/-- How many members, of the first so many, have each weight. -/
def cntG (L : List Nat) (n : Nat) : Nat → List Nat
  | 0 => List.replicate (n + 1) 0
  | i + 1 => (cntG L n i).set (popc (rowG L 0 i)) ((cntG L n i).getD (popc (rowG L 0 i)) 0 + 1)
theorem cntG_length (L : List Nat) (n : Nat) : ∀ i, (cntG L n i).length = n + 1
  | 0 => by simp [cntG]
  | i + 1 => by rw [cntG, List.length_set, cntG_length L n i]
theorem cntG_le (L : List Nat) (n : Nat) : ∀ i k, (cntG L n i).getD k 0 ≤ i
  | 0, k => by
    simp only [cntG, List.getD_eq_getElem?_getD, List.getElem?_replicate]
    split <;> simp
  | i + 1, k => by
    rw [cntG]
    have h1 := cntG_le L n i k
    have h2 := cntG_le L n i (popc (rowG L 0 i))
    rw [List.getD_eq_getElem?_getD, List.getElem?_set]
    split
    · split
      · simp only [Option.getD_some]; omega
      · simp
    · rw [← List.getD_eq_getElem?_getD]; omega
def weightsM (l : List Nat) (n : Nat) : List Nat := cntG (redM l) n (2 ^ (redM l).length)
def H28 : Nat → List (Nat × Nat) := fun id => if id = 7 then [(0, 4)] else []
/-- What is lighter, or as light and less. -/
def lighter (x b : Nat) : Nat := if popc x < popc b then x else if popc x = popc b ∧ x < b then x else b
def cosetG (L : List Nat) (row : Nat) : Nat → Nat
  | 0 => row
  | i + 1 => lighter (rowG L row i) (cosetG L row i)
theorem cosetG_lt {L : List Nat} {row n : Nat} (h0 : row < 2 ^ n) (hL : ∀ x ∈ L, x < 2 ^ n) : ∀ i, cosetG L row i < 2 ^ n
  | 0 => h0
  | i + 1 => by
    rw [cosetG, lighter]
    split
    · exact rowG_lt h0 hL i
    · split
      · exact rowG_lt h0 hL i
      · exact cosetG_lt h0 hL i
def cosetM (l : List Nat) (row : Nat) : Nat := cosetG (redM l) row (2 ^ (redM l).length)

def H29 : Nat → List (Nat × Nat) := fun id => if id = 7 then [(3, 0)] else []
def preM (F : Nat → List Int) : Nat → List Int
  | 0 => []
  | i + 1 => preM F i ++ F i
theorem preM_mono {F : Nat → List Int} {i n : Nat} (h : i ≤ n) : (preM F i).length ≤ (preM F n).length := by
  induction n with
  | zero => obtain rfl : i = 0 := by omega
            exact Nat.le_refl _
  | succ n ih =>
    by_cases e : i = n + 1
    · subst e; exact Nat.le_refl _
    · have := ih (by omega)
      rw [preM, List.length_append]; omega
theorem fall_len : ∀ {r : List Nat} {n : Nat}, Fall r → (∀ a ∈ r, a ≠ 0 ∧ blen a ≤ n) → r.length ≤ n
  | [], n, _, _ => Nat.zero_le _
  | a :: r, n, hf, h => by
    have ha := h a (by simp)
    have hp := blen_pos_iff.2 ha.1
    have := fall_len (r := r) (n := blen a - 1) (List.pairwise_cons.1 hf).2 fun b hb => ⟨(h b (by simp [hb])).1, by have := hf.tail_lt b hb; omega⟩
    rw [List.length_cons]; omega
/-- Reduced rows are not more than columns. -/
theorem redM_len {l : List Nat} {n : Nat} (hn : n ≤ 24) (hl : ∀ x ∈ l, x < 2 ^ n) : (redM l).length ≤ n := by
  have h := redM_rref (l := l) fun x hx => Nat.lt_of_lt_of_le (hl x hx) (Nat.pow_le_pow_right (by omega) hn)
  exact fall_len h.1.fall fun a ha => ⟨h.1.ne a ha, blen_le_of_lt (redM_lt hn hl a ha)⟩
theorem fillS2 {q1 q2 : Option Addr} {n1 n2 c1 c2 : Nat} : Instr.fill (fun i => some (i * 1, 1)) (if 2 * 1 = 0 then #[] else (Array.range (2 * 1)).map ((Value.slice none 0 0).cells[· % (Value.slice none 0 0).cells.size]!)) [(0, .slice q1 n1 c1), (1, .slice q2 n2 c2)] = some #[.slice q1 n1 c1, .slice q2 n2 c2] := by kernel_rfl

theorem TA30 : (Value.tuple #[nv (ifOk (whichE (ofs [3, 5, 6]) 4 6) (whichM (nats (ofs [3, 5, 6])) (6 : Int).toNat).2 0), nv (whichE (ofs [3, 5, 6]) 4 6)]) = .tuple #[nv 3, nv 0] := by
  rw [show ifOk (whichE (ofs [3, 5, 6]) 4 6) (whichM (nats (ofs [3, 5, 6])) (6 : Int).toNat).2 0 = 3 by decide +kernel, show whichE (ofs [3, 5, 6]) 4 6 = 0 by decide +kernel]
theorem TA66 : (Value.tuple #[nv (ifOk (oneF (ofs [3, 5, 6]) 3 7) (cosetM (nats (ofs [3, 5, 6])) (7 : Int).toNat) 0), nv (oneF (ofs [3, 5, 6]) 3 7)]) = .tuple #[nv 1, nv 0] := by
  rw [show ifOk (oneF (ofs [3, 5, 6]) 3 7) (cosetM (nats (ofs [3, 5, 6])) (7 : Int).toNat) 0 = 1 by decide +kernel, show oneF (ofs [3, 5, 6]) 3 7 = 0 by decide +kernel]
theorem TA25 {w : Value} : (Value.tuple #[w, nv (checkF (ofs [3, 5, 6]) 4)]) = .tuple #[w, nv 0] := by
  rw [show checkF (ofs [3, 5, 6]) 4 = 0 by decide +kernel]
theorem TA35 {w : Value} : (Value.tuple #[w, nv (checkF (ofs [3, 5, 6]) 4)]) = .tuple #[w, nv 0] := by
  rw [show checkF (ofs [3, 5, 6]) 4 = 0 by decide +kernel]
theorem TA40 {w : Value} : (Value.tuple #[w, nv (checkF (ofs [3, 5, 6]) 4)]) = .tuple #[w, nv 0] := by
  rw [show checkF (ofs [3, 5, 6]) 4 = 0 by decide +kernel]
theorem TA51 {w : Value} : (Value.tuple #[w, nv (mulE (ofs [1, 3]) 2 (ofs [5, 6]) 3)]) = .tuple #[w, nv 0] := by
  rw [show mulE (ofs [1, 3]) 2 (ofs [5, 6]) 3 = 0 by decide +kernel]
theorem TA56 {w : Value} : (Value.tuple #[w, nv (turnE (ofs [3, 6]) 3)]) = .tuple #[w, nv 0] := by
  rw [show turnE (ofs [3, 6]) 3 = 0 by decide +kernel]
theorem TA61 {w : Value} : (Value.tuple #[w, nv (invE (ofs [3, 2, 4]) 3)]) = .tuple #[w, nv 0] := by
  rw [show invE (ofs [3, 2, 4]) 3 = 0 by decide +kernel]
theorem TA72 {w : Value} : (Value.tuple #[w, nv (bothF (ofs [3, 4]) (ofs [5, 2]) 3)]) = .tuple #[w, nv 0] := by
  rw [show bothF (ofs [3, 4]) (ofs [5, 2]) 3 = 0 by decide +kernel]

def atV : Option Nat → Value
  | none => .int .i64 (-1)
  | some a => nv a
theorem getD_lt {l : List Nat} {n : Nat} (h : ∀ x ∈ l, x < 2 ^ n) (i : Nat) : l.getD i 0 < 2 ^ n := by
  by_cases hi : i < l.length
  · exact h _ (getD_mem hi)
  · rw [getD_out (by omega)]; exact Nat.two_pow_pos n
theorem lead_nv {x : Nat} (h : x ≠ 0) : Value.int .i64 ((blen x : Int) - 1) = nv (blen x - 1) := by
  have := blen_pos_iff.2 h
  congr 1; simp; omega
theorem and_zero (x k : Nat) : (x >>> k &&& 1 = 0) = (x.testBit k = false) := by
  have h := and_one x k
  have h1 : x >>> k &&& 1 ≤ 1 := Nat.and_le_right
  apply propext
  constructor
  · intro e
    cases hb : x.testBit k with
    | false => rfl
    | true => have := h.symm ▸ hb; omega
  · intro e
    have : ¬ (x >>> k &&& 1 = 1) := by rw [h, e]; simp
    omega
/-- What a matrix makes of a row. -/
def imgP (l : List Nat) (x : Nat) : Nat → Nat
  | 0 => 0
  | i + 1 => imgP l x i ||| (parity (l.getD i 0 &&& x) <<< i)
theorem imgP_lt (l : List Nat) (x : Nat) : ∀ i, imgP l x i < 2 ^ i
  | 0 => by simp [imgP]
  | i + 1 => by
    rw [imgP]
    refine Nat.or_lt_two_pow (Nat.lt_of_lt_of_le (imgP_lt l x i) (Nat.pow_le_pow_right (by omega) (by omega))) ?_
    have := parity_lt (l.getD i 0 &&& x)
    rw [Nat.shiftLeft_eq]
    have := Nat.mul_le_mul_right (2 ^ i) (show parity (l.getD i 0 &&& x) ≤ 1 by omega)
    have := Nat.pow_lt_pow_right (a := 2) (by omega) (show i < i + 1 by omega)
    omega
theorem lt62 {L : List Nat} {n : Nat} (hn : n ≤ 24) (hL : ∀ x ∈ L, x < 2 ^ n) : ∀ x ∈ L, x < 2 ^ 62 := fun x hx => Nat.lt_of_lt_of_le (hL x hx) (Nat.pow_le_pow_right (by omega) (by omega))

/-- What is changed lies between two places. -/
def Mid (N B : Nat) (m m' : Mem) : Prop := m'.size = m.size ∧ ∀ b, b < N ∨ B ≤ b → Mem.get m' b = Mem.get m b
theorem Mid.ext {N B : Nat} {m0 m m' : Mem} (h : Mid N B m m') (he : Ext m0 m) (hN : m0.size ≤ N) : Ext m0 m' := ⟨by rw [h.1]; exact he.1, fun b hb => (h.2 b (.inl (by omega))).trans (he.2 b hb)⟩
theorem Mid.own {N N' B : Nat} {m m' : Mem} {v : Value} {l : List Int} (h : Mid N B m m') (ho : OwnF N' m v l) (hB : B ≤ N') : OwnF N' m' v l :=
  ho.up fun b hb _ => h.2 b (.inr (by omega))
theorem ifOk_len {e : Nat} {l : List Nat} (h : l.length ≤ 24) : (ifOk e l []).length < 1000 := by
  unfold ifOk; split
  · omega
  · exact Nat.zero_lt_succ 999
theorem ifOk_len' {a : List Int} {n : Int} {l : List Nat} (h : checkF a n = 0 → l.length ≤ 24) : (ifOk (checkF a n) l []).length < 1000 := by
  unfold ifOk; split
  · have := h (by assumption); omega
  · exact Nat.zero_lt_succ 999
theorem checkF_le {l : List Int} {n : Int} (h : checkF l n = 0) : n.toNat ≤ 16 := by
  obtain ⟨N, L, rfl, rfl, h1, h2, _⟩ := checkF_nat h; simpa using h2

theorem row_lt {row : Int} {N : Nat} (h : 0 ≤ row ∧ row < 2 ^ N) : ∃ r : Nat, row = Int.ofNat r ∧ r < 2 ^ N := by
  refine ⟨row.toNat, by simp; omega, ?_⟩
  have h1 : row < ((2 ^ N : Nat) : Int) := by exact_mod_cast h.2
  omega
theorem lt62' {x n : Nat} (hx : x < 2 ^ n) (hn : n ≤ 62) : x < 2 ^ 62 := Nat.lt_of_lt_of_le hx (Nat.pow_le_pow_right (by omega) hn)
theorem sol_some {o : Option Nat} {w : Nat × Nat} (h : o = if w.1 = 0 then some w.2 else none) : o.isSome = decide (w.1 = 0) ∧ o.getD 0 = if w.1 = 0 then w.2 else 0 := by
  subst h; by_cases e : w.1 = 0 <;> simp [e]
theorem bothF_ok {l r : List Int} {n : Int} (h0 : bothF l r n = 0) : checkF l n = 0 ∧ checkF r n = 0 := by
  unfold bothF at h0; split at h0
  · exact ⟨by assumption, h0⟩
  · exact absurd h0 (by assumption)
theorem take_eq {l r : List Nat} {i : Nat} (hl : l.length = r.length) (h : l.take i = r.take i) (hi : i < l.length) : l.take (i + 1) = r.take (i + 1) ↔ l[i] = r[i]'(by omega) := by
  rw [List.take_succ_eq_append_getElem hi, List.take_succ_eq_append_getElem (by omega : i < r.length), h]
  constructor
  · intro e; simpa using List.append_cancel_left e
  · intro e; rw [e]

theorem ifOk_lenB {l r : List Int} {n : Int} {L : List Nat} (h : n.toNat ≤ 24 → L.length ≤ n.toNat) : (ifOk (bothF l r n) L []).length < 1000 := by
  unfold ifOk; split
  · have h2 := checkF_le (bothF_ok (by assumption)).1
    have := h (by omega); omega
  · exact Nat.zero_lt_succ 999

theorem Mid.low {N B : Nat} {m m' : Mem} (h : Mid N B m m') : Low N m m' := ⟨by rw [h.1]; exact Nat.le_refl _, fun b hb => h.2 b (.inl hb)⟩
theorem ifOk_lenG {e : Nat} {L : List Nat} (h : e = 0 → L.length ≤ 24) : (ifOk e L []).length < 1000 := by
  unfold ifOk; split
  · have := h (by assumption); omega
  · exact Nat.zero_lt_succ 999
theorem checkF_len {l : List Int} {n : Int} (h : checkF l n = 0) : n.toNat ≤ 16 ∧ (nats l).length ≤ 24 := by
  obtain ⟨N, L, rfl, rfl, h1, h2, h3, h4⟩ := checkF_nat h
  exact ⟨by simpa using h2, by rw [nats_ofs]; exact h3⟩
theorem mulE_len {l r : List Int} {n k : Int} (h : mulE l n r k = 0) : (mulM (nats l) (nats r)).length ≤ 24 := by
  unfold mulE at h
  split at h
  · rw [mulM, List.length_map]; exact (checkF_len (by assumption)).2
  · exact absurd h (by assumption)
theorem invE_len {l : List Int} {n : Int} (h : invE l n = 0) : (invL (nats l) n.toNat).length ≤ 24 := by
  unfold invE at h
  split at h
  · rw [invL, List.length_map, List.length_range]; have := (checkF_len (by assumption)).1; omega
  · exact absurd h (by assumption)
theorem identE_len {n : Int} (h : identE n = 0) : (oneM n.toNat).length ≤ 24 := by
  unfold identE at h
  split at h
  · cases h
  · rw [oneM, List.length_map, List.length_range]; omega

def oddB (x : Nat) : Bool := decide (parity x = 1)
/-- A slice of bytes that lies from N0 to N. -/
def BytesIn (N0 N : Nat) (m : Mem) (v : Value) (l : List Int) : Prop :=
  (l = [] ∧ ∃ q c, v = .slice q 0 c) ∨ ∃ b o cap r c, v = .slice (some ⟨b, o, some 1⟩) l.length cap ∧ N0 ≤ b ∧ b < N ∧ Mem.get m b = .cells r c ∧ ∀ i x, l[i]? = some x → c[o + i * 1]? = some (.int .u8 x)
theorem BytesIn.keep {N0 N : Nat} {m m' : Mem} {v : Value} {l : List Int} (h : BytesIn N0 N m v l) (hh : ∀ c, N0 ≤ c → c < N → Mem.get m' c = Mem.get m c) : BytesIn N0 N m' v l := by
  rcases h with h | ⟨b, o, cap, r, c, h1, h2, h3, h4, h5⟩
  · exact .inl h
  · exact .inr ⟨b, o, cap, r, c, h1, h2, h3, by rw [hh b h2 h3]; exact h4, h5⟩
/-- A store of bytes, that has been asked no more than k times: it lies from N0 to N. -/
def StoreAt (N0 N : Nat) (m : Mem) (b k : Nat) : Prop :=
  N ≤ b + 1 ∧ b < N ∧ N ≤ m.size ∧ ∃ bs nx st l, Mem.get m b = .cells true #[bs, nv nx, .int .u32 (Int.ofNat st)] ∧ nx ≤ k ∧ st < 4294967296 ∧ BytesIn N0 b m bs l ∧ l.length ≤ 300
theorem StoreAt.keep {N0 N : Nat} {m m' : Mem} {b k : Nat} (h : StoreAt N0 N m b k) (hN : N0 ≤ b) (hs : m.size ≤ m'.size) (hh : ∀ c, N0 ≤ c → c < N → Mem.get m' c = Mem.get m c) : StoreAt N0 N m' b k := by
  obtain ⟨h1, h2, h3, bs, nx, st, l, g1, g2, g3, g4, g5⟩ := h
  exact ⟨h1, h2, by omega, bs, nx, st, l, by rw [hh b (by omega) h2]; exact g1, g2, g3, g4.keep fun c a1 a2 => hh c a1 (by omega), g5⟩
theorem min300 {a : Nat} : aFold aMin2 (nv a) [nv 300] = some (nv (min a 300)) := by
  simp only [aFold, aMin2, if_true]
  congr 2
  split <;> simp at * <;> omega
/-- A slice of bytes that may be read. -/
def BytesAt (m : Mem) (v : Value) (l : List Int) : Prop :=
  (l = [] ∧ (v = .slice none 0 0 ∨ ∃ b o, v = .slice (some ⟨b, o, none⟩) 0 0)) ∨
  ∃ b o cap r c, v = .slice (some ⟨b, o, some 1⟩) l.length cap ∧ l.length ≤ cap ∧ Mem.get m b = .cells r c ∧ ∀ i x, l[i]? = some x → c[o + i]? = some (.int .u8 x)
theorem BytesAt.ext {m m' : Mem} {v : Value} {l : List Int} (h : BytesAt m v l) (he : Ext m m') : BytesAt m' v l := by
  rcases h with h | ⟨b, o, cap, r, c, h1, h2, h3, h4⟩
  · exact .inl h
  · exact .inr ⟨b, o, cap, r, c, h1, h2, he.cells h3, h4⟩
theorem BytesAt.len {m : Mem} {v : Value} {l : List Int} (h : BytesAt m v l) : ∃ q cap, v = .slice q l.length cap := by
  rcases h with ⟨rfl, rfl | ⟨b, o, rfl⟩⟩ | ⟨b, o, cap, r, c, rfl, _, _⟩
  · exact ⟨_, _, rfl⟩
  · exact ⟨_, _, rfl⟩
  · exact ⟨_, _, rfl⟩
theorem BytesIn.len {N0 N : Nat} {m : Mem} {v : Value} {l : List Int} (h : BytesIn N0 N m v l) : ∃ q cap, v = .slice q l.length cap := by
  rcases h with ⟨rfl, q, c, rfl⟩ | ⟨b, o, cap, r, c, rfl, _⟩
  · exact ⟨_, _, rfl⟩
  · exact ⟨_, _, rfl⟩
def cellsU (l : List Int) : Array Value := (l.map (Value.int .u8)).toArray
theorem cellsU_get {l : List Int} {i : Nat} : (cellsU l)[i]? = (l[i]?).map (Value.int .u8) := by simp [cellsU]
theorem cellsU_size (l : List Int) : (cellsU l).size = l.length := by simp [cellsU]
theorem cellsU_one (l : List Int) : (cellsU l).all Value.oneCell' = true := by
  rw [Array.all_eq_true]
  intro i hi
  have : (cellsU l)[i]? = some (cellsU l)[i] := Array.getElem?_eq_getElem hi
  rw [cellsU_get] at this
  obtain ⟨x, _, hx⟩ := Option.map_eq_some_iff.1 this
  rw [← hx]; rfl
theorem first_bytes {m : Mem} {x : Value} {r : List Int} (h : BytesAt m x r) : aFirst m 1 r.length x = some (cellsU r) := by
  unfold aFirst
  by_cases h0 : r.length = 0
  · rw [if_pos h0]
    have : r = [] := List.length_eq_zero_iff.1 h0
    subst this; rfl
  · rw [if_neg h0]
    rcases h with ⟨rfl, _⟩ | ⟨b, o, cap, rw_, c, rfl, _, h2, h3⟩
    · exact absurd rfl h0
    have hlast := h3 (r.length - 1) _ (List.getElem?_eq_getElem (by omega))
    have hsz : o + (r.length - 1) < c.size := (Array.getElem?_eq_some_iff.1 hlast).1
    simp only [h2]
    rw [if_pos (by omega)]
    congr 1
    apply Array.ext_getElem?
    intro i
    rw [cellsU_get, Array.getElem?_extract]
    by_cases hi : i < r.length
    · rw [if_pos (by omega), List.getElem?_eq_getElem hi]
      exact h3 i _ (List.getElem?_eq_getElem hi)
    · rw [if_neg (by omega), List.getElem?_eq_none (by omega)]; rfl
theorem StoreAt.low {N0 N M : Nat} {m m' : Mem} {b k : Nat} (h : StoreAt N0 N m b k) (hN0 : N0 ≤ b) (hl : Low M m m') (hM : N ≤ M) : StoreAt N0 N m' b k := h.keep hN0 hl.1 fun c _ hc => hl.2 c (by omega)
theorem StoreAt.le {N0 N : Nat} {m : Mem} {b k k' : Nat} (h : StoreAt N0 N m b k) (hk : k ≤ k') : StoreAt N0 N m b k' := by
  obtain ⟨h1, h2, h3, bs, nx, st, l, g1, g2, g3⟩ := h
  exact ⟨h1, h2, h3, bs, nx, st, l, g1, by omega, g3⟩
def H32 : Nat → List (Nat × Nat) := fun id => if id = 6 then [(6, 12), (10, 0)] else []
/-- Rows that are right. -/
structure Right (L : List Nat) (n : Nat) : Prop where
  n1 : 1 ≤ n
  n2 : n ≤ 16
  len : L.length ≤ 24
  lt : ∀ x ∈ L, x < 2 ^ n
theorem Right.n24 {L : List Nat} {n : Nat} (h : Right L n) : n ≤ 24 := by have := h.n2; omega
theorem Right.big {L : List Nat} {n : Nat} (h : Right L n) : (ofs L).length < 4611686018427387904 := by rw [ofs_length]; have := h.len; omega
theorem Right.check {L : List Nat} {n : Nat} (h : Right L n) : checkF (ofs L) (Int.ofNat n) = 0 := by
  obtain ⟨h1, h2, h3, h4⟩ := h
  unfold checkF
  rw [if_neg (by simp; omega), if_neg (by rw [ofs_length]; omega), if_pos]
  rw [List.all_eq_true]
  intro x hx
  obtain ⟨y, hy, rfl⟩ := List.mem_map.1 hx
  have := h4 y hy
  have e : ((2 ^ n : Nat) : Int) = 2 ^ n := by simp
  simp; omega
theorem Right.one {L : List Nat} {n x : Nat} (h : Right L n) (hx : x < 2 ^ n) : oneF (ofs L) (Int.ofNat n) (Int.ofNat x) = 0 := by
  unfold oneF
  rw [if_neg, h.check]
  rintro ⟨_, hn⟩
  apply hn
  have e : ((2 ^ n : Nat) : Int) = 2 ^ n := by simp
  simp; omega
theorem Right.both {L R : List Nat} {n : Nat} (h : Right L n) (h' : Right R n) : bothF (ofs L) (ofs R) (Int.ofNat n) = 0 := by
  unfold bothF; rw [if_pos h.check, h'.check]
theorem Right.red {L : List Nat} {n : Nat} (h : Right L n) : Right (redM L) n :=
  ⟨h.n1, h.n2, redM_length L, redM_lt h.n24 h.lt⟩
theorem Ext.lowx {m0 m m' : Mem} {b : Nat} (h : Ext m0 m) (hx : LowX m.size b m m') (hb : m0.size ≤ b) : Ext m0 m' :=
  ⟨Nat.le_trans h.1 hx.1, fun c hc => (hx.2 c (by have := h.1; omega) (by omega)).trans (h.2 c hc)⟩
theorem Ext.only {m0 m m' : Mem} {b : Nat} (h : Ext m0 m) (hx : Only b m m') (hb : m0.size ≤ b) : Ext m0 m' := h.lowx hx.x hb
theorem OwnF.lowx {N b : Nat} {m m' : Mem} {v : Value} {l : List Int} (h : OwnF N m v l) (hx : LowX m.size b m m') (hb : b < N) : OwnF N m' v l := h.up fun c h1 h2 => hx.2 c h2 (by omega)
theorem StoreAt.ext {N0 N : Nat} {m m' : Mem} {b k : Nat} (h : StoreAt N0 N m b k) (hN0 : N0 ≤ b) (he : Ext m m') : StoreAt N0 N m' b k := h.keep hN0 he.1 fun c _ hc => he.2 c (by have := h.2.2.1; omega)
theorem StoreAt.lowx {N0 N : Nat} {m m' : Mem} {b k c : Nat} (h : StoreAt N0 N m b k) (hN0 : N0 ≤ b) (hx : LowX m.size c m m') (hc : c < N0 ∨ N ≤ c) : StoreAt N0 N m' b k :=
  h.keep hN0 hx.1 fun d h1 h2 => hx.2 d (by have := h.2.2.1; omega) (by omega)
theorem StoreAt.only {N0 N : Nat} {m m' : Mem} {b k c : Nat} (h : StoreAt N0 N m b k) (hN0 : N0 ≤ b) (hx : Only c m m') (hc : c < N0 ∨ N ≤ c) : StoreAt N0 N m' b k := h.lowx hN0 hx.x hc
theorem StoreAt.lt {N0 N : Nat} {m : Mem} {b k : Nat} (h : StoreAt N0 N m b k) : b < N ∧ N ≤ m.size := ⟨h.2.1, h.2.2.1⟩
theorem made_right {L : List Nat} {n k : Nat} (h1 : 1 ≤ n) (h2 : n ≤ 16) (hk : k ≤ 24) (hl : L.length ≤ k) (hx : ∀ x ∈ L, x < 2 ^ n) : Right L n := ⟨h1, h2, by omega, hx⟩
theorem Ext.lowx' {m0 m m' : Mem} {N b : Nat} (h : Ext m0 m) (hx : LowX N b m m') (hN : m0.size ≤ N) (hb : m0.size ≤ b) : Ext m0 m' :=
  ⟨Nat.le_trans h.1 hx.1, fun c hc => (hx.2 c (by omega) (by omega)).trans (h.2 c hc)⟩
theorem popc_pos' {x : Nat} (h : popc x = 0) : x = 0 := by
  rcases Nat.eq_zero_or_pos x with h0 | h0
  · exact h0
  · exfalso
    have : ∀ k x, x < 2 ^ k → 0 < x → 0 < popc x := by
      intro k
      induction k with
      | zero => intro x h1 h2; simp at h1; omega
      | succ k ih =>
        intro x h1 h2
        rw [popc_pos h2]
        by_cases hp : x % 2 = 1
        · omega
        · have := ih (x / 2) (by rw [Nat.pow_succ] at h1; omega) (by omega)
          omega
    have := this x x Nat.lt_two_pow_self h0
    omega
theorem cosetM_lt {L : List Nat} {n x : Nat} (h : Right L n) (hx : x < 2 ^ n) : cosetM L x < 2 ^ n := cosetG_lt hx (redM_lt h.n24 h.lt) _

def chooseI (n : Nat) : Nat → Nat
  | 0 => 1
  | i + 1 => chooseI n i * (n - i) / (i + 1)
def chooseN (n k : Nat) : Nat := if n < k then 0 else chooseI n k
theorem choose_all : ∀ n : Fin 11, ∀ i : Fin 12, chooseI n.val i.val ≤ 1000 := by decide +kernel
theorem chooseI_le {n i : Nat} (hn : n ≤ 10) (hi : i ≤ 11) : chooseI n i ≤ 1000 := choose_all ⟨n, by omega⟩ ⟨i, by omega⟩
theorem chooseN_le {n i : Nat} (hn : n ≤ 10) (hi : i ≤ 11) : chooseN n i ≤ 1000 := by
  unfold chooseN; split
  · omega
  · exact chooseI_le hn hi

/-- The sum that the law adds up, so far. -/
def krawI (n j k : Nat) : Nat → Int
  | 0 => 0
  | i + 1 => krawI n j k i + (if i % 2 = 1 then -((chooseN k i * chooseN (n - k) (j - i) : Nat) : Int) else ((chooseN k i * chooseN (n - k) (j - i) : Nat) : Int))
theorem negN {a : Nat} (h : a < 9223372036854775808) : aUn .neg (nv a) = some (.int .i64 (-(a : Int))) := by
  show aInt .sub .i64 0 (Int.ofNat a) = _
  rw [aInt_subI (by simp; omega)]
  congr 2
  simp
theorem aInt_mulI {a b : Int} (h : -9223372036854775808 ≤ a * b ∧ a * b ≤ 9223372036854775807) : aInt .mul .i64 a b = some (.int .i64 (a * b)) := by
  simp only [aInt]; rw [IntWalk.i64_in _ h]
theorem mul_bound {a : Nat} {x : Int} (ha : a ≤ 1024) (h1 : -100000 ≤ x) (h2 : x ≤ 100000) : -102400000 ≤ (a : Int) * x ∧ (a : Int) * x ≤ 102400000 := by
  have e1 := Int.mul_le_mul_of_nonneg_left h2 (Int.natCast_nonneg a)
  have e2 := Int.mul_le_mul_of_nonneg_left h1 (Int.natCast_nonneg a)
  omega
theorem popc_zero_iff {x : Nat} : popc x = 0 ↔ x = 0 := by
  constructor
  · intro h
    rcases Nat.eq_zero_or_pos x with h0 | h0
    · exact h0
    · exfalso
      have : ∀ k x, x < 2 ^ k → 0 < x → 0 < popc x := by
        intro k
        induction k with
        | zero => intro x h1 h2; simp at h1; omega
        | succ k ih =>
          intro x h1 h2
          rw [popc_pos h2]
          by_cases hp : x % 2 = 1
          · omega
          · have := ih (x / 2) (by rw [Nat.pow_succ] at h1; omega) (by omega)
            omega
      have := this x x Nat.lt_two_pow_self h0
      omega
  · rintro rfl; rfl
theorem set_lt {M : List Nat} {n i x : Nat} (h : ∀ y ∈ M, y < 2 ^ n) (hx : x < 2 ^ n) : ∀ y ∈ M.set i x, y < 2 ^ n := fun y hy => by
  rcases List.mem_or_eq_of_mem_set hy with hy | rfl
  · exact h y hy
  · exact hx
theorem lead_val {a : Nat} (h : 0 < a) : (Value.int .i64 ((a : Int) - ((0 : Nat) : Int) - (1 : Int))) = nv (a - 1) := by
  congr 1; simp; omega
theorem or_lt {B i : Nat} (hB : B < 2 ^ i) : B ||| 2 ^ i < 2 ^ (i + 1) := Nat.or_lt_two_pow (by rw [Nat.pow_succ]; omega) (Nat.pow_lt_pow_right (by omega) (by omega))

theorem cellsN_append (l : List Nat) (x : Nat) : cellsN l ++ cellsI [Int.ofNat x] = cellsN (l ++ [x]) := by simp [cellsN, cellsI]
theorem eqlT' {a b : Nat} (h : a = b) : aInt .eql .i64 (Int.ofNat a) (Int.ofNat b) = some (.bool true) := by rw [aInt_eql, decide_eq_true h]

end Go.AM

/-! ### P1 -/
namespace Go.AM
open Go.Proofs
set_option maxRecDepth 100000
set_option linter.unusedVariables false
set_option linter.unusedSimpArgs false
theorem okf22 : okF Tryd.prog H0 22 26 = true := by kernel_rfl
theorem spec_Equal {m : Mem} {a b : Value} {l r : List Int} (ha : IntsAt m a l) (hb : IntsAt m b r) (hl : l.length < 4611686018427387904) : ACalls Tryd.prog 22 #[a, b] m (.bool (decide (l = r))) m := by
  suffices h : ∃ v m', ACalls Tryd.prog 22 #[a, b] m v m' ∧ (v = .bool (decide (l = r)) ∧ m' = m) by
    obtain ⟨v, m', h, rfl, rfl⟩ := h; exact h
  obtain ⟨qa, ca, rfl⟩ := ha.len
  obtain ⟨qb, cb, rfl⟩ := hb.len
  refine wpF (args := [_, _]) mixed okf22 (fn := Tryd.f22) rfl rfl rfl (by simp) ?_
  refine cSeq (cRegion ?_)
  refine sAs (v := .bool _) rfl ?_
  refine sNil (kSeqN (cSeq ?_))
  refine cSeq (cRegion ?_)
  refine sMv (v := .slice _ _ _) rfl ?_
  refine sLen T25 rfl ?_
  refine sMv (v := .slice _ _ _) rfl ?_
  refine sLen T25 rfl ?_
  refine sBin rfl rfl aInt_neq ?_
  refine sNil (kSeqN ?_)
  refine cCond rfl (fun hc => ?_) (fun hc => ?_)
  · refine cSeq (cRegion ?_)
    refine sAs (v := .bool _) rfl ?_
    refine sNil (kSeqN (cRet ?_))
    refine ⟨.inr rfl, _, rfl, ?_, rfl⟩
    have : l ≠ r := fun e => hc (by rw [e])
    simp [oneOf, this, updO]
  have hlen : l.length = r.length := Decidable.not_not.1 hc
  refine cSkip (kSeqN (cSeq ?_))
  refine cSeq (cRegion ?_)
  refine sMv (v := .slice _ _ _) rfl ?_
  refine sLen T25 rfl ?_
  refine sMv (v := nv _) rfl ?_
  refine sNil (kSeqN (cBlock ?_))
  refine wpC_loop (fun k ρ m' => ∃ i, k = l.length - i ∧ i ≤ l.length ∧ m' = m ∧ (∀ j, j < i → l[j]? = r[j]?) ∧ Has ρ [(0, .slice qa l.length ca), (1, .slice qb r.length cb), (12, nv l.length), (13, nv i)]) ⟨0, rfl, by omega, rfl, by omega, rfl, rfl, rfl, rfl, trivial⟩ ?_
  rintro k ρ _ ⟨i, rfl, hi, rfl, hj, hh⟩
  rw [hh.env]; clear hh
  refine cSeq (cRegion ?_)
  refine sBin rfl rfl aInt_lss ?_
  refine sNil (kSeqN (cSeq ?_))
  refine cCond rfl (fun hc => ?_) (fun hc => ?_)
  rotate_left
  · have hil : i = l.length := by omega
    subst hil
    have he : l = r := by
      apply List.ext_getElem? fun j => ?_
      by_cases h : j < l.length
      · exact hj j h
      · rw [List.getElem?_eq_none (by omega), List.getElem?_eq_none (by omega)]
    refine cExit (kSeqE (kSeqE (kBlkS (kSeqN (cSeq (cRegion ?_))))))
    refine sAs (v := .bool _) rfl ?_
    refine sNil (kSeqN (cRet ?_))
    exact ⟨.inr rfl, _, rfl, by simp [oneOf, he, updO], rfl⟩
  refine cSkip (kSeqN (cSeq (cBlock ?_)))
  obtain ⟨b1, o1, p1, r1, c1, e1, g1, x1⟩ := ha.at (by omega)
  obtain ⟨b2, o2, p2, r2, c2, e2, g2, x2⟩ := hb.at (by omega)
  cases e1; cases e2
  refine cSeq (cRegion ?_)
  refine sMv (v := nv _) rfl ?_
  refine sAs (v := nv _) rfl ?_
  refine sNil (kSeqN (cSeq (cDraw rfl ?_)))
  refine sMv (v := .slice _ _ _) rfl ?_
  refine sMv (v := nv _) rfl ?_
  refine sIx T25 S3 rfl rfl (by omega) ?_
  refine sLd A3 rfl g1 (x1 i l[i] (by simp)) ?_
  refine sMv (v := .slice _ _ _) rfl ?_
  refine sMv (v := nv _) rfl ?_
  refine sIx T25 S3 rfl rfl (by omega) ?_
  refine sLd A3 rfl g2 (x2 i (r[i]'(by omega)) (by simp)) ?_
  refine sBinI rfl rfl aInt_neqI ?_
  refine sNil (kSeqN ?_)
  refine cCond rfl (fun hd => ?_) (fun hd => ?_)
  · refine cSeq (cRegion ?_)
    refine sAs (v := .bool _) rfl ?_
    refine sNil (kSeqN (cRet (kBlkR (kSeqR (kSeqR (kBlkR (kSeqR ?_)))))))
    have : l ≠ r := fun e => hd (by subst e; rfl)
    exact ⟨.inr rfl, _, rfl, by simp [oneOf, this, updO], rfl⟩
  refine cSkip (kBlkN (kSeqN (cRegion ?_)))
  refine sBin rfl rfl (aInt_add (b := 1) (by omega)) ?_
  refine sMv (v := nv _) rfl ?_
  refine sNil (kSeqN ⟨_, ?_, i + 1, rfl, by omega, rfl, ?_, rfl, rfl, rfl, rfl, trivial⟩)
  · omega
  · intro j hji
    by_cases h : j < i
    · exact hj j h
    · obtain rfl : j = i := by omega
      rw [List.getElem?_eq_getElem (by omega), List.getElem?_eq_getElem (by omega), Decidable.not_not.1 hd]
theorem okf94 : okF Tryd.prog H0 94 19 = true := by kernel_rfl
theorem spec_IndexFunc {m : Mem} {a : Value} {l : List Int} {g : FuncId} {cp : Array Value} {p : Int → Bool} (ha : IntsAt m a l) (hl : l.length < 4611686018427387904) (hk : callable Tryd.prog g = true)
    (hp : ∀ x, x ∈ l → ACalls Tryd.prog g (#[.int .i64 x] ++ cp) m (.bool (p x)) m) : ∃ i : Int, ACalls Tryd.prog 94 #[a, .func (.func g) #[] cp] m (.int .i64 i) m ∧ (0 ≤ i ↔ l.any p = true) := by
  suffices h : ∃ v m', ACalls Tryd.prog 94 #[a, .func (.func g) #[] cp] m v m' ∧ (∃ i : Int, v = .int .i64 i ∧ m' = m ∧ (0 ≤ i ↔ l.any p = true)) by
    obtain ⟨v, m', h, i, rfl, rfl, h2⟩ := h; exact ⟨i, h, h2⟩
  obtain ⟨q, cap, rfl⟩ := ha.len
  refine wpF (args := [_, _]) mixed okf94 (fn := Tryd.f94) rfl rfl rfl (by simp) ?_
  refine cSeq ?_
  refine cRegion ?_
  refine sAs (v := nv _) rfl ?_
  refine sNil (kSeqN ?_)
  refine cSeq ?_
  refine cSeq ?_
  refine cRegion ?_
  refine sMv (v := .slice _ _ _) rfl ?_
  refine sLen T25 rfl ?_
  refine sMv (v := nv _) rfl ?_
  refine sNil (kSeqN ?_)
  refine cBlock ?_   -- 0
  refine wpC_loop (fun k ρ m' => ∃ i, k = l.length - i ∧ i ≤ l.length ∧ (∀ j x, j < i → l[j]? = some x → p x = false) ∧ m' = m ∧ Has ρ [(0, .slice q l.length cap), (1, .func (.func g) #[] cp), (7, nv l.length), (8, nv i)]) ⟨0, rfl, by omega, by omega, rfl, rfl, rfl, rfl, rfl, trivial⟩ ?_
  rintro k ρ _ ⟨i, rfl, hi, hj, rfl, hh⟩
  rw [hh.env]; clear hh
  refine cSeq ?_
  refine cRegion ?_
  refine sBin rfl rfl (aInt_lss) ?_
  refine sNil (kSeqN ?_)
  refine cSeq ?_
  refine cCond rfl (fun hc => ?_) (fun hc => ?_)
  · refine cSkip (kSeqN ?_)
    obtain ⟨b1, o1, p1, r1, c1, e1, g1, x1⟩ := ha.at (by omega)
    cases e1
    refine cSeq ?_
    refine cBlock ?_   -- 1
    refine cSeq ?_
    refine cRegion ?_
    refine sMv (v := nv _) rfl ?_
    refine sAs (v := nv _) rfl ?_
    refine sNil (kSeqN ?_)
    refine cSeq ?_
    refine cRegion ?_
    refine sMv (v := .func _ _ _) rfl ?_
    refine sMv (v := .slice _ _ _) rfl ?_
    refine sMv (v := nv _) rfl ?_
    refine sIx T25 S3 rfl rfl (by omega) ?_
    refine sLd A3 rfl g1 (x1 i l[i] (by simp)) ?_
    refine sCall rfl hk (by simpa [evR, updO] using hp l[i] (by simp)) ?_
    refine sNil (kSeqN ?_)
    refine cCond (p := p l[i] = true) (by simp [evR, updO]) (fun hd => ?_) (fun hd => ?_)
    · refine cSeq ?_
      refine cRegion ?_
      refine sMv (v := nv _) rfl ?_
      refine sAs (v := nv _) rfl ?_
      refine sNil (kSeqN ?_)
      refine cRet (kBlkR (kSeqR (kSeqR (kBlkR (kSeqR ?_)))))
      refine ⟨.inr rfl, _, rfl, Int.ofNat i, by simp [oneOf, updO], rfl, ?_⟩
      have : l.any p = true := List.any_eq_true.2 ⟨l[i], by simp, hd⟩
      simp [this]
    · refine cSkip (kBlkN (kSeqN ?_))
      refine cRegion ?_
      refine sBin rfl rfl (aInt_add (b := 1) (by omega)) ?_
      refine sMv (v := nv _) rfl ?_
      refine sNil (kSeqN ?_)   -- END
      refine ⟨_, ?_, i + 1, rfl, by omega, ?_, rfl, rfl, rfl, rfl, rfl, trivial⟩
      · omega
      · intro j x hji hx
        by_cases h : j < i
        · exact hj j x h hx
        · obtain rfl : j = i := by omega
          rw [List.getElem?_eq_getElem (by omega)] at hx
          cases hx
          simpa using hd
  · refine cExit (kSeqE (kSeqE (kBlkS (kSeqN ?_))))
    refine cSeq ?_
    refine cRegion ?_
    refine sAs (v := .int _ _) rfl ?_
    refine sNil (kSeqN ?_)
    refine cRet ?_   -- END
    refine ⟨.inr rfl, _, rfl, Int.negSucc 0, rfl, rfl, ?_⟩
    have : l.any p = false := by
      rw [Bool.eq_false_iff]
      intro h
      obtain ⟨x, hx, hpx⟩ := List.any_eq_true.1 h
      obtain ⟨j, hjl, rfl⟩ := List.getElem_of_mem hx
      have := hj j l[j] (by omega) (by simp)
      rw [this] at hpx; cases hpx
    simp [this]

theorem okf68 : okF Tryd.prog H0 68 9 = true := by kernel_rfl
theorem spec_ContainsFunc {m : Mem} {a : Value} {l : List Int} {g : FuncId} {cp : Array Value} {p : Int → Bool} (ha : IntsAt m a l) (hl : l.length < 4611686018427387904) (hk : callable Tryd.prog g = true)
    (hp : ∀ x, x ∈ l → ACalls Tryd.prog g (#[.int .i64 x] ++ cp) m (.bool (p x)) m) : ACalls Tryd.prog 68 #[a, .func (.func g) #[] cp] m (.bool (l.any p)) m := by
  suffices h : ∃ v m', ACalls Tryd.prog 68 #[a, .func (.func g) #[] cp] m v m' ∧ (v = .bool (l.any p) ∧ m' = m) by
    obtain ⟨v, m', h, rfl, rfl⟩ := h; exact h
  obtain ⟨i, hi, hi2⟩ := spec_IndexFunc ha hl hk hp
  obtain ⟨q, cap, rfl⟩ := ha.len
  refine wpF (args := [_, _]) mixed okf68 (fn := Tryd.f68) rfl rfl rfl (by simp) ?_
  refine cSeq ?_
  refine cRegion ?_
  refine sAs (v := .bool _) rfl ?_
  refine sNil (kSeqN ?_)
  refine cSeq ?_
  refine cRegion ?_
  refine sMv (v := .slice _ _ _) rfl ?_
  refine sMv (v := .func _ _ _) rfl ?_
  refine sCall rfl call94 (by simpa [evR, updO] using hi) ?_
  refine sP (v := .bool (l.any p)) ?_ ?_
  · have : (decide (i ≥ 0)) = l.any p := by rw [Bool.eq_iff_iff, ← hi2]; simp
    simp [aPure, evR, updO, aBin, aInt]
    simpa using this
  refine sAs (v := .bool _) rfl ?_
  refine sNil (kSeqN ?_)
  refine cRet ?_   -- END
  exact ⟨.inr rfl, _, rfl, rfl, rfl⟩
end Go.AM

/-! ### P2 -/
namespace Go.AM
open Go.Proofs
set_option maxRecDepth 100000
set_option linter.unusedVariables false
set_option linter.unusedSimpArgs false
theorem eq25 {q : Option Addr} {n c : Nat} : aBin Tryd.prog .eql 25 (.slice q n c) (.slice none 0 0) = some (.bool (decide (q = none))) := by
  cases q <;> kernel_rfl
theorem sCap0 {ρ : Env} {m : Mem} {K : Env → Mem → Prop} {ops : Array Oper} {l : List Oper} {d : Option Nat} {ty : TypeId} {pos : String} {af : Array Edge} {x : Operand}
    (hx : evR ρ x = .slice none 0 0) (hk : wpOps Tryd.prog ops K l (updO ρ d (nv 0)) m) : wpOps Tryd.prog ops K (⟨d, .call ⟨.builtin .cap, ⟨[x]⟩, ⟨[25]⟩⟩, ty, pos, af, none⟩ :: l) ρ m := by
  refine sO (opF_eff rfl rfl ?_) hk
  simp only [aEff, hx, aCapNil, T25]; rfl
theorem sAppN {ρ : Env} {m : Mem} {K : Env → Mem → Prop} {ops : Array Oper} {l : List Oper} {d : Option Nat} {ty : TypeId} {pos : String} {af : Array Edge} {x y : Operand} {n : Nat}
    (hx : evR ρ x = .slice none 0 0) (hy : evR ρ y = nv n) (h0 : 0 < n) (h1 : n ≤ 1048576) (hk : wpOps Tryd.prog ops K l (updO ρ d (.slice (some ⟨m.size, 0, some 1⟩) n n)) (m.push (.cells true (cellsN (List.replicate n 0))))) :
    wpOps Tryd.prog ops K (⟨d, .call ⟨.builtin .append, ⟨[x, y]⟩, ⟨[25, 3]⟩⟩, ty, pos, af, none⟩ :: l) ρ m := by
  refine sO (opF_eff rfl rfl ?_) hk
  have hcl : (nv 0).cells = #[nv 0] := rfl
  have e1 : aAppend Tryd.prog m 25 3 (.slice none 0 0) (nv n) = none := by
    unfold aAppend; simp only [T25, U3, isIntT]
  simp only [aEff, hx, hy, e1]
  unfold aAppendN
  simp only [T25, U3, isIntT, S3, Z3, bytes3, nv]
  rw [if_pos ⟨by decide, by decide, by kernel_rfl, by simpa using h0, by simp; omega, by decide⟩]
  have e2 : ((Array.range ((Int.ofNat n).toNat * (Value.int .i64 (Int.ofNat 0)).cells.size)).map fun x => (Value.int .i64 (Int.ofNat 0)).cells[x % (Value.int .i64 (Int.ofNat 0)).cells.size]!) = cellsN (List.replicate n 0) := by
    apply Array.ext
    · simp [cellsN, Value.cells]
    · intro i h1 h2
      simp [cellsN, Value.cells, Nat.mod_one]
  rw [e2]; rfl
theorem conv125_3 {a : Nat} (h : a < 9223372036854775808) : aConv Tryd.prog 125 3 (.int .u64 (Int.ofNat a)) = some (nv a) := by
  have h1 : undOf Tryd.prog 125 = some (.int .u64) := by kernel_rfl
  have h2 : undOf Tryd.prog 3 = some (.int .i64) := by kernel_rfl
  simp only [aConv, h1, h2]
  rw [wrapN (by omega)]

theorem okf15 : okF Tryd.prog H0 15 8 = true := by kernel_rfl
theorem spec_Clone {m : Mem} {a : Value} {l : List Int} (ha : IntsAt m a l) (hl : l.length ≤ 1000000) : ∃ v m', ACalls Tryd.prog 15 #[a] m v m' ∧ (OwnF m.size m' v l ∧ Ext m m') := by
  obtain ⟨q, cap, rfl⟩ := ha.len
  refine wpF (args := [_]) mixed okf15 (fn := Tryd.f15) rfl rfl rfl (by simp) ?_
  refine cSeq ?_
  refine cRegion ?_
  refine sAs (v := .slice _ _ _) rfl ?_
  refine sNil (kSeqN ?_)
  refine cSeq ?_   -- seq 1
  refine cSeq ?_
  refine cRegion ?_
  refine sMv (v := .slice _ _ _) rfl ?_
  refine sP (v := .bool (decide (q = none))) eq25 ?_
  refine sNil (kSeqN ?_)
  refine cCond rfl (fun c0 => ?_) (fun c0 => ?_)
  ·
    refine cSeq ?_
    refine cRegion ?_
    refine sAs (v := .slice _ _ _) rfl ?_
    refine sNil (kSeqN ?_)
    refine cRet (kSeqR ?_)
    subst c0
    have : l = [] := by
      rcases ha with ⟨h, _⟩ | ⟨b, o, cp, r, c, h, _⟩
      · exact h
      · cases h
    subst this
    exact ⟨.inr rfl, _, rfl, .nil _ _, .refl _⟩
  ·
    refine cSkip (kSeqN ?_)
    refine cSeq ?_
    refine cRegion ?_
    refine sBuildS (c := #[]) T25 S3 Z3 (by decide) (by decide) (by decide) (by kernel_rfl) rfl rfl ?_
    refine sMv (v := .slice _ _ _) rfl ?_
    refine sApp App25 rfl rfl (N := m.size) (p := []) (.inr ⟨m.size, 0, #[], rfl, Nat.le_refl _, gP rfl, by simp, by simp, by simp⟩) (ha.ext (.push _ _)) (by simp) (by simp; omega) fun v3 m3 hO3 hL3 => ?_
    rw [List.nil_append] at hO3
    obtain ⟨q3, cp3, rfl⟩ := hO3.ints.len
    refine sAs (v := .slice _ _ _) rfl ?_
    refine sNil (kSeqN ?_)
    refine cRet ?_
    exact ⟨.inr rfl, _, rfl, hO3, hL3.to_ext (.push _ _) (Nat.le_refl _)⟩

theorem okf88 : okF Tryd.prog H0 88 28 = true := by kernel_rfl
theorem spec_Reverse {m : Mem} {b n : Nat} {L : List Nat} (hb : Mem.get m b = .cells true (cellsN L)) (hn : n ≤ L.length) (hl : L.length < 1000000) : ∃ v m', ACalls Tryd.prog 88 #[.slice (some ⟨b, 0, some 1⟩) n L.length] m v m' ∧
      (v = oneOf [] ∧ Mem.get m' b = .cells true (cellsN ((L.take n).reverse ++ L.drop n)) ∧ But b m m' ∧ m'.size = m.size) := by
  have hbm := live hb
  refine wpF (args := [_]) mixed okf88 (fn := Tryd.f88) rfl rfl rfl (by simp) ?_
  refine cSeq ?_
  refine cRegion ?_
  refine sMv (v := .slice _ _ _) rfl ?_
  refine sLen T25 rfl ?_
  refine sBinI (v := .int .i64 (Int.ofNat n - 1)) rfl rfl (aInt_subI (b := 1) (by simp; omega)) ?_
  refine sAs (v := nv 0) rfl ?_
  refine sAs (v := .int _ _) rfl ?_
  refine sNil (kSeqN ?_)
  refine cBlock ?_
  refine wpC_loop (fun k ρ m' => ∃ (i : Nat) (T : List Nat), k = n - 2 * i ∧ 2 * i ≤ n + 1 ∧ T.length = L.length ∧ (∀ k, T[k]? = if k < n ∧ (k < i ∨ n ≤ k + i) then L[n - 1 - k]? else L[k]?) ∧ Mem.get m' b = .cells true (cellsN T) ∧ But b m m' ∧ m'.size = m.size ∧ Has ρ [(0, .slice (some ⟨b, 0, some 1⟩) n L.length), (2, nv i), (3, .int .i64 (Int.ofNat n - 1 - Int.ofNat i))]) ⟨0, L, rfl, by omega, rfl, fun k => by rw [if_neg (by omega)], hb, ⟨Nat.le_refl _, fun _ _ _ => rfl⟩, rfl, rfl, rfl, by show Value.int .i64 (Int.ofNat n - 1) = _; congr 1; simp, trivial⟩ ?_
  rintro k ρ m' ⟨i, T, rfl, hi, hT, ht, g1, hB, hsz, hh⟩
  rw [hh.env]; clear hh
  refine cSeq ?_   -- seq 1
  refine cSeq ?_
  refine cRegion ?_
  refine sMv (v := nv _) rfl ?_
  refine sMv (v := .int _ _) rfl ?_
  refine sBinI rfl rfl aInt_lssNI ?_
  refine sNil (kSeqN ?_)
  refine cCond rfl (fun c0 => ?_) (fun c0 => ?_)
  ·
    have hij : 2 * i + 1 < n := by have : (i : Int) < (n : Int) - 1 - (i : Int) := c0; omega
    have hj : Int.ofNat n - 1 - Int.ofNat i = Int.ofNat (n - 1 - i) := by simp; omega
    rw [hj]
    have hTi : T[i]? = some (L[i]'(by omega)) := by rw [ht, if_neg (by omega), List.getElem?_eq_getElem]
    have hTj : T[n - 1 - i]? = some (L[n - 1 - i]'(by omega)) := by rw [ht, if_neg (by omega), List.getElem?_eq_getElem]
    refine cSkip (kSeqN ?_)
    refine cSeq ?_
    refine cBlock ?_
    refine cDraw rfl ?_
    refine sMv (v := .slice _ _ _) rfl ?_
    refine sMv (v := nv i) rfl ?_
    refine sMv (v := .slice _ _ _) rfl ?_
    refine sMv (v := nv (n - 1 - i)) rfl ?_
    refine sMv (v := .slice _ _ _) rfl ?_
    refine sMv (v := nv (n - 1 - i)) rfl ?_
    refine sIx T25 S3 rfl rfl (by omega) ?_
    refine sLd (v := nv (L[n - 1 - i]'(by omega))) A3 rfl (by simp (disch := first | omega | (simp only [Array.size_push, Array.size_setIfInBounds]; done) | (simp only [Array.size_push, Array.size_setIfInBounds]; omega)) only [gP, gPn, gS, gSn, g1]; try rfl) (by rw [Nat.zero_add, Nat.mul_one]; exact cellsN_get hTj) ?_
    refine sMv (v := .slice _ _ _) rfl ?_
    refine sMv (v := nv _) rfl ?_
    refine sIx T25 S3 rfl rfl (by omega) ?_
    refine sLd (v := nv (L[i]'(by omega))) A3 rfl (by simp (disch := first | omega | (simp only [Array.size_push, Array.size_setIfInBounds]; done) | (simp only [Array.size_push, Array.size_setIfInBounds]; omega)) only [gP, gPn, gS, gSn, g1]; try rfl) (by rw [Nat.zero_add, Nat.mul_one]; exact cellsN_get hTi) ?_
    refine sIx T25 S3 rfl rfl (by omega) ?_
    refine sSt (v := nv _) S3 rfl rfl (by simp (disch := first | omega | (simp only [Array.size_push, Array.size_setIfInBounds]; done) | (simp only [Array.size_push, Array.size_setIfInBounds]; omega)) only [gP, gPn, gS, gSn, g1]; try rfl) (by simp; omega) rfl rfl ?_
    rw [cellsN_set]
    refine sIx T25 S3 rfl rfl (by omega) ?_
    refine sSt (v := nv _) S3 rfl rfl (by simp (disch := first | omega | (simp only [Array.size_push, Array.size_setIfInBounds]; done) | (simp only [Array.size_push, Array.size_setIfInBounds]; omega)) only [gP, gPn, gS, gSn, g1]; try rfl) (by simp; omega) rfl rfl ?_
    rw [cellsN_set, Nat.zero_add, Nat.mul_one, Nat.zero_add, Nat.mul_one]
    refine sNil (kBlkN (kSeqN ?_))
    refine cRegion ?_
    refine sMv (v := nv _) rfl ?_
    refine sBin rfl rfl (aInt_add (b := 1) (by omega)) ?_
    refine sMv (v := nv (n - 1 - i)) rfl ?_
    refine sBinI (v := .int .i64 (Int.ofNat (n - 1 - i) - 1)) rfl rfl (aInt_subI (b := 1) (by simp; omega)) ?_
    refine sAs (v := nv _) rfl ?_
    refine sAs (v := .int _ _) rfl ?_
    refine sNil (kSeqN ?_)
    refine ⟨_, ?_, i + 1, (T.set i (L[n - 1 - i]'(by omega))).set (n - 1 - i) (L[i]'(by omega)), rfl, by omega, by simpa using hT, fun k => ?_, (by simp (disch := first | omega | (simp only [Array.size_push, Array.size_setIfInBounds]; done) | (simp only [Array.size_push, Array.size_setIfInBounds]; omega)) only [gP, gPn, gS, gSn, g1]; try rfl), (hB.set (.inl rfl) _).set (.inl rfl) _, by simpa using hsz, rfl, rfl, ?_, trivial⟩
    · omega
    · rw [List.getElem?_set, List.getElem?_set, List.length_set, ht k]
      by_cases h1 : k = n - 1 - i
      · subst h1
        rw [if_pos rfl, if_pos (by omega), if_pos (by omega), show n - 1 - (n - 1 - i) = i by omega, List.getElem?_eq_getElem]
      · rw [if_neg (fun h => h1 h.symm)]
        by_cases h2 : k = i
        · subst h2
          rw [if_pos rfl, if_pos (by omega), if_pos (by omega), List.getElem?_eq_getElem]
        · rw [if_neg (fun h => h2 h.symm)]
          by_cases h3 : k < n ∧ (k < i ∨ n ≤ k + i)
          · rw [if_pos h3, if_pos (by omega)]
          · rw [if_neg h3, if_neg (by omega)]
    · show Value.int .i64 (Int.ofNat (n - 1 - i) - 1) = _
      congr 1; simp; omega
  ·
    refine cExit (kSeqE (kSeqE (kBlkS ?_)))
    have hij : n ≤ 2 * i + 1 := by have : ¬ (i : Int) < (n : Int) - 1 - (i : Int) := c0; omega
    refine ⟨.inl rfl, _, rfl, rfl, ?_, hB, hsz⟩
    rw [g1]
    refine congrArg (fun x => AObj.cells true (cellsN x)) (List.ext_getElem? fun k => ?_)
    rw [ht]
    by_cases hk : k < n
    · rw [List.getElem?_append_left (by simp; omega), List.getElem?_reverse (by simp; omega), List.length_take, Nat.min_eq_left hn, List.getElem?_take_of_lt (by omega)]
      by_cases h3 : k < i ∨ n ≤ k + i
      · rw [if_pos ⟨hk, h3⟩]
      · rw [if_neg (by omega)]; congr 1; omega
    · rw [if_neg (by omega), List.getElem?_append_right (by simp; omega), List.getElem?_drop, List.length_reverse, List.length_take, Nat.min_eq_left hn]
      congr 1; omega

theorem okf87 : okF Tryd.prog H0 87 27 = true := by kernel_rfl
theorem spec_Grow {m : Mem} {n : Nat} (hn : n ≤ 1000000) : ∃ v m', ACalls Tryd.prog 87 #[.slice none 0 0, nv n] m v m' ∧ (OwnF m.size m' v [] ∧ Ext m m') := by
  refine wpF (args := [_, _]) mixed okf87 (fn := Tryd.f87) rfl rfl rfl (by simp) ?_
  refine cSeq ?_
  refine cRegion ?_
  refine sAs (v := .slice _ _ _) rfl ?_
  refine sNil (kSeqN ?_)
  refine cSeq ?_   -- seq 1
  refine cSeq ?_
  refine cRegion ?_
  refine sMv (v := nv _) rfl ?_
  refine sBin (b := 0) rfl rfl aInt_lss ?_
  refine sNil (kSeqN ?_)
  refine cCondF' rfl (by omega) ?_
  refine cSkip (kSeqN ?_)
  refine cSeq ?_
  refine cSeq ?_
  refine cRegion ?_
  refine sMv (v := nv _) rfl ?_
  refine sMv (v := .slice _ _ _) rfl ?_
  refine sCap0 rfl ?_
  refine sMv (v := .slice _ _ _) rfl ?_
  refine sLen T25 rfl ?_
  refine sBin rfl rfl (aInt_sub (by omega)) ?_
  refine sBin (v := nv n) rfl rfl (aInt_sub (a := n) (b := 0) (by omega)) ?_
  refine sAs (v := nv n) rfl ?_
  refine sNil (kSeqN ?_)
  refine cSeq ?_
  refine cRegion ?_
  refine sMv (v := nv _) rfl ?_
  refine sBin (a := n) (b := 0) rfl rfl aInt_gtr ?_
  refine sNil (kSeqN ?_)
  refine cCond rfl (fun c1 => ?_) (fun c1 => ?_)
  ·
    refine cRegion ?_
    refine sMv (v := .slice _ _ _) rfl ?_
    refine sMv (v := .slice _ _ _) rfl ?_
    refine sCap0 rfl ?_
    refine sO (v := .slice none 0 0) (opF_read rfl (by kernel_rfl)) ?_
    refine sMv (v := nv n) rfl ?_
    refine sAppN rfl rfl c1 (by omega) ?_
    refine sMv (v := .slice _ _ _) rfl ?_
    refine sLen T25 rfl ?_
    refine sSlHi T25 S3 rfl rfl (by omega) ?_
    refine sAs (v := .slice _ _ _) rfl ?_
    refine sNil (kSeqN ?_)
    refine cSeq ?_
    refine cRegion ?_
    refine sMv (v := .slice _ _ _) rfl ?_
    refine sAs (v := .slice _ _ _) rfl ?_
    refine sNil (kSeqN ?_)
    refine cRet ?_
    exact ⟨.inr rfl, _, rfl, .inr ⟨m.size, n, _, rfl, Nat.le_refl _, gP rfl, by simp, by simp, by simp⟩, .push _ _⟩
  ·
    refine cSkip (kSeqN ?_)
    refine cSeq ?_
    refine cRegion ?_
    refine sMv (v := .slice _ _ _) rfl ?_
    refine sAs (v := .slice _ _ _) rfl ?_
    refine sNil (kSeqN ?_)
    refine cRet ?_
    exact ⟨.inr rfl, _, rfl, .nil _ _, .refl _⟩

theorem okf55 : okF Tryd.prog H0 55 36 = true := by kernel_rfl
theorem spec_Concat {m : Mem} {b n cap : Nat} {r : Bool} {c : Array Value} {S : Nat → Value} {F : Nat → List Int} (hb : Mem.get m b = .cells r c) (hc : ∀ i, i < n → c[0 + i * 1]? = some (S i)) (hS : ∀ i, i < n → IntsAt m (S i) (F i)) (hn : n ≤ 1000) (hlen : (preM F n).length ≤ 1000000) :
      ∃ v m', ACalls Tryd.prog 55 #[.slice (some ⟨b, 0, some 1⟩) n cap] m v m' ∧ (OwnF m.size m' v (preM F n) ∧ Ext m m') := by
  have hbm := live hb
  refine wpF (args := [_]) mixed okf55 (fn := Tryd.f55) rfl rfl rfl (by simp) ?_
  refine cSeq ?_
  refine cRegion ?_
  refine sAs (v := .slice _ _ _) rfl ?_
  refine sNil (kSeqN ?_)
  refine cSeq ?_
  refine cRegion ?_
  refine sAs (v := nv 0) rfl ?_
  refine sNil (kSeqN ?_)
  refine cSeq ?_
  refine cSeq ?_
  refine cRegion ?_
  refine sMv (v := .slice _ _ _) rfl ?_
  refine sLen T22 rfl ?_
  refine sMv (v := nv 0) rfl ?_
  refine sNil (kSeqN ?_)
  refine cBlock ?_
  refine wpC_loop (fun k ρ m' => ∃ i, k = n - i ∧ i ≤ n ∧ m' = m ∧ Has ρ [(0, .slice (some ⟨b, 0, some 1⟩) n cap), (3, nv (preM F i).length), (9, .slice (some ⟨b, 0, some 1⟩) n cap), (10, nv n), (11, nv i)]) ⟨0, rfl, Nat.zero_le _, rfl, rfl, rfl, rfl, rfl, rfl, trivial⟩ ?_
  rintro k ρ m' ⟨i, rfl, hi, hm', hh⟩
  obtain rfl := hm'.symm
  rw [hh.env]; clear hh
  refine cSeq ?_
  refine cRegion ?_
  refine sBin rfl rfl (aInt_lss) ?_
  refine sNil (kSeqN ?_)
  refine cSeq ?_   -- seq 5
  refine cCond rfl (fun c0 => ?_) (fun c0 => ?_)
  ·
    obtain ⟨qs, cs, hqs⟩ := (hS i c0).len
    have hci := hc i c0
    rw [hqs] at hci
    have hm1 := preM_mono (F := F) (i := i + 1) (n := n) (by omega)
    have hl1 : (preM F (i + 1)).length = (preM F i).length + (F i).length := by rw [preM, List.length_append]
    refine cSkip (kSeqN ?_)
    refine cSeq ?_
    refine cBlock ?_
    refine cSeq ?_
    refine cRegion ?_
    refine sIx T22 S25 rfl rfl c0 ?_
    refine sLd (v := .slice qs (F i).length cs) A25 rfl hb hci ?_
    refine sAs (v := .slice _ _ _) rfl ?_
    refine sNil (kSeqN ?_)
    refine cSeq ?_
    refine cRegion ?_
    refine sMv (v := nv _) rfl ?_
    refine sMv (v := .slice _ _ _) rfl ?_
    refine sLen T25 rfl ?_
    refine sBin rfl rfl (aInt_add (by omega)) ?_
    refine sAs (v := nv _) rfl ?_
    refine sNil (kSeqN ?_)
    refine cSeq ?_
    refine cRegion ?_
    refine sMv (v := nv _) rfl ?_
    refine sBin (b := 0) rfl rfl aInt_lss ?_
    refine sNil (kSeqN ?_)
    refine cCondF' rfl (by omega) ?_
    refine cSkip (kBlkN (kSeqN ?_))
    refine cRegion ?_
    refine sBin rfl rfl (aInt_add (b := 1) (by omega)) ?_
    refine sMv (v := nv _) rfl ?_
    refine sNil (kSeqN ?_)
    refine ⟨_, ?_, i + 1, rfl, by omega, rfl, rfl, by rw [hl1]; rfl, rfl, rfl, rfl, trivial⟩
    omega
  ·
    obtain rfl : i = n := by omega
    refine cExit (kSeqE (kSeqE (kBlkS (kSeqN ?_))))
    refine cSeq ?_
    refine cRegion ?_
    refine sMv (v := nv _) rfl ?_
    obtain ⟨v24, m24, h24, k24, k24e⟩ := spec_Grow (m := m) (n := (preM F i).length) (by omega)
    obtain ⟨q24, c24, rfl⟩ := k24.ints.len
    refine sCall2 rfl call87 rfl rfl h24 ?_
    refine sAs (v := .slice _ _ _) rfl ?_
    refine sNil (kSeqN ?_)
    refine cSeq ?_
    refine cSeq ?_
    refine cRegion ?_
    refine sMv (v := .slice _ _ _) rfl ?_
    refine sLen T22 rfl ?_
    refine sMv (v := nv 0) rfl ?_
    refine sNil (kSeqN ?_)
    refine cBlock ?_
    refine wpC_loop (fun k ρ m' => ∃ j v, k = i - j ∧ j ≤ i ∧ Low m.size m m' ∧ OwnF m.size m' v (preM F j) ∧ Has ρ [(6, v), (25, .slice (some ⟨b, 0, some 1⟩) i cap), (26, nv i), (27, nv j)]) ⟨0, _, rfl, Nat.zero_le _, k24e, k24, rfl, rfl, rfl, rfl, trivial⟩ ?_
    rintro k2 ρ m' ⟨j, v, rfl, hj, hLo, hO, hh⟩
    obtain ⟨qv, cv, rfl⟩ := hO.ints.len
    rw [hh.env]; clear hh
    refine cSeq ?_
    refine cRegion ?_
    refine sBin rfl rfl (aInt_lss) ?_
    refine sNil (kSeqN ?_)
    refine cSeq ?_   -- seq 14
    refine cCond rfl (fun c2 => ?_) (fun c2 => ?_)
    ·
      obtain ⟨qs, cs, hqs⟩ := (hS j c2).len
      have hci := hc j c2
      rw [hqs] at hci
      have hm1 := preM_mono (F := F) (i := j + 1) (n := i) (by omega)
      have hl1 : (preM F (j + 1)).length = (preM F j).length + (F j).length := by rw [preM, List.length_append]
      have hIj := (hS j c2).ext (hLo.to_ext (.refl _) (Nat.le_refl _))
      rw [hqs] at hIj
      refine cSkip (kSeqN ?_)
      refine cSeq ?_
      refine cBlock ?_
      refine cSeq ?_
      refine cRegion ?_
      refine sIx T22 S25 rfl rfl c2 ?_
      refine sLd (v := .slice qs (F j).length cs) A25 rfl (hLo.cells hbm hb) hci ?_
      refine sAs (v := .slice _ _ _) rfl ?_
      refine sNil (kSeqN ?_)
      refine cRegion ?_
      refine sMv (v := .slice _ _ _) rfl ?_
      refine sMv (v := .slice _ _ _) rfl ?_
      refine sApp App25 rfl rfl hO hIj hLo.1 (by omega) fun v3 m3 hO3 hL3 => ?_
      obtain ⟨q3, cp3, rfl⟩ := hO3.ints.len
      refine sAs (v := .slice _ _ _) rfl ?_
      refine sNil (kBlkN (kSeqN ?_))
      refine cRegion ?_
      refine sBin rfl rfl (aInt_add (b := 1) (by omega)) ?_
      refine sMv (v := nv _) rfl ?_
      refine sNil (kSeqN ?_)
      refine ⟨_, ?_, j + 1, _, rfl, by omega, hLo.trans hL3, hO3, rfl, rfl, rfl, rfl, trivial⟩
      omega
    ·
      refine cExit (kSeqE (kSeqE (kBlkS (kSeqN ?_))))
      refine cSeq ?_
      refine cRegion ?_
      refine sMv (v := .slice _ _ _) rfl ?_
      refine sAs (v := .slice _ _ _) rfl ?_
      refine sNil (kSeqN ?_)
      refine cRet ?_
      obtain rfl : j = i := by omega
      exact ⟨.inr rfl, _, rfl, hO, hLo⟩

theorem okf97 : okF Tryd.prog H0 97 35 = true := by kernel_rfl
theorem spec_Ones64 {m : Mem} {x : Nat} (hx : x < 2 ^ 64) : ∃ v m', ACalls Tryd.prog 97 #[.int .u64 (Int.ofNat x)] m v m' ∧ (v = nv (popc x) ∧ m' = m) := by
  obtain ⟨a, b, c, d, e, f, g, h, hs, ha, hb, hc, hd, he, hf, hg, hh, hsum, l1, l2, l3⟩ := s123 hx
  obtain ⟨y1, y2, y3, e1, e2, e3, b1, b2, b3, hand⟩ := s456 ha hb hc hd he hf hg hh
  rw [← hs] at e1
  have hx1 := Nat.shiftRight_le x 1
  have hs1 := Nat.shiftRight_le (s1 x) 2
  have hs2 := Nat.shiftRight_le (s2 (s1 x)) 4
  have hs3 := Nat.shiftRight_le (s3 (s2 (s1 x))) 8
  have hs4 := Nat.shiftRight_le y1 16
  have hs5 := Nat.shiftRight_le y2 32
  have hm3 : s3 (s2 (s1 x)) < 2 ^ 64 := Nat.lt_of_le_of_lt Nat.and_le_left l3
  refine wpF (args := [_]) mixed okf97 (fn := Tryd.f97) rfl rfl rfl (by simp) ?_
  refine cSeq ?_
  refine cRegion ?_
  refine sAs (v := nv 0) rfl ?_
  refine sNil (kSeqN ?_)
  refine cSeq ?_
  refine cRegion ?_
  refine sMv (v := .int _ _) rfl ?_
  refine sBinI (a := Int.ofNat x) (b := Int.ofNat 1) rfl rfl (aInt_shrU (by omega)) ?_
  refine sBinI (a := Int.ofNat (x >>> 1)) (b := Int.ofNat 6148914691236517205) rfl rfl (aInt_andU (by omega)) ?_
  refine sMv (v := .int _ _) rfl ?_
  refine sBinI (a := Int.ofNat x) (b := Int.ofNat 6148914691236517205) rfl rfl (aInt_andU (by omega)) ?_
  refine sBinI (v := .int .u64 (Int.ofNat (s1 x))) rfl rfl (aInt_addU (sumU l1)) ?_
  refine sAs (v := .int _ _) rfl ?_
  refine sNil (kSeqN ?_)
  refine cSeq ?_
  refine cRegion ?_
  refine sMv (v := .int _ _) rfl ?_
  refine sBinI (a := Int.ofNat (s1 x)) (b := Int.ofNat 2) rfl rfl (aInt_shrU (by omega)) ?_
  refine sBinI (a := Int.ofNat (s1 x >>> 2)) (b := Int.ofNat 3689348814741910323) rfl rfl (aInt_andU (by omega)) ?_
  refine sMv (v := .int _ _) rfl ?_
  refine sBinI (a := Int.ofNat (s1 x)) (b := Int.ofNat 3689348814741910323) rfl rfl (aInt_andU (by omega)) ?_
  refine sBinI (v := .int .u64 (Int.ofNat (s2 (s1 x)))) rfl rfl (aInt_addU (sumU2 l2)) ?_
  refine sAs (v := .int _ _) rfl ?_
  refine sNil (kSeqN ?_)
  refine cSeq ?_
  refine cRegion ?_
  refine sMv (v := .int _ _) rfl ?_
  refine sBinI (a := Int.ofNat (s2 (s1 x))) (b := Int.ofNat 4) rfl rfl (aInt_shrU (by omega)) ?_
  refine sMv (v := .int _ _) rfl ?_
  refine sBinI (a := Int.ofNat (s2 (s1 x) >>> 4)) (b := Int.ofNat (s2 (s1 x))) rfl rfl (aInt_addU l3) ?_
  refine sBinI (v := .int .u64 (Int.ofNat (s3 (s2 (s1 x))))) (a := Int.ofNat (s2 (s1 x) >>> 4 + s2 (s1 x))) (b := Int.ofNat 1085102592571150095) rfl rfl (aInt_andU ⟨l3, by omega⟩) ?_
  refine sAs (v := .int _ _) rfl ?_
  refine sNil (kSeqN ?_)
  refine cSeq ?_
  refine cRegion ?_
  refine sMv (v := .int _ _) rfl ?_
  refine sMv (v := .int _ _) rfl ?_
  refine sBinI (a := Int.ofNat (s3 (s2 (s1 x)))) (b := Int.ofNat 8) rfl rfl (aInt_shrU hm3) ?_
  refine sBinI (a := Int.ofNat (s3 (s2 (s1 x)))) (b := Int.ofNat (s3 (s2 (s1 x)) >>> 8)) rfl rfl (aInt_addU (by omega)) ?_
  rw [e1]
  refine sAs (v := .int _ _) rfl ?_
  refine sNil (kSeqN ?_)
  refine cSeq ?_
  refine cRegion ?_
  refine sMv (v := .int _ _) rfl ?_
  refine sMv (v := .int _ _) rfl ?_
  refine sBinI (a := Int.ofNat y1) (b := Int.ofNat 16) rfl rfl (aInt_shrU (by omega)) ?_
  refine sBinI (a := Int.ofNat y1) (b := Int.ofNat (y1 >>> 16)) rfl rfl (aInt_addU (by omega)) ?_
  rw [e2]
  refine sAs (v := .int _ _) rfl ?_
  refine sNil (kSeqN ?_)
  refine cSeq ?_
  refine cRegion ?_
  refine sMv (v := .int _ _) rfl ?_
  refine sMv (v := .int _ _) rfl ?_
  refine sBinI (a := Int.ofNat y2) (b := Int.ofNat 32) rfl rfl (aInt_shrU (by omega)) ?_
  refine sBinI (a := Int.ofNat y2) (b := Int.ofNat (y2 >>> 32)) rfl rfl (aInt_addU (by omega)) ?_
  rw [e3]
  refine sAs (v := .int _ _) rfl ?_
  refine sNil (kSeqN ?_)
  refine cSeq ?_
  refine cRegion ?_
  refine sMv (v := .int _ _) rfl ?_
  refine sP (v := nv y3) (conv125_3 (by omega)) ?_
  refine sBin (b := 127) rfl rfl (aInt_and (by omega)) ?_
  rw [hand, hsum]
  refine sAs (v := nv _) rfl ?_
  refine sNil (kSeqN ?_)
  refine cRet ?_
  exact ⟨.inr rfl, _, rfl, rfl, rfl⟩

theorem okf79 : okF Tryd.prog H0 79 8 = true := by kernel_rfl
theorem spec_OnesCount {m : Mem} {x : Nat} (hx : x < 2 ^ 64) : ∃ v m', ACalls Tryd.prog 79 #[.int .u64 (Int.ofNat x)] m v m' ∧ (v = nv (popc x) ∧ m' = m) := by
  refine wpF (args := [_]) mixed okf79 (fn := Tryd.f79) rfl rfl rfl (by simp) ?_
  refine cSeq ?_
  refine cRegion ?_
  refine sAs (v := nv 0) rfl ?_
  refine sNil (kSeqN ?_)
  refine cSeq ?_   -- seq 1
  refine cCondF rfl ?_
  refine cSkip (kSeqN ?_)
  refine cSeq ?_
  refine cRegion ?_
  refine sMv (v := .int _ _) rfl ?_
  obtain ⟨v7, m7, h7, rfl, k7⟩ := spec_Ones64 (m := m) hx
  refine sCall1 rfl call97 rfl h7 ?_
  refine sAs (v := nv _) rfl ?_
  refine sNil (kSeqN ?_)
  refine cRet ?_
  exact ⟨.inr rfl, _, rfl, rfl, k7⟩

end Go.AM

/-! ### M20 -/
namespace Go.AM
set_option linter.unusedVariables false
set_option linter.unusedSimpArgs false
def rowE (n : Nat) : Int → List Int → Nat
  | _, [] => 0
  | last, k :: l => if k ≤ last ∨ Int.ofNat n ≤ k then 15 else rowE n k l
def rowsE : Nat → List (List Int) → Nat
  | _, [] => 0
  | i, g :: G => if 2 < g.length then 2 else if rowE i (-1) g ≠ 0 then 15 else rowsE (i + 1) G
def checkG (G : List (List Int)) : Nat := if G.length < 1 ∨ 10 < G.length then 2 else rowsE 0 G
theorem rowE_15 (n : Nat) : ∀ (last : Int) (l : List Int), rowE n last l = 0 ∨ rowE n last l = 15
  | _, [] => .inl rfl
  | last, k :: l => by
    rw [rowE]; split
    · exact .inr rfl
    · exact rowE_15 n k l
/-- A right graph in whole numbers that are not below 0. -/
structure Dag (N : List (List Nat)) : Prop where
  one : 1 ≤ N.length
  ten : N.length ≤ 10
  two : ∀ g ∈ N, g.length ≤ 2
  less : ∀ (i : Nat) (g : List Nat), N[i]? = some g → ∀ k ∈ g, k < i
  rise : ∀ g ∈ N, g.Pairwise (· < ·)
theorem rowE_nat {n : Nat} : ∀ {last : Int} {l : List Int}, -1 ≤ last → rowE n last l = 0 → ∃ r : List Nat, l = ofs r ∧ (∀ k ∈ r, k < n ∧ last < Int.ofNat k) ∧ r.Pairwise (· < ·)
  | _, [], _, _ => ⟨[], rfl, by simp, .nil⟩
  | last, k :: l, hl, h => by
    rw [rowE] at h
    split at h
    · cases h
    · rename_i hc
      have h1 : last < k := by omega
      have h2 : k < Int.ofNat n := by omega
      obtain ⟨a, rfl⟩ : ∃ a : Nat, k = Int.ofNat a := ⟨k.toNat, by simp; omega⟩
      obtain ⟨r, rfl, hr, hp⟩ := rowE_nat (last := Int.ofNat a) (by simp) h
      refine ⟨a :: r, rfl, ?_, .cons (fun b hb => ?_) hp⟩
      · intro x hx
        rcases List.mem_cons.1 hx with rfl | hx
        · exact ⟨by simpa using h2, h1⟩
        · exact ⟨(hr x hx).1, Int.lt_trans h1 (hr x hx).2⟩
      · have := (hr b hb).2; simpa using this
theorem rowsE_nat : ∀ {i : Nat} {G : List (List Int)}, rowsE i G = 0 → ∃ N : List (List Nat), G = ofs2 N ∧ (∀ g ∈ N, g.length ≤ 2) ∧ (∀ (j : Nat) (g : List Nat), N[j]? = some g → ∀ k ∈ g, k < i + j) ∧ ∀ g ∈ N, g.Pairwise (· < ·)
  | _, [], _ => ⟨[], rfl, by simp, by simp, by simp⟩
  | i, g :: G, h => by
    rw [rowsE] at h
    split at h
    · cases h
    · rename_i h2
      split at h
      · cases h
      · rename_i h3
        obtain ⟨r, rfl, hr, hp⟩ := rowE_nat (Int.le_refl _) (Decidable.not_not.1 h3)
        obtain ⟨N, rfl, a1, a2, a3⟩ := rowsE_nat h
        refine ⟨r :: N, rfl, ?_, ?_, ?_⟩
        · intro g hg
          rcases List.mem_cons.1 hg with rfl | hg
          · simpa using h2
          · exact a1 g hg
        · intro j g hj k hk
          cases j with
          | zero => simp at hj; subst hj; simpa using (hr k hk).1
          | succ j => simp at hj; have := a2 j g hj k hk; omega
        · intro g hg
          rcases List.mem_cons.1 hg with rfl | hg
          · exact hp
          · exact a3 g hg
theorem checkG_nat {G : List (List Int)} (h : checkG G = 0) : ∃ N, G = ofs2 N ∧ Dag N := by
  rw [checkG] at h
  split at h
  · cases h
  · obtain ⟨N, rfl, a1, a2, a3⟩ := rowsE_nat h
    refine ⟨N, rfl, ⟨?_, ?_, a1, fun i g hi k hk => ?_, a3⟩⟩
    · rw [ofs2_length] at *; omega
    · rw [ofs2_length] at *; omega
    · have := a2 i g hi k hk; omega
/-- Some nodes as a position. -/
def posFrom (x : Nat) (l : List Nat) : Nat := l.foldl (fun x n => x ||| 2 ^ n) x
def posM (l : List Nat) : Nat := posFrom 0 l
theorem posFrom_bit (i : Nat) : ∀ (l : List Nat) (x : Nat), (posFrom x l).testBit i = (x.testBit i || decide (i ∈ l))
  | [], x => by simp [posFrom]
  | n :: l, x => by
    rw [posFrom, List.foldl_cons]
    rw [show l.foldl (fun x n => x ||| 2 ^ n) (x ||| 2 ^ n) = posFrom (x ||| 2 ^ n) l from rfl, posFrom_bit i l, Nat.testBit_or, Nat.testBit_two_pow]
    by_cases h : n = i
    · subst h; simp
    · have h' : ¬ i = n := fun e => h e.symm
      simp [h, h']
theorem posM_bit (i : Nat) (l : List Nat) : (posM l).testBit i = decide (i ∈ l) := by rw [posM, posFrom_bit]; simp
theorem posFrom_lt {n : Nat} : ∀ {l : List Nat} {x : Nat}, x < 2 ^ n → (∀ k ∈ l, k < n) → posFrom x l < 2 ^ n
  | [], x, hx, _ => hx
  | k :: l, x, hx, h => by
    rw [posFrom, List.foldl_cons]
    exact posFrom_lt (Nat.or_lt_two_pow hx (Nat.pow_lt_pow_right (by omega) (h k (by simp)))) fun j hj => h j (by simp [hj])
theorem posM_lt {n : Nat} {l : List Nat} (h : ∀ k ∈ l, k < n) : posM l < 2 ^ n := posFrom_lt (Nat.two_pow_pos n) h
/-- What the nodes need, as positions. -/
def needsM (N : List (List Nat)) : List Nat := N.map posM
@[simp] theorem needsM_length (N : List (List Nat)) : (needsM N).length = N.length := by simp [needsM]
theorem Dag.needs_lt {N : List (List Nat)} (h : Dag N) {i x : Nat} (hi : (needsM N)[i]? = some x) : x < 2 ^ i := by
  simp only [needsM, List.getElem?_map, Option.map_eq_some_iff] at hi
  obtain ⟨g, hg, rfl⟩ := hi
  exact posM_lt (h.less i g hg)
theorem Dag.needs_lt' {N : List (List Nat)} (h : Dag N) {x : Nat} (hx : x ∈ needsM N) : x < 1024 := by
  obtain ⟨i, hi, rfl⟩ := List.getElem_of_mem hx
  have h1 := h.needs_lt (List.getElem?_eq_getElem hi)
  have h2 : i < 10 := by have := h.ten; simp at hi; omega
  have := Nat.pow_le_pow_right (n := 2) (by omega) (Nat.le_of_lt h2)
  omega
/-- The error of goals. -/
def goalsE (n : Nat) (gs : List Int) : Nat :=
  if gs.length = 0 then 2 else if gs.any (fun g => decide (g < 0 ∨ Int.ofNat n ≤ g)) then 1 else if (List.range (gs.length - 1)).any (fun i => decide (gs.getD (i + 1) 0 ≤ gs.getD i 0)) then 15 else 0
def withE (G : List (List Int)) (gs : List Int) : Nat := if checkG G = 0 then goalsE G.length gs else checkG G
structure Goals (n : Nat) (gs : List Nat) : Prop where
  pos : 0 < gs.length
  lt : ∀ g ∈ gs, g < n
  rise : gs.Pairwise (· < ·)
theorem rise_of {l : List Nat} (h : ∀ i, i + 1 < l.length → l.getD i 0 < l.getD (i + 1) 0) : l.Pairwise (· < ·) := by
  rw [List.pairwise_iff_getElem]
  intro i j hi hj hij
  obtain ⟨d, rfl⟩ : ∃ d, j = i + 1 + d := ⟨j - (i + 1), by omega⟩
  clear hij
  induction d with
  | zero =>
    have := h i hj
    rw [List.getD_eq_getElem?_getD, List.getD_eq_getElem?_getD, List.getElem?_eq_getElem hi, List.getElem?_eq_getElem hj] at this
    exact this
  | succ d ih =>
    have h1 := ih (by omega)
    have h2 := h (i + 1 + d) (by omega)
    rw [List.getD_eq_getElem?_getD, List.getD_eq_getElem?_getD, List.getElem?_eq_getElem (by omega), List.getElem?_eq_getElem (show i + 1 + d + 1 < l.length from hj)] at h2
    exact Nat.lt_trans h1 h2
theorem goalsE_nat {n : Nat} {gs : List Int} (h : goalsE n gs = 0) : ∃ g : List Nat, gs = ofs g ∧ Goals n g := by
  unfold goalsE at h
  split at h
  · cases h
  rename_i h0
  split at h
  · cases h
  rename_i h1
  split at h
  · cases h
  rename_i h2
  have hh : ∀ x ∈ gs, 0 ≤ x ∧ x < Int.ofNat n := fun x hx => by
    simp only [List.any_eq_true, not_exists, not_and, decide_eq_true_eq] at h1
    have := h1 x hx
    omega
  obtain ⟨g, rfl⟩ : ∃ g : List Nat, gs = ofs g := ⟨nats gs, by
    refine List.ext_getElem? fun i => ?_
    simp only [ofs, nats, List.getElem?_map, Option.map_map]
    cases hi : gs[i]? with
    | none => rfl
    | some x =>
      have := hh x (List.mem_of_getElem? hi)
      simp; omega⟩
  refine ⟨g, rfl, ⟨by rw [ofs_length] at h0; omega, fun x hx => ?_, rise_of fun i hi => ?_⟩⟩
  · have := (hh (Int.ofNat x) (by simp only [ofs, List.mem_map]; exact ⟨x, hx, rfl⟩)).2
    simpa using this
  · simp only [List.any_eq_true, not_exists, not_and, decide_eq_true_eq, List.mem_range, ofs_length] at h2
    have := h2 i (by omega)
    simp only [List.getD_eq_getElem?_getD, ofs, List.getElem?_map, List.getElem?_eq_getElem hi, List.getElem?_eq_getElem (show i < g.length by omega)] at this ⊢
    simp at this ⊢
    omega
theorem withE_nat {G : List (List Int)} {gs : List Int} (h : withE G gs = 0) : ∃ N g, G = ofs2 N ∧ Dag N ∧ gs = ofs g ∧ Goals N.length g := by
  unfold withE at h
  split at h
  · rename_i h0
    obtain ⟨N, rfl, hN⟩ := checkG_nat h0
    obtain ⟨g, rfl, hg⟩ := goalsE_nat h
    exact ⟨N, g, rfl, hN, rfl, by rwa [ofs2_length] at hg⟩
  · rename_i h0; exact absurd h h0
end Go.AM

/-! ### P3 -/
namespace Go.AM
open Go.Proofs
set_option maxRecDepth 100000
set_option linter.unusedVariables false
set_option linter.unusedSimpArgs false
theorem drop_cons {α : Type} {l : List α} {i : Nat} (h : i < l.length) : l.drop i = l[i] :: l.drop (i + 1) := List.drop_eq_getElem_cons h

theorem okf40 : okF Tryd.prog H0 40 46 = true := by kernel_rfl
theorem spec_Check {m : Mem} {s : Value} {G : List (List Int)} (hG : RowsAt m s G) : ∃ v m', ACalls Tryd.prog 40 #[.agg #[s]] m v m' ∧ (v = nv (checkG G) ∧ Ext m m') := by
  obtain ⟨q, cap, rfl⟩ := hG.len
  have he : Ext m (m.push (.cells true #[.slice q G.length cap])) := .push _ _
  refine wpF (args := [_]) mixed okf40 (fn := Tryd.f40) rfl rfl rfl (by simp) ?_
  refine cSeq ?_
  refine cRegion ?_
  refine sBox (v := .agg _) rfl ?_
  refine sAs (v := nv 0) rfl ?_
  refine sNil (kSeqN ?_)
  refine cSeq ?_   -- seq 1
  refine cSeq ?_
  refine cRegion ?_
  refine sFA F24_0 rfl ?_
  refine sLd A22 rfl (by simp (disch := first | omega | (simp only [Array.size_push, Array.size_setIfInBounds]; done) | (simp only [Array.size_push, Array.size_setIfInBounds]; omega)) only [gP, gPn, gS, gSn]; try rfl) rfl ?_
  refine sLen T22 rfl ?_
  refine sBin (b := 1) rfl rfl aInt_lss ?_
  refine sMv (v := .bool _) rfl ?_
  by_cases h1 : G.length < 1
  ·
    rw [decide_eq_true h1]
    refine sGno (q' := true) rfl rfl (by simp) ?_
    refine sGno (q' := true) rfl rfl (by simp) ?_
    refine sGno (q' := true) rfl rfl (by simp) ?_
    refine sGno (q' := true) rfl rfl (by simp) ?_
    refine sP (v := .bool _) rfl ?_
    refine sNil (kSeqN ?_)
    refine cCondT rfl ?_
    refine cSeq ?_
    refine cRegion ?_
    refine sAs (v := nv 2) rfl ?_
    refine sNil (kSeqN ?_)
    refine cRet (kSeqR ?_)
    exact ⟨.inr rfl, _, rfl, by rw [checkG, if_pos (.inl h1)]; rfl, he⟩
  ·
    rw [decide_eq_false h1]
    refine sG rfl rfl ?_
    refine sFA F24_0 rfl ?_
    refine sG rfl rfl ?_
    refine sLd A22 rfl (by simp (disch := first | omega | (simp only [Array.size_push, Array.size_setIfInBounds]; done) | (simp only [Array.size_push, Array.size_setIfInBounds]; omega)) only [gP, gPn, gS, gSn]; try rfl) rfl ?_
    refine sG rfl rfl ?_
    refine sLen T22 rfl ?_
    refine sG rfl rfl ?_
    refine sBin (b := 10) rfl rfl aInt_gtr ?_
    refine sP (v := .bool _) rfl ?_
    refine sNil (kSeqN ?_)
    refine cCond (p := 10 < G.length) rfl (fun c1 => ?_) (fun c1 => ?_)
    ·
      refine cSeq ?_
      refine cRegion ?_
      refine sAs (v := nv 2) rfl ?_
      refine sNil (kSeqN ?_)
      refine cRet (kSeqR ?_)
      exact ⟨.inr rfl, _, rfl, by rw [checkG, if_pos (.inr c1)]; rfl, he⟩
    ·
      have hck : checkG G = rowsE 0 G := by rw [checkG, if_neg (by omega)]
      rw [hck]
      refine cSkip (kSeqN ?_)
      refine cSeq ?_
      refine cSeq ?_
      refine cRegion ?_
      refine sFA F24_0 rfl ?_
      refine sLd A22 rfl (by simp (disch := first | omega | (simp only [Array.size_push, Array.size_setIfInBounds]; done) | (simp only [Array.size_push, Array.size_setIfInBounds]; omega)) only [gP, gPn, gS, gSn]; try rfl) rfl ?_
      refine sLen T22 rfl ?_
      refine sMv (v := nv 0) rfl ?_
      refine sNil (kSeqN ?_)
      refine cBlock ?_
      refine wpC_loop (fun k ρ m' => ∃ i, k = G.length - i ∧ i ≤ G.length ∧ rowsE 0 G = rowsE i (G.drop i) ∧ m.push (.cells true #[.slice q G.length cap]) = m' ∧ Has ρ [(1, .pointer (some ⟨m.size, 0, none⟩)), (19, .slice q G.length cap), (20, nv G.length), (21, nv i)]) ⟨0, rfl, by omega, rfl, rfl, rfl, rfl, rfl, rfl, trivial⟩ ?_
      rintro k ρ _ ⟨i, rfl, hi, hr, rfl, hh⟩
      rw [hh.env]; clear hh
      refine cSeq ?_
      refine cRegion ?_
      refine sBin rfl rfl (aInt_lss) ?_
      refine sNil (kSeqN ?_)
      refine cSeq ?_   -- seq 8
      refine cCond rfl (fun c2 => ?_) (fun c2 => ?_)
      ·
        obtain ⟨b1, o1, p1, r1, cc, e1, g1, x1⟩ := hG.at (by omega)
        cases e1
        obtain ⟨s1, hs1, ha⟩ := x1 i G[i] (by simp)
        obtain ⟨qs, cs, rfl⟩ := ha.len
        generalize hg : G[i] = g at *
        have hr2 : rowsE i (G.drop i) = if 2 < g.length then 2 else if rowE i (-1) g ≠ 0 then 15 else rowsE (i + 1) (G.drop (i + 1)) := by rw [drop_cons c2, hg, rowsE]
        refine cSkip (kSeqN ?_)
        refine cSeq ?_
        refine cBlock ?_
        refine cSeq ?_
        refine cRegion ?_
        refine sMv (v := nv _) rfl ?_
        refine sIx T22 S25 rfl rfl (by omega) ?_
        refine sLd (v := .slice _ _ _) A25 rfl (he.cells g1) hs1 ?_
        refine sAs (v := nv _) rfl ?_
        refine sAs (v := .slice _ _ _) rfl ?_
        refine sNil (kSeqN ?_)
        refine cSeq ?_   -- seq 11
        refine cSeq ?_
        refine cRegion ?_
        refine sMv (v := .slice _ _ _) rfl ?_
        refine sLen T25 rfl ?_
        refine sBin (b := 2) rfl rfl aInt_gtr ?_
        refine sNil (kSeqN ?_)
        refine cCond rfl (fun c3 => ?_) (fun c3 => ?_)
        ·
          refine cSeq ?_
          refine cRegion ?_
          refine sAs (v := nv 2) rfl ?_
          refine sNil (kSeqN ?_)
          refine cRet (kSeqR (kBlkR (kSeqR (kSeqR (kBlkR (kSeqR ?_))))))
          exact ⟨.inr rfl, _, rfl, by rw [hr, hr2, if_pos c3]; rfl, he⟩
        ·
          rw [if_neg c3] at hr2
          refine cSkip (kSeqN ?_)
          refine cSeq ?_
          refine cRegion ?_
          refine sAs (v := .int _ _) rfl ?_
          refine sNil (kSeqN ?_)
          refine cSeq ?_
          refine cRegion ?_
          refine sMv (v := .slice _ _ _) rfl ?_
          refine sLen T25 rfl ?_
          refine sMv (v := nv 0) rfl ?_
          refine sNil (kSeqN ?_)
          refine cBlock ?_
          refine wpC_loop (fun k ρ m' => ∃ j last, k = g.length - j ∧ j ≤ g.length ∧ rowE i (-1) g = rowE i last (g.drop j) ∧ m.push (.cells true #[.slice (some ⟨b1, o1, some 1⟩) G.length cap]) = m' ∧ Has ρ [(1, .pointer (some ⟨m.size, 0, none⟩)), (19, .slice (some ⟨b1, o1, some 1⟩) G.length cap), (20, nv G.length), (21, nv i), (3, nv i), (5, .int .i64 last), (29, .slice qs g.length cs), (30, nv g.length), (31, nv j)]) ⟨0, -1, rfl, by omega, rfl, rfl, rfl, rfl, rfl, rfl, rfl, rfl, rfl, rfl, rfl, trivial⟩ ?_
          rintro k ρ _ ⟨j, last, rfl, hj, hr3, rfl, hh⟩
          rw [hh.env]; clear hh
          refine cSeq ?_
          refine cRegion ?_
          refine sBin rfl rfl (aInt_lss) ?_
          refine sNil (kSeqN ?_)
          refine cSeq ?_   -- seq 17
          refine cCond rfl (fun c4 => ?_) (fun c4 => ?_)
          ·
            obtain ⟨b2, o2, p2, r2, cd, e2, g2, x2⟩ := ha.at (by omega)
            cases e2
            have hr4 : rowE i last (g.drop j) = if g[j] ≤ last ∨ Int.ofNat i ≤ g[j] then 15 else rowE i g[j] (g.drop (j + 1)) := by rw [drop_cons c4, rowE]
            refine cSkip (kSeqN ?_)
            refine cSeq ?_
            refine cBlock ?_
            refine cSeq ?_
            refine cRegion ?_
            refine sIx T25 S3 rfl rfl (by omega) ?_
            refine sLd (v := .int _ _) A3 rfl (he.cells g2) (x2 j g[j] (by simp)) ?_
            refine sAs (v := .int _ _) rfl ?_
            refine sNil (kSeqN ?_)
            refine cSeq ?_   -- seq 20
            refine cSeq ?_
            refine cRegion ?_
            refine sMv (v := .int _ _) rfl ?_
            refine sMv (v := .int _ _) rfl ?_
            refine sBinI rfl rfl aInt_leqI ?_
            refine sMv (v := .bool _) rfl ?_
            by_cases h5 : g[j] ≤ last
            ·
              rw [decide_eq_true h5]
              refine sGno (q' := true) rfl rfl (by simp) ?_
              refine sGno (q' := true) rfl rfl (by simp) ?_
              refine sGno (q' := true) rfl rfl (by simp) ?_
              refine sP (v := .bool _) rfl ?_
              refine sNil (kSeqN ?_)
              refine cCondT rfl ?_
              refine cSeq ?_
              refine cRegion ?_
              refine sAs (v := nv 15) rfl ?_
              refine sNil (kSeqN ?_)
              refine cRet (kSeqR (kBlkR (kSeqR (kSeqR (kBlkR (kBlkR (kSeqR (kSeqR (kBlkR (kSeqR ?_))))))))))
              exact ⟨.inr rfl, _, rfl, by rw [hr, hr2, if_pos (by rw [hr3, hr4, if_pos (.inl h5)]; decide)]; rfl, he⟩
            ·
              rw [decide_eq_false h5]
              refine sG rfl rfl ?_
              refine sMv (v := .int _ _) rfl ?_
              refine sG rfl rfl ?_
              refine sMv (v := nv _) rfl ?_
              refine sG rfl rfl ?_
              refine sBinI (b := Int.ofNat i) rfl rfl aInt_geqI ?_
              refine sP (v := .bool _) rfl ?_
              refine sNil (kSeqN ?_)
              refine cCond (p := Int.ofNat i ≤ g[j]) rfl (fun c6 => ?_) (fun c6 => ?_)
              ·
                refine cSeq ?_
                refine cRegion ?_
                refine sAs (v := nv 15) rfl ?_
                refine sNil (kSeqN ?_)
                refine cRet (kSeqR (kBlkR (kSeqR (kSeqR (kBlkR (kBlkR (kSeqR (kSeqR (kBlkR (kSeqR ?_))))))))))
                exact ⟨.inr rfl, _, rfl, by rw [hr, hr2, if_pos (by rw [hr3, hr4, if_pos (.inr c6)]; decide)]; rfl, he⟩
              ·
                refine cSkip (kSeqN ?_)
                refine cRegion ?_
                refine sMv (v := .int _ _) rfl ?_
                refine sAs (v := .int _ _) rfl ?_
                refine sNil (kBlkN (kSeqN ?_))
                refine cRegion ?_
                refine sBin rfl rfl (aInt_add (b := 1) (by omega)) ?_
                refine sMv (v := nv _) rfl ?_
                refine sNil (kSeqN ?_)
                refine ⟨_, ?_, j + 1, g[j], rfl, by omega, by rw [hr3, hr4, if_neg (by omega)], rfl, rfl, rfl, rfl, rfl, rfl, rfl, rfl, rfl, rfl, trivial⟩
                omega
          ·
            have hz : rowE i (-1) g = 0 := by rw [hr3, List.drop_of_length_le (by omega), rowE]
            refine cExit (kSeqE (kSeqE (kBlkS (kBlkN (kSeqN ?_)))))
            refine cRegion ?_
            refine sBin rfl rfl (aInt_add (b := 1) (by omega)) ?_
            refine sMv (v := nv _) rfl ?_
            refine sNil (kSeqN ?_)
            refine ⟨_, ?_, i + 1, rfl, by omega, by rw [hr, hr2, if_neg (by rw [hz]; decide)], rfl, rfl, rfl, rfl, rfl, trivial⟩
            omega
      ·
        refine cExit (kSeqE (kSeqE (kBlkS (kSeqN ?_))))
        refine cSeq ?_
        refine cRegion ?_
        refine sAs (v := nv 0) rfl ?_
        refine sNil (kSeqN ?_)
        refine cRet ?_
        exact ⟨.inr rfl, _, rfl, by rw [hr, List.drop_of_length_le (by omega)]; rfl, he⟩

theorem okf70 : okF Tryd.prog H0 70 18 = true := by kernel_rfl
theorem spec_position {m : Mem} {a : Value} {l : List Nat} (ha : IntsAt m a (ofs l)) (hl : l.length < 1000000) (hn : ∀ x ∈ l, x < 40) : ACalls Tryd.prog 70 #[a] m (nv (posM l)) m := by
  suffices h : ∃ v m', ACalls Tryd.prog 70 #[a] m v m' ∧ (v = nv (posM l) ∧ m' = m) by
    obtain ⟨v, m', h, rfl, rfl⟩ := h; exact h
  obtain ⟨q, cap, rfl⟩ := ha.lenN
  refine wpF (args := [_]) mixed okf70 (fn := Tryd.f70) rfl rfl rfl (by simp) ?_
  refine cSeq ?_
  refine cRegion ?_
  refine sAs (v := nv 0) rfl ?_
  refine sNil (kSeqN ?_)
  refine cSeq ?_
  refine cRegion ?_
  refine sAs (v := nv 0) rfl ?_
  refine sNil (kSeqN ?_)
  refine cSeq ?_
  refine cSeq ?_
  refine cRegion ?_
  refine sMv (v := .slice _ _ _) rfl ?_
  refine sLen T25 rfl ?_
  refine sMv (v := nv 0) rfl ?_
  refine sNil (kSeqN ?_)
  refine cBlock ?_
  refine wpC_loop (fun k ρ m' => ∃ i x, k = l.length - i ∧ i ≤ l.length ∧ posM l = posFrom x (l.drop i) ∧ x < 2 ^ 40 ∧ m = m' ∧ Has ρ [(3, nv x), (6, .slice q l.length cap), (7, nv l.length), (8, nv i)]) ⟨0, 0, rfl, by omega, rfl, by omega, rfl, rfl, rfl, rfl, rfl, trivial⟩ ?_
  rintro k ρ _ ⟨i, x, rfl, hi, hr, hx, rfl, hh⟩
  rw [hh.env]; clear hh
  refine cSeq ?_
  refine cRegion ?_
  refine sBin rfl rfl (aInt_lss) ?_
  refine sNil (kSeqN ?_)
  refine cSeq ?_   -- seq 5
  refine cCond rfl (fun c0 => ?_) (fun c0 => ?_)
  ·
    obtain ⟨b1, o1, p1, r1, cc, e1, g1, x1⟩ := ha.atN (by omega)
    cases e1
    have hli := hn l[i] (by simp)
    have hp : (2 : Nat) ^ l[i] < 2 ^ 40 := Nat.pow_lt_pow_right (by omega) hli
    have hor : x ||| 2 ^ l[i] < 2 ^ 40 := Nat.or_lt_two_pow hx hp
    refine cSkip (kSeqN ?_)
    refine cSeq ?_
    refine cBlock ?_
    refine cSeq ?_
    refine cRegion ?_
    refine sIx T25 S3 rfl rfl (by omega) ?_
    refine sLd (v := nv l[i]) A3 rfl g1 (x1 i l[i] (by simp)) ?_
    refine sAs (v := nv _) rfl ?_
    refine sNil (kSeqN ?_)
    refine cRegion ?_
    refine sMv (v := nv _) rfl ?_
    refine sMv (v := nv _) rfl ?_
    refine sBin (a := 1) (b := l[i]) rfl rfl (aInt_shl (a := 1) (by omega)) ?_
    rw [Nat.shiftLeft_eq, Nat.one_mul]
    refine sBin rfl rfl (aInt_or (by omega)) ?_
    refine sAs (v := nv _) rfl ?_
    refine sNil (kBlkN (kSeqN ?_))
    refine cRegion ?_
    refine sBin rfl rfl (aInt_add (b := 1) (by omega)) ?_
    refine sMv (v := nv _) rfl ?_
    refine sNil (kSeqN ?_)
    refine ⟨_, ?_, i + 1, x ||| 2 ^ l[i], rfl, by omega, by rw [hr, drop_cons c0]; rfl, hor, rfl, rfl, rfl, rfl, rfl, trivial⟩
    omega
  ·
    refine cExit (kSeqE (kSeqE (kBlkS (kSeqN ?_))))
    refine cSeq ?_
    refine cRegion ?_
    refine sMv (v := nv _) rfl ?_
    refine sAs (v := nv _) rfl ?_
    refine sNil (kSeqN ?_)
    refine cRet ?_
    exact ⟨.inr rfl, _, rfl, by rw [hr, List.drop_of_length_le (by omega)]; rfl, rfl⟩

end Go.AM

/-! ### G3 -/
namespace Go.AM
set_option linter.unusedVariables false
set_option linter.unusedSimpArgs false
theorem resRs_agg2 {P : Program} {ρ : Env} {m : Mem} {a ty b s t : Nat} {r : Bool} {c : Array Value} (ht : isAggT P ty = some true) (hs : szOf P ty = some s) (hx : ρ a = .pointer (some ⟨b, 0, none⟩)) (hb : Mem.get m b = .cells r c) (hc : c.size = s) :
    resRs P ρ m [.cell a ty, .tmp t] = some [.agg c, ρ t] := by
  have : aLoad P m ty (ρ a) = some (.agg c) := by
    simp only [aLoad, hx, hb, ht, hs]
    rw [if_pos (by omega), Nat.zero_add, ← hc, Array.extract_size]
  simp only [resRs, resR, this]
theorem Low.le {N N' : Nat} {m m' : Mem} (h : Low N m m') (hN : N' ≤ N) : Low N' m m' := ⟨h.1, fun b hb => h.2 b (by omega)⟩
section
variable {P : Program} {n : Nat} {ρ : Env} {m m' : Mem} {K : List Ent → Env → Mem → Prop} {ops : Array Oper} {l : List Oper} {log : List Ent}
  {d : Option Nat} {i : Nat} {op : Op} {ty t tz : TypeId} {pos : String} {af : Array Edge} {v : Value} {x y : Operand}
theorem readLdA {m : Mem} {bl s : Nat} {rw_ : Bool} {c : Array Value} (ht : isAggT P t = some true) (hs : szOf P t = some s) (hx : evR ρ x = .pointer (some ⟨bl, 0, none⟩)) (hb : Mem.get m bl = .cells rw_ c) (hc : c.size = s) : aRead P m (evR ρ) (.load t x) = some (.agg c) := by
  simp only [aRead, aLoad, hx, hb, ht, hs]
  rw [if_pos (by omega), Nat.zero_add, ← hc, Array.extract_size]
theorem lStepLdA {bl s : Nat} {rw_ : Bool} {c : Array Value} (ht : isAggT P t = some true) (hs : szOf P t = some s) (hx : evR ρ x = .pointer (some ⟨bl, 0, none⟩)) (hb : Mem.get m bl = .cells rw_ c) (hc : c.size = s)
    (hk : ∀ e : Ent, e.m = m → e.v = .agg c → (∀ M r, Mem.get M bl = .cells r c → aRead P M (evR e.ρ) (.load t x) = some (.agg c)) → wpLog P ops K l (log ++ [e]) (updO ρ d (.agg c)) m) :
    wpLog P ops K (⟨d, .load t x, ty, pos, af, none⟩ :: l) log ρ m := by
  refine ⟨fun hw => ?_, fun hn => absurd trivial hn⟩
  refine wpOp_opF (v := .agg c) (m' := m) (opF_read rfl (readLdA ht hs hx hb hc)) ?_
  exact hk ⟨ρ, m, .agg c⟩ rfl rfl fun M r h1 => readLdA ht hs hx h1 hc
theorem lStepLen {e : TypeId} {q : Option Addr} {len cap : Nat} {tys : TypeId} (ht : undOf P tys = some (.slice e)) (hx : evR ρ x = .slice q len cap)
    (hk : ∀ e : Ent, e.m = m → e.v = nv len → aPure P (evR e.ρ) (.call ⟨.builtin .len, ⟨[x]⟩, ⟨[tys]⟩⟩) = some (nv len) → wpLog P ops K l (log ++ [e]) (updO ρ d (nv len)) m) :
    wpLog P ops K (⟨d, .call ⟨.builtin .len, ⟨[x]⟩, ⟨[tys]⟩⟩, ty, pos, af, none⟩ :: l) log ρ m := by
  have h : aPure P (evR ρ) (.call ⟨.builtin .len, ⟨[x]⟩, ⟨[tys]⟩⟩) = some (nv len) := by
    simp only [aPure, hx, aLen, ht]; rfl
  refine ⟨fun hw => ?_, fun hn => absurd trivial hn⟩
  exact wpOp_opF (v := nv len) (m' := m) (opF_pure h) (hk ⟨ρ, m, nv len⟩ rfl rfl h)
theorem lG {j : Nat} {q : Bool} {dj : Nat} (hd : (ops.toList[j]?).bind (·.dst) = some dj) (hq : ρ dj = .bool q) (h : wpLog P ops K (⟨d, op, ty, pos, af, none⟩ :: l) log ρ m) :
    wpLog P ops K (⟨d, op, ty, pos, af, some (j, q)⟩ :: l) log ρ m :=
  ⟨fun _ => h.1 trivial, fun hn => absurd (by unfold wantR; simp only [hd]; exact hq) hn⟩
theorem lGno {j : Nat} {q q' : Bool} {dj : Nat} (hd : (ops.toList[j]?).bind (·.dst) = some dj) (hq : ρ dj = .bool q') (hne : q' ≠ q) (h : ∀ e : Ent, e.m = m → e.ρ dj = .bool q' → wpLog P ops K l (log ++ [e]) (updO ρ d Go.undef) m) :
    wpLog P ops K (⟨d, op, ty, pos, af, some (j, q)⟩ :: l) log ρ m :=
  ⟨fun hw => absurd hw (by unfold wantR; simp only [hd]; rw [hq]; simpa using hne), fun _ => h ⟨ρ, m, Go.undef⟩ rfl hq⟩
theorem lGnoU {j : Nat} {q : Bool} {dj : Nat} (hd : (ops.toList[j]?).bind (·.dst) = some dj) (hq : ρ dj = Go.undef) (h : ∀ e : Ent, e.m = m → e.ρ dj = Go.undef → wpLog P ops K l (log ++ [e]) (updO ρ d Go.undef) m) :
    wpLog P ops K (⟨d, op, ty, pos, af, some (j, q)⟩ :: l) log ρ m :=
  ⟨fun hw => absurd hw (by unfold wantR; simp only [hd]; rw [hq]; intro h; cases h), fun _ => h ⟨ρ, m, Go.undef⟩ rfl hq⟩
end
theorem obl_no {P : Program} {l : List Oper} {log : List Ent} {m' : Mem} {i k : Nat} {hs : List (Nat × Nat)} {e : Ent} {o : Oper} {v : Value} {j dj : Nat} {q : Bool} (h1 : log[i]? = some e) (h2 : l[i]? = some o) (hg : o.guard = some (j, q)) (hd : (l[j]?).bind (·.dst) = some dj) (hv : e.ρ dj = v) (hne : v ≠ .bool q)
    (hr : obl P ⟨l⟩ log m' hs) : obl P ⟨l⟩ log m' ((i, k) :: hs) := by
  refine ⟨?_, hr⟩
  have h2' : (Array.mk l).toList[i]? = some o := h2
  rw [h1, h2']
  intro hw
  have hd' : ((Array.mk l).toList[j]?).bind (·.dst) = some dj := hd
  simp only [wantR, hg, hd', hv] at hw
  exact absurd hw hne

/-! ### Maps -/
section
variable {P : Program} {ρ : Env} {m m' : Mem} {K : Env → Mem → Prop} {ops : Array Oper} {l : List Oper}
  {d : Option Nat} {ty t : TypeId} {pos : String} {af : Array Edge} {v : Value} {x y z : Operand}
theorem MapAt.ext {m m' : Mem} {b : Nat} {es : List (Nat × Nat)} (h : MapAt m b es) (he : Ext m m') : MapAt m' b es := by
  unfold MapAt at *
  rw [he.2 b (Mem.lt_of_live (by rw [h]; rfl)), h]
theorem MapAt.lt {m : Mem} {b : Nat} {es : List (Nat × Nat)} (h : MapAt m b es) : b < m.size := Mem.lt_of_live (by rw [h]; rfl)
theorem sMkMap (hk : wpOps P ops K l (updO ρ d (.map (some m.size))) (m.push (.map true []))) : wpOps P ops K (⟨d, .makeMap t none, ty, pos, af, none⟩ :: l) ρ m :=
  sO (opF_eff rfl rfl (by simp only [aEff, aMakeMap, Option.map_none])) hk
structure MapT (P : Program) (t : TypeId) : Prop where
  e : ∃ kt et, undOf P t = some (.map kt et) ∧ undOf P kt = some (.int .i64) ∧ zeroOf P et = some (nv 0)
theorem lookM {b k : Nat} {es : List (Nat × Nat)} {ok : Bool} (hT : MapT P t) (hb : MapAt m b es) : aLookup P m t (.map (some b)) (nv k) ok =
    some (if ok then .tuple #[nv ((lookE es k).getD 0), .bool (lookE es k).isSome] else nv ((lookE es k).getD 0)) := by
  obtain ⟨kt, et, h1, h2, h3⟩ := hT.e
  have hp : (plainKey (.int .i64) && flat (nv 0)) = true := by kernel_rfl
  unfold MapAt at hb
  simp only [aLookup, h1, h2, h3, hp, if_true, hb, find_now]
  unfold lookE
  cases findE es k 0 <;> rfl
theorem sLookOk {b k : Nat} {es : List (Nat × Nat)} (hT : MapT P t) (hb : MapAt m b es) (hx : evR ρ x = .map (some b)) (hy : evR ρ y = nv k)
    (hk : wpOps P ops K l (updO ρ d (.tuple #[nv ((lookE es k).getD 0), .bool (lookE es k).isSome])) m) : wpOps P ops K (⟨d, .lookup t x y true, ty, pos, af, none⟩ :: l) ρ m := by
  refine sO (opF_read rfl ?_) hk
  simp only [aRead, hx, hy, lookM hT hb]; rfl
theorem sLook {b k : Nat} {es : List (Nat × Nat)} (hT : MapT P t) (hb : MapAt m b es) (hx : evR ρ x = .map (some b)) (hy : evR ρ y = nv k)
    (hk : wpOps P ops K l (updO ρ d (nv ((lookE es k).getD 0))) m) : wpOps P ops K (⟨d, .lookup t x y false, ty, pos, af, none⟩ :: l) ρ m := by
  refine sO (opF_read rfl ?_) hk
  simp only [aRead, hx, hy, lookM hT hb]; rfl
/-- A key that is not there yet is set. -/
theorem sMapNew {b k u : Nat} {es : List (Nat × Nat)} (hT : MapT P t) (hb : MapAt m b es) (hx : evR ρ x = .map (some b)) (hy : evR ρ y = nv k) (hz : evR ρ z = nv u) (hn : lookE es k = none)
    (hk : wpOps P ops K l (updO ρ d Go.undef) (m.setIfInBounds b (.map true ((es ++ [(k, u)]).map fun p => (nv p.1, nv p.2))))) : wpOps P ops K (⟨d, .mapUpdate t x y z, ty, pos, af, none⟩ :: l) ρ m := by
  obtain ⟨kt, et, h1, h2, h3⟩ := hT.e
  have hp : plainKey (.int .i64) = true := by kernel_rfl
  have hf : findE es k 0 = none := by
    unfold lookE at hn
    simpa using hn
  unfold MapAt at hb
  refine sO (opF_eff rfl rfl ?_) hk
  simp only [aEff, hx, hy, hz, aMapUpdate, h1, h2, hb, hp, if_true, find_now, hf]
  simp
end

/-! ### Rows whose elements are several cells -/
structure ElemT (P : Program) (t xt : TypeId) (w : Nat) : Prop where
  e : ∃ e ux z k, undOf P t = some (.slice e) ∧ undOf P xt = some ux ∧ isIntT ux = false ∧ szOf P e = some w ∧ zeroOf P e = some z ∧ z.cells.size = w ∧ bytesOf' P e = some k ∧ k ≤ 1000 ∧ 0 < w
/-- A slice of one's own with n elements of w cells. -/
def OwnC (N : Nat) (m : Mem) (v : Value) (w n : Nat) (cs : Array Value) : Prop :=
  (v = .slice none 0 0 ∧ n = 0 ∧ cs = #[]) ∨ ∃ b cap c, v = .slice (some ⟨b, 0, some w⟩) n cap ∧ N ≤ b ∧ Mem.get m b = .cells true c ∧ n ≤ cap ∧ c.size = cap * w ∧ cs.size = n * w ∧ ∀ i, i < n * w → c[i]? = cs[i]?
theorem OwnC.nil (N : Nat) (m : Mem) (w : Nat) : OwnC N m (.slice none 0 0) w 0 #[] := .inl ⟨rfl, rfl, rfl⟩
theorem OwnC.len {N : Nat} {m : Mem} {v : Value} {w n : Nat} {cs : Array Value} (h : OwnC N m v w n cs) : ∃ q cap, v = .slice q n cap := by
  rcases h with ⟨rfl, rfl, _⟩ | ⟨b, cap, c, rfl, _⟩ <;> exact ⟨_, _, rfl⟩
theorem OwnC.size {N : Nat} {m : Mem} {v : Value} {w n : Nat} {cs : Array Value} (h : OwnC N m v w n cs) : cs.size = n * w := by
  rcases h with ⟨rfl, rfl, rfl⟩ | ⟨b, cap, c, rfl, _, _, _, _, h, _⟩
  · simp
  · exact h
theorem OwnC.up {N : Nat} {m m' : Mem} {v : Value} {w n : Nat} {cs : Array Value} (h : OwnC N m v w n cs) (hu : ∀ b, N ≤ b → b < m.size → Mem.get m' b = Mem.get m b) : OwnC N m' v w n cs := by
  rcases h with h | ⟨b, cap, c, h1, h2, h3, h4⟩
  · exact .inl h
  · exact .inr ⟨b, cap, c, h1, h2, by rw [hu b h2 (live h3), h3], h4⟩
theorem OwnC.ext {N : Nat} {m m' : Mem} {v : Value} {w n : Nat} {cs : Array Value} (h : OwnC N m v w n cs) (he : Ext m m') : OwnC N m' v w n cs := h.up fun b _ hb => he.2 b hb
theorem OwnC.mono {N N' : Nat} {m : Mem} {v : Value} {w n : Nat} {cs : Array Value} (h : OwnC N m v w n cs) (hN : N' ≤ N) : OwnC N' m v w n cs := by
  rcases h with h | ⟨b, cap, c, h1, h2, h3⟩
  · exact .inl h
  · exact .inr ⟨b, cap, c, h1, by omega, h3⟩
theorem OwnC.at {N : Nat} {m : Mem} {v : Value} {w n : Nat} {cs : Array Value} (h : OwnC N m v w n cs) (hn : 0 < n) : ∃ b cap c, v = .slice (some ⟨b, 0, some w⟩) n cap ∧ N ≤ b ∧ Mem.get m b = .cells true c ∧ n * w ≤ c.size ∧ ∀ i, i < n * w → c[i]? = cs[i]? := by
  rcases h with ⟨rfl, rfl, _⟩ | ⟨b, cap, c, h1, h2, h3, h4, h5, h6, h7⟩
  · omega
  · exact ⟨b, cap, c, h1, h2, h3, by rw [h5]; exact Nat.mul_le_mul_right w h4, h7⟩
/-- The block of a slice. -/
def blkOf : Value → Option Nat
  | .slice (some q) _ _ => some q.block
  | _ => none
/-- Behind an append: what another block held is as it was; the slice is where it was, or new. -/
def Grew (m : Mem) (v : Value) (m' : Mem) (v' : Value) : Prop := m.size ≤ m'.size ∧ (∀ b, b < m.size → blkOf v ≠ some b → Mem.get m' b = Mem.get m b) ∧ (blkOf v' = blkOf v ∨ ∃ b, blkOf v' = some b ∧ m.size ≤ b)
theorem ownC_append {P : Program} {t xt : TypeId} {N : Nat} {m : Mem} {v : Value} {w n bx k : Nat} {rx : Bool} {cs d : Array Value} (hT : ElemT P t xt w) (h : OwnC N m v w n cs) (hx : Mem.get m bx = .cells rx d) (hd : d.size = w) (h1 : d.all Value.oneCell' = true) (hN : N ≤ m.size) (hn : n ≤ 1000000) :
    ∃ v' m', aAppend P m t xt v (.slice (some ⟨bx, 0, some w⟩) 1 k) = some (v', m') ∧ OwnC N m' v' w (n + 1) (cs ++ d) ∧ Low N m m' ∧ Grew m v m' v' := by
  obtain ⟨e, ux, z, kb, t1, t2, t3, t4, t5, t6, t7, t8, t9⟩ := hT.e
  have hf : aFirst m w 1 (.slice (some ⟨bx, 0, some w⟩) 1 k) = some d := by
    unfold aFirst
    simp only [hx]
    rw [if_neg (by omega), if_pos (by omega)]
    congr 1
    have : 0 + 1 * w = d.size := by omega
    rw [this, Array.extract_size]
  have hl : aLenOf (.slice (some ⟨bx, 0, some w⟩) 1 k) = some 1 := rfl
  unfold aAppend
  simp only [t1, t2, t3, t4, t5, t7, hl, hf]
  rw [if_pos ⟨t9, t6, by omega, h1⟩]
  rcases h with ⟨rfl, rfl, rfl⟩ | ⟨b, cap, c, rfl, g2, g3, g4, g5, g6, g7⟩
  · simp only [if_neg (show ¬ (1 = 0) by decide)]
    rw [if_pos ⟨by omega, by omega⟩]
    exact ⟨_, _, rfl, .inr ⟨m.size, 1, d, rfl, hN, gP rfl, by omega, by omega, by simp; omega, fun i _ => by simp⟩, .push N hN _, by simp, fun b hb _ => gPn hb, .inr ⟨m.size, rfl, Nat.le_refl _⟩⟩
  · have hb := live g3
    simp only [if_true, g3, if_neg (show ¬ (1 = 0) by decide)]
    have e1 : n * w + w = (n + 1) * w := by rw [Nat.add_mul, Nat.one_mul]
    by_cases hc : n + 1 ≤ cap
    · have hcw : (n + 1) * w ≤ cap * w := Nat.mul_le_mul_right w hc
      rw [if_pos hc, if_pos (by omega)]
      refine ⟨_, _, rfl, .inr ⟨b, cap, lay c (0 + n * w) d, rfl, g2, gS rfl hb, hc, by rw [lay_size]; exact g5, by rw [Array.size_append]; omega, fun i hi => ?_⟩, .set g2 _, by simp, fun b' _ hne => gSn (fun e => hne (by rw [← e]; rfl)), .inl rfl⟩
      rw [lay_get', hd]
      by_cases hil : i < n * w
      · rw [if_neg (by omega), g7 i hil, Array.getElem?_append_left (by omega)]
      · rw [if_pos (by omega), Array.getElem?_append_right (by omega)]
        congr 1; omega
    · rw [if_neg hc]
      have hle : n * w ≤ c.size := by rw [g5]; exact Nat.mul_le_mul_right w g4
      have hbb : (n + 1) * kb ≤ 70368744177664 := Nat.le_trans (Nat.mul_le_mul (show n + 1 ≤ 1000001 by omega) t8) (by decide)
      rw [if_pos ⟨trivial, hle, by omega, hbb⟩]
      refine ⟨_, _, rfl, .inr ⟨m.size, n + 1, _, rfl, hN, gP (by simp), Nat.le_refl _, ?_, by rw [Array.size_append]; omega, fun i hi => ?_⟩, .push' (.set g2 _) (by simpa using hN) _, by simp, fun b' hb' hne => by rw [gPn (by simpa using hb'), gSn (fun e => hne (by rw [← e]; rfl))], .inr ⟨m.size, rfl, Nat.le_refl _⟩⟩
      · simp only [Array.size_append, Array.size_extract]; omega
      · by_cases hil : i < n * w
        · rw [Array.getElem?_append_left (by simp; omega), Array.getElem?_append_left (by omega), Array.getElem?_extract, if_pos (by omega)]
          simpa using g7 i hil
        · rw [Array.getElem?_append_right (by simp; omega), Array.getElem?_append_right (by omega)]
          congr 1
          simp; omega
theorem sAppC {P : Program} {ρ : Env} {m : Mem} {K : Env → Mem → Prop} {ops : Array Oper} {l : List Oper} {dd : Option Nat} {ty : TypeId} {pos : String} {af : Array Edge} {x y : Operand} {t xt : TypeId} {N : Nat} {v : Value} {w n bx k : Nat} {rx : Bool} {cs d : Array Value}
    (hT : ElemT P t xt w) (hx : evR ρ x = v) (hy : evR ρ y = .slice (some ⟨bx, 0, some w⟩) 1 k) (h : OwnC N m v w n cs) (hb : Mem.get m bx = .cells rx d) (hd : d.size = w) (h1 : d.all Value.oneCell' = true) (hN : N ≤ m.size) (hn : n ≤ 1000000)
    (hk : ∀ v' m', OwnC N m' v' w (n + 1) (cs ++ d) → Low N m m' → Grew m v m' v' → wpOps P ops K l (updO ρ dd v') m') : wpOps P ops K (⟨dd, .call ⟨.builtin .append, ⟨[x, y]⟩, ⟨[t, xt]⟩⟩, ty, pos, af, none⟩ :: l) ρ m := by
  obtain ⟨v', m', e1, h2, h3, h4⟩ := ownC_append (k := k) hT h hb hd h1 hN hn
  refine sO (opF_eff rfl rfl ?_) (hk v' m' h2 h3 h4)
  simp only [aEff, hx, hy, e1]
/-- Rows of one's own: each row in a place of its own. -/
def OwnR (N : Nat) (m : Mem) (v : Value) (cs : Array Value) (G : List (List Int)) : Prop :=
  OwnC N m v 1 G.length cs ∧ ∀ (i : Nat) (g : List Int), G[i]? = some g → ∃ s, cs[i]? = some s ∧ OwnF N m s g ∧ ∀ b, blkOf s = some b → blkOf v ≠ some b
theorem OwnC.lt {N : Nat} {m : Mem} {v : Value} {w n b : Nat} {cs : Array Value} (h : OwnC N m v w n cs) (hb : blkOf v = some b) : N ≤ b ∧ b < m.size := by
  rcases h with ⟨rfl, _⟩ | ⟨b', cap, c, rfl, h2, h3, _⟩
  · cases hb
  · obtain rfl : b' = b := Option.some.inj hb
    exact ⟨h2, live h3⟩
theorem OwnF.lt {N : Nat} {m : Mem} {v : Value} {l : List Int} {b : Nat} (h : OwnF N m v l) (hb : blkOf v = some b) : N ≤ b ∧ b < m.size := by
  rcases h with ⟨rfl, rfl⟩ | ⟨b', cap, c, rfl, h2, h3, _⟩
  · cases hb
  · obtain rfl : b' = b := Option.some.inj hb
    exact ⟨h2, live h3⟩
theorem OwnF.keep {N : Nat} {m m' : Mem} {v : Value} {l : List Int} (h : OwnF N m v l) (hu : ∀ b, blkOf v = some b → Mem.get m' b = Mem.get m b) : OwnF N m' v l := by
  rcases h with h | ⟨b, cap, c, rfl, h2, h3, h4⟩
  · exact .inl h
  · exact .inr ⟨b, cap, c, rfl, h2, by rw [hu b rfl, h3], h4⟩
theorem OwnR.rows {N : Nat} {m : Mem} {v : Value} {cs : Array Value} {G : List (List Int)} (h : OwnR N m v cs G) : RowsAt m v G := by
  rcases h with ⟨⟨rfl, h1, _⟩ | ⟨b, cap, c, rfl, h2, h3, h4, h5, h6, h7⟩, hr⟩
  · exact .inl ⟨List.length_eq_zero_iff.1 h1, .inl rfl⟩
  · refine .inr ⟨b, 0, cap, true, c, rfl, h3, fun i g hi => ?_⟩
    obtain ⟨s, hs, ho, _⟩ := hr i g hi
    have hl := (List.getElem?_eq_some_iff.1 hi).1
    refine ⟨s, ?_, ho.ints⟩
    rw [Nat.zero_add, Nat.mul_one, h7 i (by omega), hs]
theorem OwnR.up {N : Nat} {m m' : Mem} {v : Value} {cs : Array Value} {G : List (List Int)} (h : OwnR N m v cs G) (hu : ∀ b, N ≤ b → b < m.size → Mem.get m' b = Mem.get m b) : OwnR N m' v cs G :=
  ⟨h.1.up hu, fun i g hi => by
    obtain ⟨s, hs, ho, hb⟩ := h.2 i g hi
    exact ⟨s, hs, ho.up hu, hb⟩⟩
theorem OwnR.ext {N : Nat} {m m' : Mem} {v : Value} {cs : Array Value} {G : List (List Int)} (h : OwnR N m v cs G) (he : Ext m m') : OwnR N m' v cs G := h.up fun b _ hb => he.2 b hb
theorem OwnR.only {N b : Nat} {m m' : Mem} {v : Value} {cs : Array Value} {G : List (List Int)} (h : OwnR N m v cs G) (ho : Only b m m') (hb : b < N) : OwnR N m' v cs G := h.up fun c hc _ => ho.2 c (by omega)
theorem OwnR.mono {N N' : Nat} {m : Mem} {v : Value} {cs : Array Value} {G : List (List Int)} (h : OwnR N m v cs G) (hN : N' ≤ N) : OwnR N' m v cs G :=
  ⟨h.1.mono hN, fun i g hi => by
    obtain ⟨s, hs, ho, hb⟩ := h.2 i g hi
    exact ⟨s, hs, ho.mono hN, hb⟩⟩
theorem OwnR.nil (N : Nat) (m : Mem) : OwnR N m (.slice none 0 0) #[] [] := ⟨.nil _ _ _, fun i g h => by cases i <;> cases h⟩
/-- One row more. -/
theorem OwnR.grew {N : Nat} {m m' : Mem} {v v' s : Value} {cs : Array Value} {G : List (List Int)} {g : List Int} (h : OwnR N m v cs G) (hs : OwnF N m s g) (hap : ∀ b, blkOf s = some b → blkOf v ≠ some b) (hg : Grew m v m' v') (hc : OwnC N m' v' 1 (G.length + 1) (cs ++ #[s])) : OwnR N m' v' (cs ++ #[s]) (G ++ [g]) := by
  have hsz := h.1.size
  have hkeep : ∀ {u : Value} {l : List Int}, OwnF N m u l → (∀ b, blkOf u = some b → blkOf v ≠ some b) → OwnF N m' u l ∧ ∀ b, blkOf u = some b → blkOf v' ≠ some b := fun ho ha =>
    ⟨ho.keep fun b hb => hg.2.1 b (ho.lt hb).2 (ha b hb), fun b hb e => by
      rcases hg.2.2 with h1 | ⟨b', h1, h2⟩
      · exact ha b hb (by rw [← h1, e])
      · rw [h1] at e
        obtain rfl := Option.some.inj e
        have := (ho.lt hb).2; omega⟩
  refine ⟨by rw [List.length_append]; exact hc, fun i x hi => ?_⟩
  by_cases hil : i < G.length
  · rw [List.getElem?_append_left hil] at hi
    obtain ⟨u, hu, ho, hb⟩ := h.2 i x hi
    obtain ⟨k1, k2⟩ := hkeep ho hb
    exact ⟨u, by rw [Array.getElem?_append_left (by omega), hu], k1, k2⟩
  · rw [List.getElem?_append_right (by omega)] at hi
    have h1 := (List.getElem?_eq_some_iff.1 hi).1
    have h0 : i - G.length = 0 := by simp at h1; omega
    rw [h0] at hi
    obtain rfl : g = x := by simpa using hi
    obtain ⟨k1, k2⟩ := hkeep hs hap
    refine ⟨s, ?_, k1, k2⟩
    rw [Array.getElem?_append_right (by omega)]
    have : i - cs.size = 0 := by omega
    rw [this]; rfl
/-- New rows, all empty. -/
theorem sMkS {P : Program} {ρ : Env} {m : Mem} {K : Env → Mem → Prop} {ops : Array Oper} {l : List Oper} {d : Option Nat} {ty t e : TypeId} {pos : String} {af : Array Edge} {x y : Operand} {n k : Nat}
    (ht : undOf P t = some (.slice e)) (hs : szOf P e = some 1) (hz : zeroOf P e = some (.slice none 0 0)) (hb : bytesOf' P e = some k) (hkk : k ≤ 1000) (hx : evR ρ x = nv n) (hy : evR ρ y = nv n) (hn : n ≤ 1000000)
    (hk : wpOps P ops K l (updO ρ d (.slice (some ⟨m.size, 0, some 1⟩) n n)) (m.push (.cells true (Array.replicate n (.slice none 0 0))))) : wpOps P ops K (⟨d, .makeSlice t x y, ty, pos, af, none⟩ :: l) ρ m := by
  refine sO (opF_eff rfl rfl ?_) hk
  have hcl : (Value.slice none 0 0).cells = #[.slice none 0 0] := rfl
  have hb1 : k * n ≤ 1000 * 1000000 := Nat.mul_le_mul hkk hn
  simp only [aEff, hx, hy, aMakeSlice, ht, hs, hz, hb, nv]
  rw [if_pos ⟨by decide, by decide, by kernel_rfl, by simp, by simp, by simp; omega, Nat.le_trans (m := 1000 * 1000000) hb1 (by decide)⟩]
  have e1 : ((Array.range ((Int.ofNat n).toNat * 1)).map fun x => (Value.slice none 0 0).cells[x % (Value.slice none 0 0).cells.size]!) = Array.replicate n (.slice none 0 0) := by
    apply Array.ext
    · simp
    · intro i h1 h2
      simp [Value.cells, Nat.mod_one]
  rw [e1]; rfl
end Go.AM

/-! ### P4 -/
namespace Go.AM
open Go.Proofs
set_option maxRecDepth 100000
set_option linter.unusedVariables false
set_option linter.unusedSimpArgs false
theorem B79_0 : aBuild Tryd.prog 79 [] = some (.agg #[.slice none 0 0, .slice none 0 0, nv 0]) := by kernel_rfl
theorem B79_2 {q : Option Addr} {n c x : Nat} : aBuild Tryd.prog 79 [(0, .agg #[.slice q n c]), (2, nv x)] = some (.agg #[.slice q n c, .slice none 0 0, nv x]) := by kernel_rfl
def BoardAt (m : Mem) (v : Value) (N : List (List Nat)) : Prop := ∃ q n c q2 n2 c2, v = .agg #[.slice q n c, .slice q2 n2 c2, nv (2 ^ N.length - 1)] ∧ RowsAt m (.slice q n c) (ofs2 N) ∧ IntsAt m (.slice q2 n2 c2) (ofs (needsM N))
theorem BoardAt.ext {m m' : Mem} {v : Value} {N : List (List Nat)} (h : BoardAt m v N) (he : Ext m m') : BoardAt m' v N := by
  obtain ⟨q, n, c, q2, n2, c2, h1, h2, h3⟩ := h
  exact ⟨q, n, c, q2, n2, c2, h1, h2.ext he, h3.ext he⟩
def BoardOwn (M : Nat) (m : Mem) (s : Value) (vs : Array Value) (N : List (List Nat)) : Prop := ∃ q2 n2 c2, vs = #[s, .slice q2 n2 c2, nv (2 ^ N.length - 1)] ∧ OwnF M m (.slice q2 n2 c2) (ofs (needsM N))
theorem BoardOwn.at {M : Nat} {m : Mem} {s : Value} {vs : Array Value} {N : List (List Nat)} (h : BoardOwn M m s vs N) (hr : RowsAt m s (ofs2 N)) : BoardAt m (.agg vs) N := by
  obtain ⟨q2, n2, c2, rfl, hO⟩ := h
  obtain ⟨q, cap, rfl⟩ := hr.len
  exact ⟨_, _, _, _, _, _, rfl, hr, hO.ints⟩
theorem BoardOwn.up {M : Nat} {m m' : Mem} {s : Value} {vs : Array Value} {N : List (List Nat)} (h : BoardOwn M m s vs N) (hu : ∀ b, M ≤ b → b < m.size → Mem.get m' b = Mem.get m b) : BoardOwn M m' s vs N := by
  obtain ⟨q2, n2, c2, rfl, hO⟩ := h
  exact ⟨q2, n2, c2, rfl, hO.up hu⟩
theorem ofs2_inj {N N' : List (List Nat)} (h : ofs2 N = ofs2 N') : N = N' := (List.map_inj_right fun a b h => ofs_inj.1 h).1 h
theorem needs_take {N : List (List Nat)} {i : Nat} (h : i < N.length) : needsM (N.take (i + 1)) = needsM (N.take i) ++ [posM N[i]] := by
  rw [List.take_succ_eq_append_getElem h, needsM, List.map_append]; rfl
theorem Dag.row_lt {N : List (List Nat)} (h : Dag N) {i : Nat} (hi : i < N.length) : ∀ x ∈ N[i], x < 40 := fun x hx => by
  have := h.less i N[i] (List.getElem?_eq_getElem hi) x hx
  have := h.ten; omega
theorem Dag.row_len {N : List (List Nat)} (h : Dag N) {i : Nat} (hi : i < N.length) : N[i].length ≤ 2 := h.two _ (List.getElem_mem hi)

def H66 : Nat → List (Nat × Nat) := fun id => if id = 8 then [(1,4),(1,5)] else if id = 4 then [(0,8),(2,8),(3,8)] else []
theorem okf66 : okF Tryd.prog H66 66 38 = true := by kernel_rfl
theorem spec_opened {m : Mem} {s : Value} {G : List (List Int)} (hG : RowsAt m s G) : ∃ v m', ACalls Tryd.prog 66 #[.agg #[s]] m v m' ∧ (∃ vs, v = .tuple #[.agg vs, nv (checkG G)] ∧ vs.size = 3 ∧ vs.all Value.oneCell' = true ∧ (checkG G = 0 → ∀ N, G = ofs2 N → BoardOwn m.size m' s vs N) ∧ Ext m m') := by
  obtain ⟨q, cap, rfl⟩ := hG.len
  have he : Ext m (m.push (.cells true #[.slice q G.length cap])) := .push _ _
  refine wpF (args := [_]) mixed okf66 (fn := Tryd.f66) rfl rfl rfl (by simp) ?_
  refine cSeq ?_
  refine cRegion ?_
  refine sBox (v := .agg _) rfl ?_
  refine sAllocB (bl := m.size + 1) (by simp) Z79 (by kernel_rfl) ?_
  refine sAs (v := nv 0) rfl ?_
  refine sNil (kSeqN ?_)
  refine cSeq ?_
  refine cSeq ?_
  refine cRegion ?_
  refine sLdAll A24 S24 rfl (by simp (disch := first | omega | (simp only [Array.size_push, Array.size_setIfInBounds]; done) | (simp only [Array.size_push, Array.size_setIfInBounds]; omega)) only [gP, gPn, gS, gSn]; try rfl) rfl ?_
  obtain ⟨v9, m9, h9, rfl, k9⟩ := spec_Check (m := (m.push (.cells true #[.slice q G.length cap])).push (.cells true #[.slice none 0 0, .slice none 0 0, nv 0])) (hG.ext (he.trans (.push _ _)))
  have g1 : Mem.get m9 m.size = .cells true #[.slice q G.length cap] := k9.cells (by simp (disch := first | omega | (simp only [Array.size_push, Array.size_setIfInBounds]; done) | (simp only [Array.size_push, Array.size_setIfInBounds]; omega)) only [gP, gPn, gS, gSn]; try rfl)
  have g2 : Mem.get m9 (m.size + 1) = .cells true #[.slice none 0 0, .slice none 0 0, nv 0] := k9.cells (gP (by simp))
  have hz9 : m.size + 2 ≤ m9.size := by have := k9.1; simp at this; omega
  have e9 : Ext m m9 := (he.trans (.push _ _)).trans k9
  refine sCall1 rfl call40 rfl h9 ?_
  refine sAs (v := nv _) rfl ?_
  refine sNil (kSeqN ?_)
  refine cSeq ?_
  refine cRegion ?_
  refine sMv (v := nv _) rfl ?_
  refine sBin (a := checkG G) rfl rfl (aInt_neq (b := 0)) ?_
  refine sNil (kSeqN ?_)
  refine cCond rfl (fun c0 => ?_) (fun c0 => ?_)
  ·
    refine cSeq ?_
    refine cRegion ?_
    refine sBuild B79_0 ?_
    refine sMv (v := nv _) rfl ?_
    refine sStAll S79 rfl rfl (by simp (disch := first | omega | (simp only [Array.size_push, Array.size_setIfInBounds]; done) | (simp only [Array.size_push, Array.size_setIfInBounds]; omega)) only [gP, gPn, gS, gSn, g1, g2]; try rfl) rfl rfl (by kernel_rfl) ?_
    refine sAs (v := nv _) rfl ?_
    refine sNil (kSeqN ?_)
    refine cRet (kSeqR ?_)
    exact ⟨.inr rfl, _, resRs_agg2 A79 S79 rfl (by simp (disch := first | omega | (simp only [Array.size_push, Array.size_setIfInBounds]; done) | (simp only [Array.size_push, Array.size_setIfInBounds]; omega)) only [gP, gPn, gS, gSn, g1, g2]; try rfl) rfl, _, rfl, rfl, by kernel_rfl, fun h => absurd h c0, e9.set (by omega) _⟩
  ·
    obtain ⟨N, rfl, hN⟩ := checkG_nat (Decidable.not_not.1 c0)
    rw [Decidable.not_not.1 c0]
    have h1 := hN.one
    have h10 := hN.ten
    rw [ofs2_length] at *
    have hp : 2 ^ N.length ≤ 1024 := by have := Nat.pow_le_pow_right (n := 2) (by omega) h10; omega
    have hp1 := Nat.two_pow_pos N.length
    refine cSkip (kSeqN ?_)
    refine cSeq ?_
    refine cDrawH (hs := [(0,8),(2,8),(3,8)]) rfl (by decide) ?_
    refine lStepLdA A24 S24 rfl (by simp (disch := first | omega | (simp only [Array.size_push, Array.size_setIfInBounds]; done) | (simp only [Array.size_push, Array.size_setIfInBounds]; omega)) only [gP, gPn, gS, gSn, g1, g2]; try rfl) rfl fun e0 hm0 hv0 hr0 => ?_
    refine lStepO (sFA F24_0 rfl (sNil fun e1 hm1 => ?_))
    refine lStepLd A22 rfl (by simp (disch := first | omega | (simp only [Array.size_push, Array.size_setIfInBounds]; done) | (simp only [Array.size_push, Array.size_setIfInBounds]; omega)) only [gP, gPn, gS, gSn, g1, g2]; try rfl) rfl fun e2 hm2 hv2 hr2 => ?_
    refine lStepLen T22 rfl fun e3 hm3 hv3 hr3 => ?_
    refine lStepO (sBin rfl rfl (aInt_shl (a := 1) (by omega)) (sNil fun e4 hm4 => ?_))
    rw [Nat.shiftLeft_eq, Nat.one_mul]
    refine lStepO (sBin rfl rfl (aInt_sub (b := 1) (by omega)) (sNil fun e5 hm5 => ?_))
    refine lStepO (sBuild B79_2 (sNil fun e6 hm6 => ?_))
    refine lStepO (sAlloc Z79 (by kernel_rfl) (sNil fun e7 hm7 => ?_))
    refine lStepO (sStNA S79 rfl rfl rfl rfl (by kernel_rfl) (sNil fun e8 hm8 => ?_))
    refine ⟨?_, (kSeqN ?_)⟩
    ·
      refine obl_atE (e := e0) (e' := e8) (by simp) (by rfl) (by simp) ((hr0 e8.m _ (by rw [hm8]; simp (disch := first | omega | (simp only [Array.size_push, Array.size_setIfInBounds]; done) | (simp only [Array.size_push, Array.size_setIfInBounds]; omega)) only [gP, gPn, gS, gSn, g1, g2]; try rfl)).trans (congrArg some hv0.symm)) ?_
      refine obl_atE (e := e2) (e' := e8) (by simp) (by rfl) (by simp) ((hr2 e8.m _ _ (by rw [hm8]; simp (disch := first | omega | (simp only [Array.size_push, Array.size_setIfInBounds]; done) | (simp only [Array.size_push, Array.size_setIfInBounds]; omega)) only [gP, gPn, gS, gSn, g1, g2]; try rfl) (by rfl)).trans (congrArg some hv2.symm)) ?_
      refine obl_pure (e := e3) (by simp) (by rfl) (hr3.trans (congrArg some hv3.symm)) ?_
      trivial
    refine cSeq ?_
    refine cSeq ?_
    refine cRegion ?_
    refine sFA F79_0 rfl ?_
    refine sFA F24_0 rfl ?_
    refine sLd A22 rfl (by simp (disch := first | omega | (simp only [Array.size_push, Array.size_setIfInBounds]; done) | (simp only [Array.size_push, Array.size_setIfInBounds]; omega)) only [gP, gPn, gS, gSn, g1, g2]; try rfl) rfl ?_
    refine sLen T22 rfl ?_
    refine sMv (v := nv 0) rfl ?_
    refine sNil (kSeqN ?_)
    refine cBlock ?_
    refine wpC_loop (fun k ρ m' => ∃ i v, k = N.length - i ∧ i ≤ N.length ∧ Low m9.size m9 m' ∧ m9.size + 1 ≤ m'.size ∧ Mem.get m' m9.size = .cells true #[.slice q N.length cap, v, nv (2 ^ N.length - 1)] ∧ OwnF (m9.size + 1) m' v (ofs (needsM (N.take i))) ∧ Has ρ [(2, .pointer (some ⟨m.size + 1, 0, none⟩)), (5, .pointer (some ⟨m9.size, 0, none⟩)), (23, .slice q N.length cap), (24, nv N.length), (25, nv i)]) ⟨0, _, rfl, by omega, .push _ (Nat.le_refl _) _, by simp, gP rfl, .nil _ _, rfl, rfl, rfl, rfl, rfl, trivial⟩ ?_
    rintro k ρ m' ⟨i, v, rfl, hi, hLo, hz, g3, hO, hh⟩
    have hOi := hO.ints
    obtain ⟨qv, cv, rfl⟩ := hOi.lenN
    rw [hh.env]; clear hh
    refine cSeq ?_
    refine cRegion ?_
    refine sBin rfl rfl (aInt_lss) ?_
    refine sNil (kSeqN ?_)
    refine cSeq ?_   -- seq 9
    refine cCond rfl (fun c1 => ?_) (fun c1 => ?_)
    ·
      obtain ⟨b1, o1, p1, r1, cc, e1, gg, x1⟩ := hG.at (by rw [ofs2_length]; omega)
      rw [ofs2_length] at e1
      cases e1
      obtain ⟨s1, hs1, ha⟩ := x1 i (ofs N[i]) (ofs2_get (by simp))
      have hE : Ext m m' := Low.to_ext e9 hLo (by omega)
      have ha' := ha.ext hE
      obtain ⟨qs, cs, rfl⟩ := ha.lenN
      have hrl := hN.row_len c1
      refine cSkip (kSeqN ?_)
      refine cSeq ?_
      refine cBlock ?_
      refine cSeq ?_
      refine cRegion ?_
      refine sIx T22 S25 rfl rfl (by omega) ?_
      refine sLd (v := .slice _ _ _) A25 rfl (hE.cells gg) hs1 ?_
      refine sAs (v := .slice _ _ _) rfl ?_
      refine sNil (kSeqN ?_)
      refine cDrawH (hs := [(1,4),(1,5)]) rfl (by decide) ?_
      refine lStepO (sFA F79_1 rfl (sNil fun e0 hm0 => ?_))
      refine lStepLd A25 rfl (by simp (disch := first | omega | (simp only [Array.size_push, Array.size_setIfInBounds]; done) | (simp only [Array.size_push, Array.size_setIfInBounds]; omega)) only [gP, gPn, gS, gSn, g3]; try rfl) rfl fun e1 hm1 hv1 hr1 => ?_
      refine lStepO (sMv (v := .slice _ _ _) rfl (sNil fun e2 hm2 => ?_))
      refine lStepO (sCall1 rfl call70 rfl (spec_position ha' (by omega) (hN.row_lt c1)) (sNil fun e3 hm3 => ?_))
      refine lStepO (sBuildS T25 S3 Z3 (by decide) (by decide) (by decide) (by kernel_rfl) fill1 rfl (sNil fun e4 hm4 => ?_))
      refine lStepO (sApp App25 rfl rfl (N := m9.size + 1) (hO.ext (.push _ _)) one_ints (by simp; omega) (by simp; omega) fun v8 m8 hO8 hL8 => sNil fun e5 hm5 => ?_)
      have hI8 := hO8.ints
      obtain ⟨q8, cp8, rfl⟩ := hI8.len
      have g8 := hL8.cells (show m9.size < m9.size + 1 by omega) ((gPn (live g3)).trans g3)
      refine lStepO (sFA F79_1 rfl (sNil fun e6 hm6 => ?_))
      refine lStepO (sSt (v := .slice _ _ _) S25 rfl rfl g8 (by simp) rfl rfl (sNil fun e7 hm7 => ?_))
      refine ⟨?_, (kBlkN (kSeqN ?_))⟩
      ·
        refine obl_atE (e := e1) (e' := e4) (by simp) (by rfl) (by simp) ((hr1 e4.m _ _ (by rw [hm4]; exact g3) (by rfl)).trans (congrArg some hv1.symm)) ?_
        refine obl_atE (e := e1) (e' := e5) (by simp) (by rfl) (by simp) ((hr1 e5.m _ _ (by rw [hm5]; exact (gPn (live g3)).trans g3) (by rfl)).trans (congrArg some hv1.symm)) ?_
        trivial
      refine cRegion ?_
      refine sBin rfl rfl (aInt_add (b := 1) (by omega)) ?_
      refine sMv (v := nv _) rfl ?_
      refine sNil (kSeqN ?_)
      refine ⟨_, ?_, i + 1, _, rfl, by omega, hLo.trans ((Low.push _ (by omega) _).trans ((hL8.le (by omega)).trans (.set (Nat.le_refl _) _))), ?_, by rw [gS rfl (live g8)]; rfl, ?_, rfl, rfl, rfl, rfl, rfl, trivial⟩
      · omega
      · have := hL8.1; simp only [Array.size_push] at this; simp only [Array.size_setIfInBounds]; omega
      · rw [needs_take c1, ofs_append]; exact hO8.only (.set _ _ _) (by omega)
    ·
      obtain rfl : i = N.length := by omega
      rw [List.take_length] at hO g3
      have g4 := hLo.cells (show m.size + 1 < m9.size by omega) g2
      have hE : Ext m m' := Low.to_ext e9 hLo (by omega)
      refine cExit (kSeqE (kSeqE (kBlkS (kSeqN ?_))))
      refine cSeq ?_
      refine cRegion ?_
      refine sLdAll A79 S79 rfl (by simp (disch := first | omega | (simp only [Array.size_push, Array.size_setIfInBounds]; done) | (simp only [Array.size_push, Array.size_setIfInBounds]; omega)) only [gP, gPn, gS, gSn, g3, g4]; try rfl) rfl ?_
      refine sStAll S79 rfl rfl (by simp (disch := first | omega | (simp only [Array.size_push, Array.size_setIfInBounds]; done) | (simp only [Array.size_push, Array.size_setIfInBounds]; omega)) only [gP, gPn, gS, gSn, g3, g4]; try rfl) rfl rfl (by kernel_rfl) ?_
      refine sAs (v := nv 0) rfl ?_
      refine sNil (kSeqN ?_)
      refine cRet ?_
      exact ⟨.inr rfl, _, resRs_agg2 A79 S79 rfl (gS rfl (live g4)) rfl, _, rfl, rfl, by kernel_rfl, fun _ N' hN' => by
        obtain rfl : N = N' := ofs2_inj hN'
        exact ⟨_, _, _, rfl, (hO.only (.set (m.size + 1) _ _) (by omega)).mono (by omega)⟩, hE.set (b := m.size + 1) (by omega) _⟩

end Go.AM

/-! ### P5 -/
namespace Go.AM
open Go.Proofs
set_option maxRecDepth 100000
set_option linter.unusedVariables false
set_option linter.unusedSimpArgs false
theorem getDI {l : List Int} {i : Nat} (h : i < l.length) : l[i]? = some (l.getD i 0) := by rw [List.getD_eq_getElem?_getD, List.getElem?_eq_getElem h]; rfl

theorem okf90 : okF Tryd.prog H0 90 13 = true := by kernel_rfl
theorem spec_with1 {m : Mem} {x : Int} {b n cap : Nat} {q : Option Addr} {r : Bool} (hb : Mem.get m b = .cells r #[.slice q n cap]) : ACalls Tryd.prog 90 #[.int .i64 x, .pointer (some ⟨b, 0, none⟩)] m (.bool (decide (x < 0 ∨ Int.ofNat n ≤ x))) m := by
  suffices h : ∃ v m', ACalls Tryd.prog 90 #[.int .i64 x, .pointer (some ⟨b, 0, none⟩)] m v m' ∧ (v = .bool (decide (x < 0 ∨ Int.ofNat n ≤ x)) ∧ m' = m) by
    obtain ⟨v, m', h, rfl, rfl⟩ := h; exact h
  refine wpF (args := [_, _]) mixed okf90 (fn := Tryd.f90) rfl rfl rfl (by simp) ?_
  refine cSeq ?_
  refine cRegion ?_
  refine sAs (v := .bool _) rfl ?_
  refine sNil (kSeqN ?_)
  refine cSeq ?_
  refine cRegion ?_
  refine sMv (v := .int _ _) rfl ?_
  refine sBinI (v := .bool (decide (x < 0))) rfl rfl rfl ?_
  refine sMv (v := .bool _) rfl ?_
  by_cases h1 : x < 0
  ·
    rw [decide_eq_true h1]
    refine sGno (q' := true) rfl rfl (by simp) ?_
    refine sGno (q' := true) rfl rfl (by simp) ?_
    refine sGno (q' := true) rfl rfl (by simp) ?_
    refine sGno (q' := true) rfl rfl (by simp) ?_
    refine sGno (q' := true) rfl rfl (by simp) ?_
    refine sP (v := .bool _) rfl ?_
    refine sAs (v := .bool _) rfl ?_
    refine sNil (kSeqN ?_)
    refine cRet ?_
    exact ⟨.inr rfl, _, rfl, by rw [decide_eq_true (.inl h1)]; rfl, rfl⟩
  ·
    rw [decide_eq_false h1]
    refine sG rfl rfl ?_
    refine sMv (v := .int _ _) rfl ?_
    refine sG rfl rfl ?_
    refine sFA F24_0 rfl ?_
    refine sG rfl rfl ?_
    refine sLd A22 rfl (by simp (disch := first | omega | (simp only [Array.size_push, Array.size_setIfInBounds]; done) | (simp only [Array.size_push, Array.size_setIfInBounds]; omega)) only [gP, gPn, gS, gSn, hb]; try rfl) rfl ?_
    refine sG rfl rfl ?_
    refine sLen T22 rfl ?_
    refine sG rfl rfl ?_
    refine sBinI (b := Int.ofNat n) rfl rfl aInt_geqI ?_
    refine sP (v := .bool _) rfl ?_
    refine sAs (v := .bool _) rfl ?_
    refine sNil (kSeqN ?_)
    refine cRet ?_
    exact ⟨.inr rfl, _, rfl, congrArg Value.bool (decide_eq_decide.2 ⟨fun h => .inr h, fun h => h.resolve_left h1⟩), rfl⟩

theorem okf62 : okF Tryd.prog H0 62 47 = true := by kernel_rfl
theorem spec_with {m : Mem} {s a : Value} {G : List (List Int)} {gs : List Int} (hG : RowsAt m s G) (ha : IntsAt m a gs) (hl : gs.length < 4611686018427387904) : ∃ v m', ACalls Tryd.prog 62 #[.agg #[s], a] m v m' ∧ (∃ vs, v = .tuple #[.agg vs, nv (withE G gs)] ∧ vs.size = 3 ∧ vs.all Value.oneCell' = true ∧ (withE G gs = 0 → ∀ N, G = ofs2 N → BoardOwn m.size m' s vs N) ∧ Ext m m') := by
  obtain ⟨q, cap, rfl⟩ := hG.len
  obtain ⟨qg, cg, rfl⟩ := ha.len
  have he : Ext m (m.push (.cells true #[.slice q G.length cap])) := .push _ _
  refine wpF (args := [_, _]) mixed okf62 (fn := Tryd.f62) rfl rfl rfl (by simp) ?_
  refine cSeq ?_
  refine cRegion ?_
  refine sBox (v := .agg _) rfl ?_
  refine sAllocB (bl := m.size + 1) (by simp) Z79 (by kernel_rfl) ?_
  refine sAs (v := nv 0) rfl ?_
  refine sNil (kSeqN ?_)
  refine cSeq ?_
  refine cRegion ?_
  refine sLdAll A24 S24 rfl (by simp (disch := first | omega | (simp only [Array.size_push, Array.size_setIfInBounds]; done) | (simp only [Array.size_push, Array.size_setIfInBounds]; omega)) only [gP, gPn, gS, gSn]; try rfl) rfl ?_
  obtain ⟨v9, m9, h9, vs, rfl, hv1, hv2, hv3, k9⟩ := spec_opened (m := (m.push (.cells true #[.slice q G.length cap])).push (.cells true #[.slice none 0 0, .slice none 0 0, nv 0])) (hG.ext (he.trans (.push _ _)))
  have g1 : Mem.get m9 m.size = .cells true #[.slice q G.length cap] := k9.cells (by simp (disch := first | omega | (simp only [Array.size_push, Array.size_setIfInBounds]; done) | (simp only [Array.size_push, Array.size_setIfInBounds]; omega)) only [gP, gPn, gS, gSn]; try rfl)
  have g2 : Mem.get m9 (m.size + 1) = .cells true #[.slice none 0 0, .slice none 0 0, nv 0] := k9.cells (gP (by simp))
  have hz9 : m.size + 2 ≤ m9.size := by have := k9.1; simp at this; omega
  have e9 : Ext m m9 := (he.trans (.push _ _)).trans k9
  refine sCall1 rfl call66 rfl h9 ?_
  refine sMv (v := .tuple _) rfl ?_
  refine sP (v := .agg _) rfl ?_   -- extract ['t9', '0']
  refine sP (v := nv _) rfl ?_   -- extract ['t9', '1']
  refine sAlloc Z79 (by kernel_rfl) ?_
  refine sStNA S79 rfl rfl rfl hv1 hv2 ?_
  refine sAs (v := nv _) rfl ?_
  refine sNil (kSeqN ?_)
  refine cSeq ?_
  refine cBlock ?_
  refine cSeq ?_
  refine cRegion ?_
  refine sMv (v := nv _) rfl ?_
  refine sBin (a := checkG G) rfl rfl (aInt_neq (b := 0)) ?_
  refine sAs (v := .bool _) rfl ?_
  refine sNil (kSeqN ?_)
  refine cCond rfl (fun c0 => ?_) (fun c0 => ?_)
  ·
    refine cSeq ?_
    refine cRegion ?_
    refine sBuild B79_0 ?_
    refine sMv (v := nv _) rfl ?_
    refine sStAll S79 rfl rfl (by simp (disch := first | omega | (simp only [Array.size_push, Array.size_setIfInBounds]; done) | (simp only [Array.size_push, Array.size_setIfInBounds]; omega)) only [gP, gPn, gS, gSn, g1, g2]; try rfl) rfl rfl (by kernel_rfl) ?_
    refine sAs (v := nv _) rfl ?_
    refine sNil (kSeqN ?_)
    refine cRet (kBlkR (kSeqR ?_))
    exact ⟨.inr rfl, _, resRs_agg2 A79 S79 rfl (by simp (disch := first | omega | (simp only [Array.size_push, Array.size_setIfInBounds]; done) | (simp only [Array.size_push, Array.size_setIfInBounds]; omega)) only [gP, gPn, gS, gSn, g1, g2]; try rfl) rfl, _, by rw [withE, if_neg c0]; rfl, rfl, by kernel_rfl, fun h => absurd h (by rw [withE, if_neg c0]; exact c0), (e9.trans (.push _ _)).set (b := m.size + 1) (by omega) _⟩
  ·
    have h0 := Decidable.not_not.1 c0
    have hw : withE G gs = goalsE G.length gs := by rw [withE, if_pos h0]
    rw [hw]
    refine cSeq ?_
    refine cRegion ?_
    refine sMv (v := .slice _ _ _) rfl ?_
    refine sLen T25 rfl ?_
    refine sBin (b := 0) rfl rfl aInt_eql ?_
    refine sAs (v := .bool _) rfl ?_
    refine sNil (kSeqN ?_)
    refine cCond rfl (fun c1 => ?_) (fun c1 => ?_)
    ·
      refine cSeq ?_
      refine cRegion ?_
      refine sBuild B79_0 ?_
      refine sStAll S79 rfl rfl (by simp (disch := first | omega | (simp only [Array.size_push, Array.size_setIfInBounds]; done) | (simp only [Array.size_push, Array.size_setIfInBounds]; omega)) only [gP, gPn, gS, gSn, g1, g2]; try rfl) rfl rfl (by kernel_rfl) ?_
      refine sAs (v := nv 2) rfl ?_
      refine sNil (kSeqN ?_)
      refine cRet (kBlkR (kSeqR ?_))
      exact ⟨.inr rfl, _, resRs_agg2 A79 S79 rfl (by simp (disch := first | omega | (simp only [Array.size_push, Array.size_setIfInBounds]; done) | (simp only [Array.size_push, Array.size_setIfInBounds]; omega)) only [gP, gPn, gS, gSn, g1, g2]; try rfl) rfl, _, by rw [goalsE, if_pos c1]; rfl, rfl, by kernel_rfl, fun h => absurd h (by rw [goalsE, if_pos c1]; decide), (e9.trans (.push _ _)).set (b := m.size + 1) (by omega) _⟩
    ·
      refine cSeq ?_
      refine cRegion ?_
      refine sMv (v := .slice _ _ _) rfl ?_
      refine sMFc1 rfl ?_
      refine sCall2 (v := .bool (gs.any fun g => decide (g < 0 ∨ Int.ofNat G.length ≤ g))) rfl call68 rfl rfl (spec_ContainsFunc (ha.ext (e9.trans (.push _ _))) hl call90 fun x _ => spec_with1 (by simp (disch := first | omega | (simp only [Array.size_push, Array.size_setIfInBounds]; done) | (simp only [Array.size_push, Array.size_setIfInBounds]; omega)) only [gP, gPn, gS, gSn, g1, g2]; try rfl)) ?_
      refine sAs (v := .bool _) rfl ?_
      refine sNil (kSeqN ?_)
      refine cCond (p := (gs.any fun g => decide (g < 0 ∨ Int.ofNat G.length ≤ g)) = true) (by show Value.bool _ = Value.bool _; rw [Bool.decide_eq_true]) (fun c2 => ?_) (fun c2 => ?_)
      ·
        refine cSeq ?_
        refine cRegion ?_
        refine sBuild B79_0 ?_
        refine sStAll S79 rfl rfl (by simp (disch := first | omega | (simp only [Array.size_push, Array.size_setIfInBounds]; done) | (simp only [Array.size_push, Array.size_setIfInBounds]; omega)) only [gP, gPn, gS, gSn, g1, g2]; try rfl) rfl rfl (by kernel_rfl) ?_
        refine sAs (v := nv 1) rfl ?_
        refine sNil (kSeqN ?_)
        refine cRet (kBlkR (kSeqR ?_))
        exact ⟨.inr rfl, _, resRs_agg2 A79 S79 rfl (by simp (disch := first | omega | (simp only [Array.size_push, Array.size_setIfInBounds]; done) | (simp only [Array.size_push, Array.size_setIfInBounds]; omega)) only [gP, gPn, gS, gSn, g1, g2]; try rfl) rfl, _, by rw [goalsE, if_neg c1, if_pos c2]; rfl, rfl, by kernel_rfl, fun h => absurd h (by rw [goalsE, if_neg c1, if_pos c2]; decide), (e9.trans (.push _ _)).set (b := m.size + 1) (by omega) _⟩
      ·
        refine cSkip (kBlkN (kSeqN ?_))
        refine cSeq ?_
        refine cSeq ?_
        refine cRegion ?_
        refine sAs (v := nv 1) rfl ?_
        refine sNil (kSeqN ?_)
        refine cBlock ?_
        refine wpC_loop (fun k ρ m' => ∃ i, k = gs.length - i ∧ 1 ≤ i ∧ i ≤ gs.length ∧ (∀ j, j + 1 < i → ¬ (gs.getD (j + 1) 0 ≤ gs.getD j 0)) ∧ m9.push (.cells true vs) = m' ∧ Has ρ [(1, .slice qg gs.length cg), (4, .pointer (some ⟨m.size + 1, 0, none⟩)), (6, .pointer (some ⟨m9.size, 0, none⟩)), (8, nv i)]) ⟨1, rfl, by omega, by omega, by omega, rfl, rfl, rfl, rfl, rfl, trivial⟩ ?_
        rintro k ρ _ ⟨i, rfl, hi1, hi, hj, rfl, hh⟩
        rw [hh.env]; clear hh
        refine cSeq ?_   -- seq 11
        refine cSeq ?_
        refine cRegion ?_
        refine sMv (v := nv _) rfl ?_
        refine sMv (v := .slice _ _ _) rfl ?_
        refine sLen T25 rfl ?_
        refine sBin rfl rfl (aInt_lss) ?_
        refine sNil (kSeqN ?_)
        refine cCond rfl (fun c3 => ?_) (fun c3 => ?_)
        ·
          obtain ⟨b1, o1, p1, r1, cc, e1, gg, x1⟩ := ha.at (by omega)
          cases e1
          obtain ⟨j, rfl⟩ : ∃ j, i = j + 1 := ⟨i - 1, by omega⟩
          have gg' := (e9.trans (.push m9 (.cells true vs))).cells gg
          refine cSkip (kSeqN ?_)
          refine cSeq ?_
          refine cBlock ?_
          refine cSeq ?_
          refine cDraw rfl ?_
          refine sMv (v := .slice _ _ _) rfl ?_
          refine sMv (v := nv _) rfl ?_
          refine sIx T25 S3 rfl rfl (by omega) ?_
          refine sLd (v := .int _ _) A3 rfl gg' (x1 (j + 1) (gs.getD (j + 1) 0) (getDI c3)) ?_
          refine sMv (v := .slice _ _ _) rfl ?_
          refine sMv (v := nv _) rfl ?_
          refine sBin (v := nv j) rfl rfl (aInt_sub (b := 1) (by omega)) ?_
          refine sIx T25 S3 rfl rfl (by omega) ?_
          refine sLd (v := .int _ _) A3 rfl gg' (x1 j (gs.getD j 0) (getDI (by omega))) ?_
          refine sBinI rfl rfl aInt_leqI ?_
          refine sNil (kSeqN ?_)
          refine cCond rfl (fun c4 => ?_) (fun c4 => ?_)
          ·
            refine cSeq ?_
            refine cRegion ?_
            refine sBuild B79_0 ?_
            refine sStAll S79 rfl rfl (by simp (disch := first | omega | (simp only [Array.size_push, Array.size_setIfInBounds]; done) | (simp only [Array.size_push, Array.size_setIfInBounds]; omega)) only [gP, gPn, gS, gSn, g1, g2]; try rfl) rfl rfl (by kernel_rfl) ?_
            refine sAs (v := nv 15) rfl ?_
            refine sNil (kSeqN ?_)
            refine cRet (kBlkR (kSeqR (kSeqR (kBlkR (kSeqR ?_)))))
            have h15 : goalsE G.length gs = 15 := by
              rw [goalsE, if_neg c1, if_neg c2, if_pos]
              exact List.any_eq_true.2 ⟨j, List.mem_range.2 (by omega), decide_eq_true c4⟩
            exact ⟨.inr rfl, _, resRs_agg2 A79 S79 rfl (by simp (disch := first | omega | (simp only [Array.size_push, Array.size_setIfInBounds]; done) | (simp only [Array.size_push, Array.size_setIfInBounds]; omega)) only [gP, gPn, gS, gSn, g1, g2]; try rfl) rfl, _, by rw [h15]; rfl, rfl, by kernel_rfl, fun h => absurd h (by rw [h15]; decide), (e9.trans (.push _ _)).set (b := m.size + 1) (by omega) _⟩
          ·
            refine cSkip (kBlkN (kSeqN ?_))
            refine cRegion ?_
            refine sMv (v := nv _) rfl ?_
            refine sBin rfl rfl (aInt_add (b := 1) (by omega)) ?_
            refine sAs (v := nv _) rfl ?_
            refine sNil (kSeqN ?_)
            refine ⟨_, ?_, j + 2, rfl, by omega, by omega, fun k hk => ?_, rfl, rfl, rfl, rfl, rfl, trivial⟩
            · omega
            · by_cases h : k = j
              · subst h; exact c4
              · exact hj k (by omega)
        ·
          refine cExit (kSeqE (kSeqE (kBlkS (kSeqN ?_))))
          refine cSeq ?_
          refine cRegion ?_
          refine sLdAll A79 S79 rfl (by simp (disch := first | omega | (simp only [Array.size_push, Array.size_setIfInBounds]; done) | (simp only [Array.size_push, Array.size_setIfInBounds]; omega)) only [gP, gPn, gS, gSn, g1, g2]; try rfl) hv1 ?_
          refine sStAll S79 rfl rfl (by simp (disch := first | omega | (simp only [Array.size_push, Array.size_setIfInBounds]; done) | (simp only [Array.size_push, Array.size_setIfInBounds]; omega)) only [gP, gPn, gS, gSn, g1, g2]; try rfl) rfl hv1 hv2 ?_
          refine sAs (v := nv 0) rfl ?_
          refine sNil (kSeqN ?_)
          refine cRet ?_
          obtain rfl : i = gs.length := by omega
          have h15 : goalsE G.length gs = 0 := by
            rw [goalsE, if_neg c1, if_neg c2, if_neg]
            intro h
            obtain ⟨j, hj1, hj2⟩ := List.any_eq_true.1 h
            exact hj j (by have := List.mem_range.1 hj1; omega) (of_decide_eq_true hj2)
          refine ⟨.inr rfl, _, resRs_agg2 A79 S79 rfl (by simp (disch := first | omega | (simp only [Array.size_push, Array.size_setIfInBounds]; done) | (simp only [Array.size_push, Array.size_setIfInBounds]; omega)) only [gP, gPn, gS, gSn, g1, g2]; try rfl) hv1, vs, by rw [h15]; rfl, hv1, hv2, fun _ N hN => ?_, (e9.trans (.push _ _)).set (b := m.size + 1) (by omega) _⟩
          have hB := hv3 h0 N hN
          obtain ⟨q2, n2, c2, rfl, hO⟩ := hB
          exact ⟨_, _, _, rfl, ((hO.ext (.push _ _)).only (.set (m.size + 1) _ _) (by simp)).mono (by simp; omega)⟩

end Go.AM
