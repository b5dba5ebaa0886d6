/-
  The contracts of the functions of filesum and of its reference: each returns the sum 'acc' of the weighted bytes, modulo 2^32, for a slice of at most 80000 bytes and an offset that is not negative; 0 for a negative offset; 'alive' returns true.
-/
import Derived.Test.YtenbgegdmnopiaaRows
import Derived.WalkKit
import Derived.WalkSpells
import Derived.Lib.Hide
import Derived.Lib.SlBytesConst
namespace Go.Proofs.Ytenbgegdmnopiaa
open Go.RowKit

/-- what a slice of bytes reads as -/
def Bys (w : World) (a : Option Addr) (len : Nat) (zs : List Int) : Prop :=
  zs.length = len ∧ (∀ i, 0 ≤ zs.getD i 0 ∧ zs.getD i 0 ≤ 255) ∧
  (len = 0 ∨ ∃ b o, a = some ⟨b, o, none⟩ ∧ ∀ i, i < len → w.cell? ⟨b, o + i, none⟩ = some (.int .u8 (zs.getD i 0)))

/-- the weight of the byte with index k at the offset off -/
def wt (off : Int) (k : Nat) : Int := 2 ^ (8 * (3 - (off + (k : Int)) % 4)).toNat

def acc (off : Int) (zs : List Int) : Nat → Int
  | 0 => 0
  | k + 1 => (acc off zs k + zs.getD k 0 * wt off k) % 4294967296

theorem acc_bd (off : Int) (zs : List Int) (k : Nat) : 0 ≤ acc off zs k ∧ acc off zs k < 4294967296 := by
  cases k with
  | zero => simp [acc]
  | succ k => simp only [acc]; omega

theorem acc_step (off : Int) (zs : List Int) (k : Nat) (h : 0 ≤ zs.getD k 0 ∧ zs.getD k 0 ≤ 255) :
    (acc off zs k + zs[k]?.getD 0 % 4294967296 * 2 ^ (8 * (3 - (off + (k : Int)) % 4)).toNat % 4294967296) % 4294967296 = acc off zs (k + 1) := by
  rw [show zs[k]?.getD 0 = zs.getD k 0 from by simp]
  have e : zs.getD k 0 % 4294967296 = zs.getD k 0 := Int.emod_eq_of_lt (by omega) (by omega)
  rw [e]
  simp only [acc, wt]
  omega

set_option maxHeartbeats 400000 in
theorem piece_neg (off : Int) (a : Option Addr) (len cap : Nat) (w : World) (h0 : off < 0) :
    Calls Try.prog 10 #[.int .i64 off, .slice a len cap] w fun e w' => e = .returned (.int .u32 0) ∧ w = w' := by
  go_enter Try.func10, Try.ntmps10
  go_wp2
  go_ret
  exact ⟨rfl, rfl⟩

set_option maxHeartbeats 400000 in
theorem piece_pos (off : Int) (a : Option Addr) (len cap : Nat) (zs : List Int) (w : World) (h0 : 0 ≤ off) (h1 : off ≤ 9223372036854775807) (hl : len ≤ 80000)
   (hb : Bys w a len zs) :
    Calls Try.prog 10 #[.int .i64 off, .slice a len cap] w fun e w' => e = .returned (.int .u32 (acc off zs len)) ∧ w = w' := by
  obtain ⟨hlen, hz, hc⟩ := hb
  have Hlen := Lib.hid hlen
  clear hlen
  rcases hc with hc | ⟨b, o, rfl, hcell⟩
  · subst hc
    go_enter Try.func10, Try.ntmps10
    go_wp2
    go_loop [5, 13] (fun s i => s = .int .u32 0 ∧ i = .int .i64 0) (fun _ i => 0 - (intOf i).toNat)
    case atStart => exact ⟨rfl, rfl⟩
    case round =>
      obtain ⟨rfl, rfl⟩ := hrel
      go_wp2
      go_ret
      exact ⟨rfl, rfl⟩
  go_enter Try.func10, Try.ntmps10
  go_wp2
  go_loop [5, 13] (fun s i => ∃ (k : Nat), k ≤ len ∧ i = .int .i64 k ∧ s = .int .u32 (acc off zs k)) (fun _ i => len - (intOf i).toNat)
  case atStart => exact ⟨0, by omega, rfl, rfl⟩
  case round =>
    obtain ⟨k, hk, rfl, rfl⟩ := hrel
    have hck : k < len → w.cell? ⟨b, o + k, none⟩ = some (.int .u8 (zs.getD k 0)) := fun h => hcell k h
    have hzk := hz k
    have Hs := Lib.hid (acc_step off zs k hzk)
    have hab := acc_bd off zs k
    clear hcell hz
    go_wp2
    · go_round
      case rel => exact ⟨k + 1, by omega, by go_num, by rw [Hs.out]⟩
      case measure => simp [intOf]; omega
    · have : k = len := by omega
      subst this
      go_ret
      exact ⟨rfl, rfl⟩

theorem inner_step (z : Int) (m : Nat) : z * 256 ^ m % 4294967296 * 256 % 4294967296 = z * 256 ^ (m + 1) % 4294967296 := by
  rw [Int.pow_succ, ← Int.mul_assoc]
  generalize z * 256 ^ m = y
  omega

theorem pow_256 (m : Nat) : (256 : Int) ^ m = 2 ^ (8 * m) := by rw [Int.pow_mul]; rfl

theorem ref_step (off : Int) (zs : List Int) (k m : Nat) (hm : (off + (k : Int)) % 4 + m = 3) :
    (acc off zs k + zs[k]?.getD 0 * 256 ^ m % 4294967296) % 4294967296 = acc off zs (k + 1) := by
  rw [show zs[k]?.getD 0 = zs.getD k 0 from by simp]
  have e : (8 * (3 - (off + (k : Int)) % 4)).toNat = 8 * m := by omega
  simp only [acc, wt, e, pow_256]
  omega

set_option maxHeartbeats 400000 in
theorem rpiece_neg (off : Int) (a : Option Addr) (len cap : Nat) (w : World) (h0 : off < 0) :
    Calls Try.prog 11 #[.int .i64 off, .slice a len cap] w fun e w' => e = .returned (.int .u32 0) ∧ w = w' := by
  go_enter Try.func11, Try.ntmps11
  go_wp2
  go_ret
  exact ⟨rfl, rfl⟩

set_option maxHeartbeats 400000 in
theorem rpiece_pos (off : Int) (a : Option Addr) (len cap : Nat) (zs : List Int) (w : World) (h0 : 0 ≤ off) (h1 : off ≤ 9223372036854775807) (hl : len ≤ 80000)
   (hb : Bys w a len zs) :
    Calls Try.prog 11 #[.int .i64 off, .slice a len cap] w fun e w' => e = .returned (.int .u32 (acc off zs len)) ∧ w = w' := by
  obtain ⟨hlen, hz, hc⟩ := hb
  have Hlen := Lib.hid hlen
  clear hlen
  rcases hc with hc | ⟨b, o, rfl, hcell⟩
  · subst hc
    go_enter Try.func11, Try.ntmps11
    go_wp2
    go_loop [5, 6] (fun s i => s = .int .u32 0 ∧ i = .int .i64 0) (fun _ i => 0 - (intOf i).toNat)
    case atStart => exact ⟨rfl, rfl⟩
    case round =>
      obtain ⟨rfl, rfl⟩ := hrel
      go_wp2
      go_ret
      exact ⟨rfl, rfl⟩
  go_enter Try.func11, Try.ntmps11
  go_wp2
  go_loop [5, 6] (fun s i => ∃ (k : Nat), k ≤ len ∧ i = .int .i64 k ∧ s = .int .u32 (acc off zs k)) (fun _ i => len - (intOf i).toNat)
  case atStart => exact ⟨0, by omega, rfl, rfl⟩
  case round =>
    obtain ⟨k, hk, rfl, rfl⟩ := hrel
    have hck : k < len → w.cell? ⟨b, o + k, none⟩ = some (.int .u8 (zs.getD k 0)) := fun h => hcell k h
    have hzk := hz k
    have Hs : Hid (∀ m : Nat, (off + (k : Int)) % 4 + m = 3 → (acc off zs k + zs[k]?.getD 0 * 256 ^ m % 4294967296) % 4294967296 = acc off zs (k + 1)) := Lib.hid fun m hm => ref_step off zs k m hm
    have hab := acc_bd off zs k
    clear hcell hz
    by_cases hlt : k < len
    · go_wp2
      go_loop [8, 9] (fun x j => ∃ (m : Nat), (off + (k : Int)) % 4 + m ≤ 3 ∧ j = .int .i64 ((off + (k : Int)) % 4 + m) ∧ x = .int .u32 (zs[k]?.getD 0 * 256 ^ m % 4294967296)) (fun _ j => 3 - (intOf j).toNat)
      case atStart => exact ⟨0, by omega, by go_num, by simp⟩
      case round =>
        obtain ⟨m, hm, rfl, rfl⟩ := hrel
        have Hi := Lib.hid (inner_step (zs[k]?.getD 0) m)
        by_cases hm3 : (off + (k : Int)) % 4 + m < 3
        · go_wp2
          go_round
          case rel => exact ⟨m + 1, by omega, by go_num, by rw [Hi.out]⟩
          case measure => simp [intOf]; omega
        · have Hs' := Lib.hid (Hs.out m (by omega))
          go_wp2
          go_round
          case rel => exact ⟨k + 1, by omega, by go_num, by rw [Hs'.out]⟩
          case measure => simp [intOf]; omega
    · go_wp2
      have : k = len := by omega
      subst this
      go_ret
      exact ⟨rfl, rfl⟩

set_option maxHeartbeats 400000 in
theorem sum_any (a : Option Addr) (len cap : Nat) (zs : List Int) (w : World) (hl : len ≤ 80000) (hb : Bys w a len zs) :
    Calls Try.prog 8 #[.slice a len cap] w fun e w' => e = .returned (.int .u32 (acc 0 zs len)) ∧ w = w' := by
  go_enter Try.func8, Try.ntmps8
  go_wp2_with (go_at_call 10; refine (piece_pos 0 a len cap zs _ (by omega) (by omega) hl hb).mono ?_; rintro e w' ⟨rfl, rfl⟩)
  go_ret
  exact ⟨rfl, rfl⟩
set_option maxHeartbeats 400000 in
theorem rsum_any (a : Option Addr) (len cap : Nat) (zs : List Int) (w : World) (hl : len ≤ 80000) (hb : Bys w a len zs) :
    Calls Try.prog 9 #[.slice a len cap] w fun e w' => e = .returned (.int .u32 (acc 0 zs len)) ∧ w = w' := by
  go_enter Try.func9, Try.ntmps9
  go_wp2_with (go_at_call 11; refine (rpiece_pos 0 a len cap zs _ (by omega) (by omega) hl hb).mono ?_; rintro e w' ⟨rfl, rfl⟩)
  go_ret
  exact ⟨rfl, rfl⟩


theorem bys_new (w : World) (xs : List Int) (n : Nat) (fr : Nat × Nat) (C : Array Value) (hC : C = (xs.map (Value.int .u8)).toArray) (hn : n = xs.length) (hz : ∀ i, 0 ≤ xs.getD i 0 ∧ xs.getD i 0 ≤ 255) :
    Bys (w.alloc (.cells C 5 fr)) (some ⟨w.heap.size, 0, none⟩) n xs := by
  subst hC hn
  refine ⟨rfl, hz, .inr ⟨_, _, rfl, fun i hi => ?_⟩⟩
  simp only [World.cell?, World.alloc]
  simp [hi]


theorem getD_bd {xs : List Int} (h : ∀ x ∈ xs, 0 ≤ x ∧ x ≤ 255) (i : Nat) : 0 ≤ xs.getD i 0 ∧ xs.getD i 0 ≤ 255 := by
  rw [List.getD_eq_getElem?_getD]
  cases e : xs[i]? with
  | none => simp
  | some v => simpa using h v (List.mem_of_getElem? e)

theorem sum_new (w : World) (b : Nat) (hbw : b = w.heap.size) (C : Array Value) (fr : Nat × Nat) (xs : List Int) (n c : Nat) (r : Int) (hC : C = (xs.map (Value.int .u8)).toArray) (hn : n = xs.length) (hl : n ≤ 80000) (hz : ∀ x ∈ xs, 0 ≤ x ∧ x ≤ 255) (hr : acc 0 xs n = r) :
    Calls Try.prog 8 #[.slice (some ⟨b, 0, none⟩) n c] (w.alloc (.cells C 5 fr)) fun e w' => e = .returned (.int .u32 r) ∧ w.alloc (.cells C 5 fr) = w' := by
  subst hr hbw
  exact sum_any _ _ _ xs _ hl (bys_new _ _ _ _ _ hC hn (getD_bd hz))
theorem piece_new (w : World) (b : Nat) (hbw : b = w.heap.size) (off : Int) (C : Array Value) (fr : Nat × Nat) (xs : List Int) (n c : Nat) (r : Int) (h0 : 0 ≤ off) (h1 : off ≤ 9223372036854775807) (hC : C = (xs.map (Value.int .u8)).toArray) (hn : n = xs.length) (hl : n ≤ 80000) (hz : ∀ x ∈ xs, 0 ≤ x ∧ x ≤ 255) (hr : acc off xs n = r) :
    Calls Try.prog 10 #[.int .i64 off, .slice (some ⟨b, 0, none⟩) n c] (w.alloc (.cells C 5 fr)) fun e w' => e = .returned (.int .u32 r) ∧ w.alloc (.cells C 5 fr) = w' := by
  subst hr hbw
  exact piece_pos _ _ _ _ xs _ h0 h1 hl (bys_new _ _ _ _ _ hC hn (getD_bd hz))

set_option maxHeartbeats 400000 in
theorem alive_any (w : World) :
    Calls Try.prog 7 #[] w fun e w' => e = .returned (.bool true) ∧ Below w.heap.size w w' := by
  have kc : ∀ (w : World) (C : Array Value) (n c b : Nat), b = w.heap.size → (convert 22 22 (.slice (some ⟨b, 0, none⟩) n c)).run Try.prog (w.alloc (.cells C 5)) = .ok (.slice (some ⟨b, 0, none⟩) n c) (w.alloc (.cells C 5 (C.size, C.size + 1))) := fun w C n c b hb => by
    subst hb
    exact Lib.run_convert_bytes_const (P := Try.prog) w 22 5 C n c Try.underlying22 Try.underlying5
  go_enter Try.func7, Try.ntmps7
  go_wp2_with fail
  refine (sum_new _ _ (by simp) _ _ [65, 66, 67, 68] 4 4 1094861636 rfl rfl (by omega) (by decide) (by decide)).mono ?_
  rintro e w' ⟨rfl, rfl⟩
  go_wp2_with fail
  refine (sum_new _ _ (by simp) _ _ [65, 66, 67, 68, 69] 5 5 2252489540 rfl rfl (by omega) (by decide) (by decide)).mono ?_
  rintro e w' ⟨rfl, rfl⟩
  go_wp2_with fail
  refine (piece_new _ _ (by simp) 2 _ _ [67, 68] 2 2 17220 (by omega) (by omega) rfl rfl (by omega) (by decide) (by decide)).mono ?_
  rintro e w' ⟨rfl, rfl⟩
  go_wp2_with fail
  refine (piece_new _ _ (by simp) 3 _ _ [68, 69] 2 2 1157627972 (by omega) (by omega) rfl rfl (by omega) (by decide) (by decide)).mono ?_
  rintro e w' ⟨rfl, rfl⟩
  go_wp2_with fail
  go_ret
  exact ⟨rfl, ((((Below.refl _ _).alloc (Nat.le_refl _) _).alloc (by simp) _).alloc (by simp; omega) _).alloc (by simp; omega) _⟩
end Go.Proofs.Ytenbgegdmnopiaa
