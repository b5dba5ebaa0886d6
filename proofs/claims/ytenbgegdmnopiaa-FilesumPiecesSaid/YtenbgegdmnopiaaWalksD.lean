/-
  FilesumPieces and FilesumPads walked where they go on to their comparisons: for a slice of at most 70000 bytes cut at two places in order; for an offset from 0 to 2^62 and at most 100 zero bytes.
-/
import Derived.Test.YtenbgegdmnopiaaWalksC
import Derived.Test.YtenbgegdmnopiaaKit
namespace Go.Proofs.Ytenbgegdmnopiaa
open Go.RowKit
open Go.SK (wp_app wp_app_zeros stop below_app addr_add)

theorem three (ys : List Int) (i j len : Nat) (hij : i ≤ j) (hj : j ≤ len) :
    (acc 0 (ys.take i) i + acc i ((ys.drop i).take (j - i)) (j - i) + acc j (ys.drop j) (len - j)) % 4294967296 = acc 0 ys len := by
  have e1 : acc 0 (ys.take i) i = acc 0 ys i := acc_congr _ _ _ _ fun k hk => by simp [List.getD_eq_getElem?_getD, hk]
  have e2 : acc i ((ys.drop i).take (j - i)) (j - i) = acc i (ys.drop i) (j - i) := acc_congr _ _ _ _ fun k hk => by simp [List.getD_eq_getElem?_getD, hk]
  have h1 := acc_add 0 ys i (j - i)
  have h2 := acc_add 0 ys j (len - j)
  rw [show i + (j - i) = j from by omega] at h1
  rw [show j + (len - j) = len from by omega] at h2
  rw [Int.zero_add] at h1 h2
  rw [e1, e2, h2, h1]
  omega

set_option maxHeartbeats 400000 in
theorem pieces_main (a0 : Option Addr) (len0 cap0 : Nat) (ys : List Int) (i j : Nat) (w : World) (hb : Bys w a0 len0 ys) (hl : len0 ≤ 70000) (hc : len0 ≤ cap0) (hij : i ≤ j) (hj : j ≤ len0) :
    Calls Try.prog 5 #[.slice a0 len0 cap0, .int .i64 i, .int .i64 j] w fun e w' => e = .returned (.bool true) ∧ Below w.heap.size w w' := by
  have b1 := Lib.hid (bys_take hb i (by omega))
  have b2 := Lib.hid (bys_take (bys_drop hb i cap0 (by omega) hc) (j - i) (by omega))
  have b3 := Lib.hid (bys_drop hb j cap0 (by omega) hc)
  have Hb := Lib.hid hb
  clear hb
  have i1 : (0 : Int) ≤ i := by omega
  have i2 : (i : Int) ≤ cap0 := by omega
  have i3 : (i : Int) ≤ j := by omega
  have i4 : (j : Int) ≤ cap0 := by omega
  have i5 : (j : Int) ≤ len0 := by omega
  have i6 : (0 : Int) ≤ j := by omega
  go_enter Try.func5, Try.ntmps5
  go_wp2_with fail
  go_quiet ((first | ((with_reducible refine quiet_left (piece_pos 0 a0 i cap0 (ys.take i) _ (by omega) (by omega) (by omega) ?_)); exact bys_drewN b1.out _) | ((with_reducible refine quiet_left (piece_pos i _ (j - i) (cap0 - i) ((ys.drop i).take (j - i)) _ (by omega) (by omega) (by omega) ?_)); exact bys_drewN b2.out _) | ((with_reducible refine quiet_left (piece_pos j _ (len0 - j) (cap0 - j) (ys.drop j) _ (by omega) (by omega) (by omega) ?_)); exact bys_drewN b3.out _)))
  generalize (if cap0 = i then a0 else Option.map (fun x => x.add i) a0) = A2
  generalize (if cap0 = j then a0 else Option.map (fun x => x.add j) a0) = A3
  have hs := three ys i j len0 hij hj
  generalize hX : acc 0 (ys.take i) i = X at hs ⊢
  generalize hY : acc i ((ys.drop i).take (j - i)) (j - i) = Y at hs ⊢
  generalize hZ : acc j (ys.drop j) (len0 - j) = Z at hs ⊢
  generalize hS : acc 0 ys len0 = S at hs
  have HS := Lib.hid hS
  have e1 : ((X + Y) % 4294967296 + Z) % 4294967296 = S := by omega
  have e2 : ((Z + Y) % 4294967296 + X) % 4294967296 = S := by omega
  clear hX hY hZ hS hs
  have E1 := Lib.hid e1
  have E2 := Lib.hid e2
  clear e1 e2
  go_wp2_with fail
  refine (sum_any a0 len0 cap0 ys _ (by omega) (bys_drewN Hb.out _)).mono ?_
  rintro e w' ⟨rfl, rfl⟩
  rw [HS.out]
  have e1 := E1.out
  go_wp2_with fail
  clear e1
  refine (sum_any a0 len0 cap0 ys _ (by omega) (bys_drewN Hb.out _)).mono ?_
  rintro e w' ⟨rfl, rfl⟩
  rw [HS.out]
  have e2 := E2.out
  go_wp2_with fail
  clear e2
  refine (alive_any _).mono ?_
  rintro e w' ⟨rfl, hbel⟩
  go_wp2_with fail
  go_ret
  exact ⟨rfl, (below_drewN (Below.refl _ _) _).trans hbel⟩

theorem Try.info5 : (Try.prog.info? 5).map (fun i => (i.zero, i.size, i.bytes)) = some (some (.int .u8 0), 1, 1) := by kernel_rfl

theorem src_bys {w : World} {a : Option Addr} {len cap : Nat} {zs : List Int} (h : Bys w a len zs) : Src Try.prog 1 22 (.slice a len cap) len (zs.map (Value.int .u8)) w := by
  obtain ⟨h1, _, h3⟩ := h
  have one : ∀ u ∈ zs.map (Value.int .u8), u.oneCell' = true := by
    intro u hu
    obtain ⟨z, _, rfl⟩ := List.mem_map.1 hu
    rfl
  rcases h3 with h3 | ⟨b, o, rfl, hc⟩
  · subst h3
    have : zs = [] := List.eq_nil_of_length_eq_zero h1
    subst this
    cases a with
    | none => exact Src.ofNil w Try.underlying22 cap
    | some x => exact Src.ofSlice w Try.underlying22 x 0 cap [] (by simp) (by simp) one
  · refine Src.ofSlice w Try.underlying22 _ len cap _ (by simp [h1]) (fun j u hu => ?_) one
    rw [List.getElem?_map] at hu
    have hj : j < len := by
      rcases Nat.lt_or_ge j zs.length with h | h
      · omega
      · simp [List.getElem?_eq_none h] at hu
    rw [addr_add, hc j hj]
    rw [List.getElem?_eq_getElem (by omega)] at hu
    simp [List.getD_eq_getElem?_getD, List.getElem?_eq_getElem (show j < zs.length by omega)]
    simpa using hu


theorem bys_kept {w w' : World} {a : Option Addr} {len : Nat} {zs : List Int} (h : Bys w a len zs) (hb : Below w.heap.size w w') : Bys w' a len zs := by
  obtain ⟨h1, h2, h3⟩ := h
  refine ⟨h1, h2, ?_⟩
  rcases h3 with h3 | ⟨b, o, rfl, hc⟩
  · exact .inl h3
  · refine .inr ⟨b, o, rfl, fun i hi => ?_⟩
    have := hc i hi
    rw [hb.cell (p := ⟨b, o + i, none⟩) (World.block_lt_of_cell? w _ this)]
    exact this

theorem own_bys {w : World} {base : Nat} {v : Value} {n : Nat} {zs : List Int} (h : w.ownsRow base 5 1 v n (zs.map (Value.int .u8))) (hz : ∀ i, 0 ≤ zs.getD i 0 ∧ zs.getD i 0 ≤ 255) :
    ∃ a c, v = .slice a n c ∧ Bys w a n zs := by
  have hl : zs.length = n := by simpa using h.1
  rcases h.2 with ⟨rfl, rfl⟩ | ⟨g, cap, cur, rfl, _⟩
  · exact ⟨_, _, rfl, hl, hz, .inl rfl⟩
  · refine ⟨_, _, rfl, hl, hz, .inr ⟨g, 0, rfl, fun i hi => ?_⟩⟩
    have := h.cells (g := g) rfl i (.int .u8 (zs.getD i 0)) (by
      rw [List.getElem?_map, List.getElem?_eq_getElem (by omega)]
      simp [List.getD_eq_getElem?_getD, List.getElem?_eq_getElem (show i < zs.length by omega)])
    rwa [addr_add] at this

theorem zc (k : Nat) : (Builtin.zeroCells (Value.int .u8 0).cells k).toList = (List.replicate k (0 : Int)).map (Value.int .u8) := by
  apply List.ext_getElem?
  intro i
  simp only [Builtin.zeroCells, Value.cells, Array.toList_map, List.map_replicate, List.getElem?_replicate]
  by_cases h : i < k
  · simp [h, Nat.mod_one]
  · simp [h]

theorem getD_app (ys : List Int) (k i : Nat) (hz : ∀ i, 0 ≤ ys.getD i 0 ∧ ys.getD i 0 ≤ 255) : 0 ≤ (ys ++ List.replicate k 0).getD i 0 ∧ (ys ++ List.replicate k 0).getD i 0 ≤ 255 := by
  rw [List.getD_eq_getElem?_getD, List.getElem?_append]
  split
  · rw [← List.getD_eq_getElem?_getD]; exact hz i
  · rw [List.getElem?_replicate]
    split <;> simp

theorem acc_pad (off : Int) (ys : List Int) (len k : Nat) (hl : ys.length = len) : acc off (ys ++ List.replicate k 0) (len + k) = acc off ys len := by
  rw [acc_zeros]
  · refine acc_congr _ _ _ _ fun i hi => ?_
    simp [List.getD_eq_getElem?_getD, List.getElem?_append, show i < ys.length by omega]
  · intro i hi
    rw [List.getD_eq_getElem?_getD, List.getElem?_append, if_neg (by omega), List.getElem?_replicate]
    split <;> rfl

set_option maxHeartbeats 400000 in
theorem pads_main (off : Int) (a1 : Option Addr) (len1 cap1 n : Nat) (ys : List Int) (w : World) (hb : Bys w a1 len1 ys) (hl : len1 ≤ 70000) (hn : n ≤ 100) (h0 : 0 ≤ off) (h1 : off ≤ 4611686018427387904) :
    Calls Try.prog 6 #[.int .i64 off, .slice a1 len1 cap1, .int .i64 n] w fun e w' => e = .returned (.bool true) ∧ Below w.heap.size w w' := by
  have E1 := Lib.hid (acc_pad off ys len1 n hb.1)
  have E2 := Lib.hid (acc_add4 off ys len1)
  have Hz := Lib.hid hb.2.1
  have Hb1 := Lib.hid (fun o => bys_kept hb ((Below.refl _ w).alloc (Nat.le_refl _) o))
  have Hb : Hid (∀ w', Below w.heap.size w w' → Bys w' a1 len1 ys) := Lib.hid fun w' h => bys_kept hb h
  clear hb
  have hz0 := zc n
  have Hzc := Lib.hid hz0
  clear hz0
  obtain ⟨i0, hi, hz0, hz1, hz2⟩ := info_parts Try.info5
  go_enter Try.func6, Try.ntmps6
  go_wp2_with (at_builtin; refine stop ?_)
  unfold Hid
  refine wp_app _ rfl (.tmp 28) (.tmp 29) 22 22 rfl 5 i0 (.int .u8 0) 1 1 Try.underlying22 hi hz0 hz1 hz2 rfl (by decide) rfl (World.ownsRow_made w #[] 0 (Nat.le_refl _) (by decide) rfl) rfl (src_bys (Hb1.out _)) (by omega) (by simp only [maxLen]; omega) (by simp) ?_
  intro v1 w1 hown1 hgr1 _
  have hbel1 : Below w.heap.size w w1 := below_app ((Below.refl _ w).alloc (Nat.le_refl _) _) (Nat.le_refl _) (World.ownsRow_made (e := 5) (size := 1) w #[] 0 (Nat.le_refl _) (by decide) rfl) (Nat.le_refl _) hgr1
  go_wp2_with (at_builtin; refine stop ?_)
  unfold Hid
  refine wp_app_zeros _ rfl (.tmp 30) (.tmp 31) 22 3 rfl 5 i0 (.int .u8 0) 1 1 .i64 .i64 Try.underlying22 Try.underlying3 hi hz0 hz1 hz2 rfl (by decide) (by simp [Value.cells, Value.oneCell']) rfl hown1 n rfl (by omega) (by simp only [maxLen]; omega) hbel1.size ?_
  intro v2 w2 hown2 hgr2 _
  have hbel2 : Below w.heap.size w w2 := hbel1.grown hgr2 hbel1.size (fun k hk => (hown1.lt k hk).1)
  rw [Hzc.out, List.nil_append, Nat.zero_add, ← List.map_append] at hown2
  obtain ⟨a2, c2, rfl, hB2⟩ := own_bys hown2 (fun i => getD_app ys n i Hz.out)
  have HB2 := Lib.hid hB2
  clear hB2 hown2 hown1 hgr1 hgr2
  go_wp2_with fail
  refine (piece_pos off a2 (len1 + n) c2 _ _ h0 (by omega) (by omega) HB2.out).mono ?_
  rintro e w' ⟨rfl, rfl⟩
  rw [E1.out]
  go_wp2_with fail
  refine (piece_pos off a1 len1 cap1 _ _ h0 (by omega) (by omega) (Hb.out _ hbel2)).mono ?_
  rintro e w' ⟨rfl, rfl⟩
  go_wp2_with fail
  refine (piece_pos (off + 4) a1 len1 cap1 _ _ (by omega) (by omega) (by omega) (Hb.out _ hbel2)).mono ?_
  rintro e w' ⟨rfl, rfl⟩
  rw [E2.out]
  go_wp2_with fail
  refine (piece_pos off a1 len1 cap1 _ _ h0 (by omega) (by omega) (Hb.out _ hbel2)).mono ?_
  rintro e w' ⟨rfl, rfl⟩
  go_wp2_with fail
  refine (alive_any _).mono ?_
  rintro e w' ⟨rfl, hbel⟩
  go_wp2_with fail
  go_ret
  exact ⟨rfl, hbel2.trans (hbel.mono hbel2.size)⟩
end Go.Proofs.Ytenbgegdmnopiaa
