/- Contracts of package octet's functions that write bytes: step, Sum, sized, slices.Clone, Put, Text, Seal. -/
import Derived.Test.YtfnnjaljnfphlaaBase
import Derived.Test.YtfnnjaljnfphlaaSpec
import Derived.Laws.BitsAllLaws
namespace Go.Proofs.Ytfnnjaljnfphlaa
open Go.RowKit
set_option maxRecDepth 100000
set_option maxHeartbeats 1000000

theorem u16_lit {a b : Int} (h : a = b) : Value.int .u16 a = Value.int .u16 b := by rw [h]
theorem u16_top (m : Nat) (hm : m < 65536) : bits .and .u16 (m : Int) 32768 = ((m / 32768 % 2 * 32768 : Nat) : Int) := by
  rw [u16_and _ _ (by omega) (by omega) (by omega) (by omega)]
  have := nat_bit 15 m
  simp only [Int.toNat_natCast, Int.reduceToNat] at *
  rw [show (32768 : Nat) = 2 ^ 15 from rfl, this]
theorem step_yes (m : Nat) (hm : m < 65536) (h : (bits BinOp.and IntKind.u16 (m : Int) 32768 != 0) = true) : bits BinOp.xor IntKind.u16 (IntKind.u16.wrap ((m : Int) * 2)) 4129 = (bitS m : Int) := by
  rw [u16_top m hm, bne_iff_ne] at h
  have h2 : m / 32768 % 2 = 1 := by omega
  rw [IntKind.wrap_u16, u16_xor _ _ (by omega) (by omega) (by omega) (by omega), bitS, if_pos h2]
  congr 1
theorem step_no (m : Nat) (hm : m < 65536) (h : (bits BinOp.and IntKind.u16 (m : Int) 32768 != 0) = false) : IntKind.u16.wrap ((m : Int) * 2) = (bitS m : Int) := by
  rw [u16_top m hm] at h
  have h2 : ¬ m / 32768 % 2 = 1 := by
    intro h3
    simp at h
    omega
  rw [IntKind.wrap_u16, bitS, if_neg h2]
  omega
theorem step_in (n : Nat) (c : UInt8) (hn : n < 65536) : bits BinOp.xor IntKind.u16 (n : Int) (IntKind.u16.wrap (IntKind.u16.wrap (c.toNat : Int) * 256)) = ((n ^^^ (c.toNat * 256) : Nat) : Int) := by
  have := byte_lt c
  rw [IntKind.wrap_u16, IntKind.wrap_u16, u16_xor _ _ (by omega) (by omega) (by omega) (by omega)]
  congr 1
  simp only [Int.toNat_natCast]
  congr 1
  omega

set_option maxHeartbeats 400000 in
theorem step_any (n : Nat) (c : UInt8) (w : World) (hn : n < 65536) :
    Calls Try.prog 113 #[.int .u16 n, .int .u8 (c.toNat : Int)] w fun e w' => e = .returned (.int .u16 (byteS n c)) ∧ w = w' := by
  go_enter Try.func113, Try.ntmps113
  go_wp2
  have hx : n ^^^ (c.toNat * 256) < 65536 := xor16 hn (by have := byte_lt c; omega)
  have h0 := step_in n c hn
  go_loop [0, 10] (fun t i => ∃ k : Nat, k ≤ 8 ∧ i = .int .i64 k ∧ t = .int .u16 (itS k (n ^^^ (c.toNat * 256)))) (fun _ i => 8 - (intOf i).toNat)
  case atStart => exact ⟨0, by omega, rfl, u16_lit h0⟩
  case round =>
    obtain ⟨k, hk, rfl, rfl⟩ := hrel
    have hm := itS_lt k _ hx
    clear h0
    by_cases hlt : k < 8
    · go_wp2
      · have ht : (bits BinOp.and IntKind.u16 (↑(itS k (n ^^^ (c.toNat * 256)))) 32768 != 0) = true := by assumption
        go_round
        case rel => exact ⟨k + 1, by omega, by go_num, u16_lit (step_yes _ hm ht)⟩
        case measure => simp [intOf]; omega
      · have ht : (bits BinOp.and IntKind.u16 (↑(itS k (n ^^^ (c.toNat * 256)))) 32768 != 0) = false := by assumption
        go_round
        case rel => exact ⟨k + 1, by omega, by go_num, u16_lit (step_no _ hm ht)⟩
        case measure => simp [intOf]; omega
    · obtain rfl : k = 8 := by omega
      go_wp2
      go_ret
      exact ⟨rfl, rfl⟩

set_option maxHeartbeats 400000 in
theorem sum_any (A : Option Addr) (n cap B : Nat) (l : List UInt8) (w : World) (hl : By w B A n l) (hn : n ≤ 140737488355328) :
    Calls Try.prog 73 #[.slice A n cap] w fun e w' => e = .returned (.int .i64 (crc l)) ∧ w = w' := by
  have HL := Lib.hid hl.len
  go_enter Try.func73, Try.ntmps73
  go_wp2
  go_loop [3, 8] (fun t i => ∃ k : Nat, k ≤ n ∧ i = .int .i64 k ∧ t = .int .u16 (crc (l.take k))) (fun _ i => n - (intOf i).toNat)
  case atStart => exact ⟨0, by omega, rfl, rfl⟩
  case round =>
    obtain ⟨k, hk, rfl, rfl⟩ := hrel
    have hm := crc_lt (l.take k)
    by_cases hlt : k < n
    · obtain ⟨b, off, c, rfl, hb, hc, hck⟩ := hl.at_ hlt
      go_wp2_with (go_at_call 113; refine (step_any _ _ _ hm).mono ?_; rintro e w' ⟨rfl, rfl⟩)
      go_round
      case rel => exact ⟨k + 1, by omega, by go_num, u16_lit (by rw [take_next hck.out, crc_snoc])⟩
      case measure => simp [intOf]; omega
    · obtain rfl : k = n := by omega
      go_wp2
      go_ret
      exact ⟨ret_i (by rw [List.take_of_length_le (by rw [HL.out]; omega)]), rfl⟩

theorem info5 : (Try.prog.info? 5).map (fun i => (i.zero, i.size, i.bytes)) = some (some (.int .u8 0), 1, 1) := by kernel_rfl
theorem info3 : (Try.prog.info? 3).map (fun i => (i.zero, i.size, i.bytes)) = some (some (.int .i64 0), 1, 8) := by kernel_rfl

set_option maxHeartbeats 400000 in
theorem clone_any (A : Option Addr) (n cap : Nat) (l : List UInt8) (w : World) (hl : By w w.heap.size A n l) (hn : n ≤ 140737488355328) :
    Calls Try.prog 106 #[.slice A n cap] w fun e w' => ∃ v, e = .returned v ∧ w'.ownsRow w.heap.size 5 1 v n (l.map byV) ∧ Below w.heap.size w w' := by
  obtain ⟨i0, hi0, hz0, hz1, hz2⟩ := info_parts info5
  have qT : ∀ (w : World) (a : Option Addr) (n c n' c' : Nat), (binOp .eql 32 (.slice a n c) (.slice none n' c')).run Try.prog w = .ok (.bool a.isNone) w := fun w a n c n' c' => Lib.run_eql_slice_nil w _ _ a n c n' c' Try.underlying32
  rcases A with _ | ad
  · have h0 : n = 0 := by
      rcases Nat.eq_zero_or_pos n with h0 | h0
      · exact h0
      · obtain ⟨b, off, h, _⟩ := hl.2 h0
        cases h
    subst h0
    have hnil := Rd.nil_len hl
    have H := Lib.hid hnil
    clear hnil
    go_enter Try.func106, Try.ntmps106
    go_wp2
    go_ret
    exact ⟨_, rfl, by rw [H.out]; exact World.ownsRow_nil _ _ _ _, Below.refl _ _⟩
  · go_enter Try.func106, Try.ntmps106
    go_wp2_with (at_builtin; refine wpList_append_rd _ rfl _ _ _ rfl w.heap.size 5 i0 _ 1 1 Try.underlying32 hi0 hz0 hz1 hz2 rfl (by omega) (.slice (some ⟨w.heap.size, 0, none⟩) 0 0) 0 [] rfl (World.ownsRow_made w #[] 0 (Nat.le_refl _) (by unfold maxLen; omega) rfl) w.heap.size (some ad) n cap (l.map byV) rfl (hl.alloc (Nat.le_refl _) _) (byV_one l) (by unfold maxLen; omega) (by omega) (by simp) ?_; intro v1 w1 hown1 hg1 hat1)
    go_ret
    have hb : Below w.heap.size w w1 := ((Below.refl _ w).alloc (Nat.le_refl _) _).grown hg1 (by simp) (by simp [Value.ownBlock])
    exact ⟨_, rfl, by simpa using hown1, hb⟩

theorem shr_none {x : Int} {size : Nat} (h0 : 0 ≤ x) (h : x < ((256 ^ size : Nat) : Int)) : (x / 2 ^ (8 * size) != 0) = false := by
  have e : (2 : Int) ^ (8 * size) = ((256 ^ size : Nat) : Int) := by rw [Int.pow_mul]; norm_cast
  rw [e]
  simp only [bne_eq_false_iff_eq]
  exact Int.ediv_eq_zero_of_lt h0 h
theorem byte_val {x : Int} {q : Nat} (h0 : 0 ≤ x) : x / 2 ^ (8 * q) % 256 = ((UInt8.ofNat (x.toNat / 256 ^ q)).toNat : Int) := by
  obtain ⟨y, rfl⟩ := Int.eq_ofNat_of_zero_le h0
  have e : (2 : Int) ^ (8 * q) = ((256 ^ q : Nat) : Int) := by rw [Int.pow_mul]; norm_cast
  rw [e]
  simp
theorem sized_any (size : Nat) (w : World) (hs : size = 1 ∨ size = 2 ∨ size = 4) :
    Calls Try.prog 105 #[.int .i64 (size : Int)] w fun e w' => e = .returned (.bool true) ∧ w = w' := by
  rcases hs with rfl | rfl | rfl
  all_goals
    go_enter Try.func105, Try.ntmps105
    go_wp2
    go_ret
    exact ⟨rfl, rfl⟩

set_option maxRecDepth 100000 in
set_option maxHeartbeats 1000000 in
theorem put_any (A A2 : Option Addr) (n cap m cap2 size : Nat) (l : List UInt8) (xs : List Int) (w : World) (hl : By w w.heap.size A n l) (hx : In w w.heap.size A2 m xs)
    (hs : size = 1 ∨ size = 2 ∨ size = 4) (hn : n ≤ 1000000) (hm : m ≤ 1000) (hr : ∀ x ∈ xs, 0 ≤ x ∧ x < (256 ^ size : Nat)) :
    Calls Try.prog 58 #[.slice A n cap, .int .i64 (size : Int), .slice A2 m cap2] w fun e w' => ∃ v, e = .returned (.tuple #[v, .int .i64 0]) ∧
      w'.ownsRow w.heap.size 5 1 v (n + m * size) ((l ++ xs.flatMap fun x => be size x.toNat).map byV) ∧ Below w.heap.size w w' := by
  obtain ⟨i0, hi0, hz0, hz1, hz2⟩ := info_parts info5
  have hs1 : 1 ≤ size := by omega
  have hs4 : size ≤ 4 := by omega
  have HR := Lib.hid hr
  clear hr
  have HS := Lib.hid hs
  clear hs
  go_enter Try.func58, Try.ntmps58
  go_wp2_with (first | (go_at_call 105; refine (sized_any size _ HS.out).mono ?_; rintro e w1 ⟨rfl, rfl⟩) | (go_at_call 106; refine (clone_any _ _ _ _ _ hl (by omega)).mono ?_; rintro e w1 ⟨v1, rfl, hown1, hb1⟩))
  go_loopw [8, 19] (fun v i wr => ∃ k : Nat, k ≤ m ∧ i = .int .i64 k ∧ wr.ownsRow w.heap.size 5 1 v (n + k * size) ((l ++ (xs.take k).flatMap fun x => be size x.toNat).map byV) ∧ Below w.heap.size w wr)
      (fun _ i _ => m - (intOf i).toNat)
  case atStart => exact ⟨0, by omega, rfl, by simpa using hown1, hb1⟩
  case round =>
      obtain ⟨k, hk, rfl, hown, hb⟩ := hrel
      by_cases hlt : k < m
      · obtain ⟨b, off, x, rfl, hbb, hc, hxk⟩ := (hx.below hb).at_ hlt
        have hx0 := HR.out x (List.mem_of_getElem? hxk.out)
        obtain ⟨hx1, hx2⟩ := hx0
        have HX2 := Lib.hid hx2
        clear hx2
        have ht : (x / 2 ^ (8 * size) != 0) = false := shr_none hx1 HX2.out
        go_wp2_with fail
        go_loopw [8, 11] (fun v s wi => ∃ (r : Nat) (t : Int) (pre : List UInt8), s = .int .i64 t ∧ Hid (t = 8 * (r : Int) - 8) ∧ r ≤ size ∧ Hid (pre ++ be r x.toNat = be size x.toNat) ∧ pre.length + r ≤ size ∧
            wi.ownsRow w.heap.size 5 1 v (n + k * size + pre.length) (((l ++ (xs.take k).flatMap fun x => be size x.toNat) ++ pre).map byV) ∧ Below w.heap.size w wi)
          (fun _ s _ => (8 + intOf s).toNat)
        case atStart => exact ⟨size, _, [], rfl, by show _ = _; omega, Nat.le_refl _, rfl, by simp, by simpa using hown, hb⟩
        case round =>
          obtain ⟨r, t, pre, rfl, Ht, hr, Hp, hpl, hown2, hb2⟩ := hrel
          have ht2 := Ht.out
          rcases r with _ | q
          · obtain rfl : t = -8 := by omega
            clear ht2
            have hp2 := Hp.out
            simp only [be, List.append_nil] at hp2
            have hpl2 : pre.length = size := by rw [hp2, be_len]
            have HP2 := Lib.hid hp2
            have HPL2 := Lib.hid hpl2
            clear hp2 hpl2
            go_wp2
            go_roundw
            case rel =>
              refine ⟨k + 1, by omega, by go_num, ?_, hb2⟩
              have e1 : n + k * size + pre.length = n + (k + 1) * size := by rw [HPL2.out, Nat.add_mul]; omega
              rw [take_next hxk.out, List.flatMap_append, ← e1]
              simpa [HP2.out] using hown2
            case measure => simp [intOf]; omega
          · obtain rfl : t = ((8 * q : Nat) : Int) := by omega
            clear ht2
            have hsz := hb2.size
            have hks : k * size ≤ 1000 * 4 := Nat.mul_le_mul (by omega) hs4
            go_wp2_with (at_builtin; refine wpList_append_rd _ rfl _ _ _ rfl w.heap.size 5 i0 _ 1 1 Try.underlying32 hi0 hz0 hz1 hz2 rfl (by omega) _ _ _ rfl (hown2.alloc _) (wr.heap.size + 1) (some ⟨wr.heap.size, 0, none⟩) 1 1 [.int .u8 (x / 2 ^ (8 * q) % 256)] rfl ?_ (by simp [Value.oneCell']) ?_ ?_ ?_ ?_; rotate_right; intro v2 w2 hown3 hg2 hat2)
            case refine_1 => exact (by simpa using (Bk.new wr 5 #[.int .u8 (x / 2 ^ (8 * q) % 256)]).rd (n := 1) (size := 1) rfl)
            case refine_2 => unfold maxLen; omega
            case refine_3 => omega
            case refine_4 => simp; omega
            go_roundw
            case rel =>
              have hb3 : Below w.heap.size w w2 := (hb2.alloc hsz _).grown hg2 (by simp; omega) (fun j hj => (hown2.lt j hj).1)
              refine ⟨q, _, pre ++ [UInt8.ofNat (x.toNat / 256 ^ q)], rfl, rfl, by omega, ?_, by simp; omega, ?_, hb3⟩
              · have := Hp.out
                show _ = _
                rw [List.append_assoc]
                exact this
              · rw [← List.append_assoc, List.map_append, List.length_append]
                rw [byte_val hx1] at hown3
                simp only [List.map_append, List.map_cons, List.map_nil, List.append_assoc, Nat.add_assoc, List.length_singleton] at hown3 ⊢
                exact hown3
            case measure => simp [intOf]; omega
      · obtain rfl : k = m := by omega
        have hlen := hx.len
        have HL := Lib.hid hlen
        clear hlen
        go_wp2
        go_ret2
        refine ⟨_, rfl, ?_, hb⟩
        rw [List.take_of_length_le (by rw [HL.out]; omega)] at hown
        exact hown
theorem own_of {w : World} {base n : Nat} {v : Value} {l : List UInt8} (h : w.ownsRow base 5 1 v n (l.map byV)) : ∃ A c, v = .slice A n c ∧ OwnB w base A n c l := by
  obtain ⟨A, c, rfl, _⟩ := own_any h
  exact ⟨A, c, rfl, h⟩

/-- Put of one number. -/
theorem put1 (A A2 : Option Addr) (n cap cap2 size : Nat) (l : List UInt8) (x : Int) (w : World) (hl : By w w.heap.size A n l) (hx : In w w.heap.size A2 1 [x])
    (hs : size = 1 ∨ size = 2 ∨ size = 4) (hn : n ≤ 1000000) (hr : 0 ≤ x ∧ x < (256 ^ size : Nat)) :
    Calls Try.prog 58 #[.slice A n cap, .int .i64 (size : Int), .slice A2 1 cap2] w fun e w' => ∃ A' N c', e = .returned (.tuple #[.slice A' N c', .int .i64 0]) ∧
      OwnB w' w.heap.size A' N c' (l ++ be size x.toNat) ∧ Below w.heap.size w w' := by
  refine (put_any A A2 n cap 1 cap2 size l [x] w hl hx hs hn (by omega) (by simpa using hr)).mono ?_
  rintro e w' ⟨v, rfl, h1, h2⟩
  obtain ⟨A', c', rfl, h3⟩ := own_of h1
  exact ⟨A', _, c', rfl, by simpa using h3, h2⟩

/-- Put of several numbers. -/
theorem puts (A A2 : Option Addr) (n cap m cap2 size : Nat) (l : List UInt8) (xs : List Int) (w : World) (hl : By w w.heap.size A n l) (hx : In w w.heap.size A2 m xs)
    (hs : size = 1 ∨ size = 2 ∨ size = 4) (hn : n ≤ 1000000) (hm : m ≤ 1000) (hr : ∀ x ∈ xs, 0 ≤ x ∧ x < (256 ^ size : Nat)) :
    Calls Try.prog 58 #[.slice A n cap, .int .i64 (size : Int), .slice A2 m cap2] w fun e w' => ∃ A' N c', e = .returned (.tuple #[.slice A' N c', .int .i64 0]) ∧
      OwnB w' w.heap.size A' N c' (l ++ xs.flatMap fun x => be size x.toNat) ∧ Below w.heap.size w w' := by
  refine (put_any A A2 n cap m cap2 size l xs w hl hx hs hn hm hr).mono ?_
  rintro e w' ⟨v, rfl, h1, h2⟩
  obtain ⟨A', c', rfl, h3⟩ := own_of h1
  exact ⟨A', _, c', rfl, h3, h2⟩

theorem text_any (A A2 : Option Addr) (n cap m cap2 : Nat) (l l2 : List UInt8) (w : World) (hl : By w w.heap.size A n l) (hx : By w w.heap.size A2 m l2)
    (hn : n ≤ 900000) (hm : m ≤ 65535) :
    Calls Try.prog 59 #[.slice A n cap, .slice A2 m cap2] w fun e w' => ∃ A' N c', e = .returned (.tuple #[.slice A' N c', .int .i64 0]) ∧
      OwnB w' w.heap.size A' N c' (l ++ be 2 m ++ l2) ∧ Below w.heap.size w w' := by
  obtain ⟨i0, hi0, hz0, hz1, hz2⟩ := info_parts info5
  have hI : In (w.alloc (.cells #[.int .i64 (m : Int)] 3)) (w.alloc (.cells #[.int .i64 (m : Int)] 3)).heap.size (some ⟨w.heap.size, 0, none⟩) 1 [(m : Int)] := (Bk.new w 3 #[.int .i64 (m : Int)]).rd (n := 1) (size := 1) rfl
  have hl1 := (hl.alloc (Nat.le_refl _) (.cells #[.int .i64 (m : Int)] 3)).more (B' := (w.alloc (.cells #[.int .i64 (m : Int)] 3)).heap.size) (by simp)
  have HN := Lib.hid hl.len
  go_enter Try.func59, Try.ntmps59
  go_wp2_with (first | (go_at_call 58; refine (put1 _ _ n _ _ 2 l (m : Int) _ hl1 hI (by omega) (by omega) (by omega)).mono ?_; rintro e w1 ⟨A1, N1, c1, rfl, hown1, hb1⟩; have hlen : N1 ≤ 900002 := (by have h1 := hown1.len; have h2 := HN.out; simp [be_len] at h1; omega); have hbb : Below w.heap.size w w1 := ((Below.refl _ w).alloc (Nat.le_refl _) _).trans (hb1.mono (by simp))) | (at_builtin; refine wpList_append_rd _ rfl (.tmp 19) (.tmp 20) _ rfl w.heap.size 5 i0 _ 1 1 Try.underlying32 hi0 hz0 hz1 hz2 rfl (by omega) _ _ _ rfl (own_mono hown1 (by simp)) w.heap.size A2 m cap2 (l2.map byV) rfl (Rd.below hx hbb) (byV_one l2) (by unfold maxLen; omega) (by omega) hbb.size ?_; intro v2 w2 hown2 hg2 hat2))
  go_ret2
  have hb2 : Below w.heap.size w w2 := hbb.grown hg2 hbb.size (fun j hj => ((own_mono hown1 (base' := w.heap.size) (by simp)).lt j hj).1)
  rw [← List.map_append] at hown2
  obtain ⟨A', c', rfl, h3⟩ := own_of hown2
  exact ⟨A', _, c', rfl, by simpa using h3, hb2⟩

theorem seal_any (A : Option Addr) (n cap k : Nat) (l : List UInt8) (w : World) (hl : By w w.heap.size A n l) (hn : n ≤ 509) (hk : k ≤ 255) :
    Calls Try.prog 35 #[.int .i64 (k : Int), .slice A n cap] w fun e w' => ∃ A' N c', e = .returned (.tuple #[.slice A' N c', .int .i64 0]) ∧
      OwnB w' w.heap.size A' N c' (sealB k l) ∧ Below w.heap.size w w' := by
  obtain ⟨i0, hi0, hz0, hz1, hz2⟩ := info_parts info5
  have hkv : ([Value.int .u8 (k : Int)] ++ l.map byV) = (UInt8.ofNat k :: l).map byV := by simp [byV]; omega
  have HK := Lib.hid hkv
  clear hkv
  have HS := Lib.hid (crc_lt (UInt8.ofNat k :: l))
  go_enter Try.func35, Try.ntmps35
  go_wp2_with (first | (at_builtin; refine wpList_append_rd _ rfl (.tmp 22) (.tmp 23) _ rfl w.heap.size 5 i0 _ 1 1 Try.underlying32 hi0 hz0 hz1 hz2 rfl (by omega) (.slice (some ⟨w.heap.size, 0, none⟩) 1 1) 1 [.int .u8 (k : Int)] rfl (own_new w 5 #[.int .u8 (k : Int)] (by unfold maxLen; simp)) w.heap.size A n cap (l.map byV) rfl (Rd.alloc hl (Nat.le_refl _) _) (byV_one l) (by unfold maxLen; omega) (by omega) (by simp) ?_; intro v1 w1 hown1 hg1 hat1; rw [HK.out] at hown1; obtain ⟨A1, c1, rfl, hO1⟩ := own_of hown1; have hB1 := hO1.by_; have hb1 : Below w.heap.size w w1 := ((Below.refl _ w).alloc (Nat.le_refl _) _).grown hg1 (by simp) (by simp [Value.ownBlock]); have hx1 : 1 + n ≤ 510 := by omega) | (go_at_call 73; refine (sum_any _ _ _ _ _ _ hB1 (by omega)).mono ?_; rintro e w2 ⟨rfl, rfl⟩; have hI := In.box w1 (crc (UInt8.ofNat k :: l) : Int); have hB2 := hB1.boxed (.cells #[.int .i64 (crc (UInt8.ofNat k :: l) : Int)] 3)) | (go_at_call 58; refine (put1 _ _ _ _ _ 2 _ _ _ hB2 hI (by omega) (by omega) (by have := HS.out; omega)).mono ?_; rintro e w3 ⟨A3, N3, c3, rfl, hO3, hb3⟩))
  go_ret2
  exact ⟨_, _, _, rfl, own_mono hO3 (by have := hb1.size; simp; omega), hb1.trans ((Below.new _ hb3).mono hb1.size)⟩

/-- A body that is too long has no frame. -/
theorem seal_long (A : Option Addr) (n cap k : Nat) (w : World) (hn : 509 < n) (hn2 : n ≤ 140737488355328) (hk : k ≤ 255) :
    Calls Try.prog 35 #[.int .i64 (k : Int), .slice A n cap] w fun e w' => e = .returned (.tuple #[.slice none 0 0, .int .i64 5]) ∧ w = w' := by
  go_enter Try.func35, Try.ntmps35
  go_wp2
  go_ret2
  exact ⟨rfl, rfl⟩
end Go.Proofs.Ytfnnjaljnfphlaa
