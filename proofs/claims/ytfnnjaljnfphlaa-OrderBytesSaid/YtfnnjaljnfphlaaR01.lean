/- Contracts of the references' octet and of the helpers: Bring, CopyBytes, EqBytes, Sum, Put, Text, Seal, Open, Read, Num, Text, End. -/
import Derived.Test.YtfnnjaljnfphlaaRdr
import Derived.Laws.BytesArg
import Derived.Deep.QuietTactic
import Derived.BigQuiet
import Derived.Deep.DeepCutAuto
namespace Go.Proofs.Ytfnnjaljnfphlaa
open Go.RowKit
set_option maxRecDepth 100000
set_option maxHeartbeats 1000000

theorem conv_by {w : World} {B : Nat} {A : Option Addr} {n c : Nat} {l : List UInt8} (h : By w B A n l) : (convert 32 9 (.slice A n c)).run Try.prog w = .ok (.string ⟨l.toArray⟩) w := by
  rcases A with _ | ad
  · have h0 : n = 0 := by
      rcases Nat.eq_zero_or_pos n with h0 | h0
      · exact h0
      · obtain ⟨b, off, h, _⟩ := h.2 h0
        cases h
    subst h0
    have hl : l = [] := List.eq_nil_of_length_eq_zero h.len
    subst hl
    exact run_convert_bytes_nil w 32 5 Try.underlying32 Try.underlying5 0 c 9 Try.underlying9
  · rw [run_convert_bytes_string w 32 9 5 _ n c Try.underlying32 Try.underlying5 Try.underlying9]
    have hl : (loadCells ad n).run Try.prog w = .ok ((l.map fun x => (x.toNat : Int)).map (Value.int .u8)).toArray w := by
      have := run_loadCells_list (P := Try.prog) w ad (l.map byV) (fun j v hj => by
        have hjl : j < n := by
          rcases Nat.lt_or_ge j n with h1 | h1
          · exact h1
          · rw [List.getElem?_eq_none (by rw [List.length_map, h.len]; exact h1)] at hj
            cases hj
        obtain ⟨b, off, hA, _, hc⟩ := h.2 (by omega)
        injection hA with hA
        subst hA
        have := hc j v hj
        unfold Addr.add
        by_cases h0 : j = 0
        · subst h0; simpa using this
        · simpa [h0] using this)
      simpa [h.len, byV, Function.comp_def] using this
    rw [run_bytesToString w _ n c _ hl, foldl_push_bytes]
    have e : ((l.map fun x => (x.toNat : Int)).map fun n => UInt8.ofNat n.toNat) = l := by
      rw [List.map_map]
      conv => rhs; rw [← List.map_id l]
      exact List.map_congr_left (fun x _ => by simp)
    rw [e]
    simp [ByteArray.empty, ByteArray.emptyWithCapacity]
    rfl

theorem eqbytes_any (A A2 : Option Addr) (n c n2 c2 B B2 : Nat) (l l2 : List UInt8) (w : World) (h : By w B A n l) (h2 : By w B2 A2 n2 l2) :
    Calls Try.prog 29 #[.slice A n c, .slice A2 n2 c2] w fun e w' => e = .returned (.bool (l == l2)) ∧ w = w' := by
  have k1 := conv_by (c := c) h
  have k2 := conv_by (c := c2) h2
  go_enter Try.func29, Try.ntmps29
  go_wp2
  go_ret
  exact ⟨ret_b (by simp), rfl⟩

theorem bring_any (i n : Int) (w : World) (hn : 1 ≤ n) (hn2 : n ≤ 1099511627776) (hi : -9223372036854775808 ≤ i) (hi2 : i ≤ 9223372036854775807) :
    Calls Try.prog 20 #[.int .i64 i, .int .i64 n] w fun e w' => e = .returned (.int .i64 (i % n)) ∧ w = w' := by
  have hne : (n == 0) = false := by simp; omega
  by_cases h0 : 0 ≤ i
  · have hm : 0 ≤ i % n := Int.emod_nonneg _ (by omega)
    go_enter Try.func20, Try.ntmps20
    go_wp2
    go_ret
    exact ⟨rfl, rfl⟩
  · have ht : i.tmod n = -((-i) % n) := by
      rw [← Int.neg_neg i, Int.neg_tmod, Int.tmod_eq_emod_of_nonneg (by omega), Int.neg_neg]
    have hm : 0 ≤ (-i) % n := Int.emod_nonneg _ (by omega)
    have hm2 : (-i) % n < n := Int.emod_lt_of_pos _ (by omega)
    have hb1 : -n < i.tmod n := by omega
    have hb2 : i.tmod n ≤ 0 := by omega
    by_cases hz : i.tmod n < 0
    · have hr : i.tmod n + n = i % n := by
        rw [ht] at hz ⊢
        have h1 : (-i) % n + i % n = n := by
          have := Int.emod_nonneg i (show n ≠ 0 by omega)
          have := Int.emod_lt_of_pos i (show 0 < n by omega)
          have e1 := Int.mul_ediv_add_emod i n
          have e2 := Int.mul_ediv_add_emod (-i) n
          have e3 : n * (i / n + (-i) / n) + (i % n + (-i) % n) = 0 := by rw [Int.mul_add]; omega
          have h3 : (i % n + (-i) % n) % n = 0 := by
            rw [show i % n + (-i) % n = n * (-(i / n + (-i) / n)) by rw [Int.mul_neg]; omega]
            exact Int.mul_emod_right _ _
          rcases Int.lt_or_le (i % n + (-i) % n) n with h4 | h4
          · rw [Int.emod_eq_of_lt (by omega) h4] at h3; omega
          · have h5 : (i % n + (-i) % n - n) % n = 0 := by rw [Int.sub_emod_right]; exact h3
            rw [Int.emod_eq_of_lt (by omega) (by omega)] at h5
            omega
        omega
      have HR := Lib.hid hr
      clear hr ht
      go_enter Try.func20, Try.ntmps20
      go_wp2
      go_ret
      exact ⟨ret_i HR.out, rfl⟩
    · have hr : i.tmod n = i % n := by
        have h1 : (-i) % n = 0 := by omega
        have h2 : i % n = 0 := by
          have := Int.dvd_of_emod_eq_zero h1
          exact Int.emod_eq_zero_of_dvd ((Int.dvd_neg).1 this)
        omega
      have HR := Lib.hid hr
      clear hr ht
      go_enter Try.func20, Try.ntmps20
      go_wp2
      go_ret
      exact ⟨ret_i HR.out, rfl⟩

theorem copy_any (A : Option Addr) (n cap B : Nat) (l : List UInt8) (w : World) (hl : By w B A n l) (hn : n ≤ 140737488355328) :
    Calls Try.prog 24 #[.slice A n cap] w fun e w' => ∃ A' N c', e = .returned (.slice A' N c') ∧ OwnB w' w.heap.size A' N c' l ∧ Below w.heap.size w w' := by
  obtain ⟨i0, hi0, hz0, hz1, hz2⟩ := info_parts info5
  go_enter Try.func24, Try.ntmps24
  go_wp2_with (at_builtin; refine wpList_append_rd _ rfl _ _ _ rfl w.heap.size 5 i0 _ 1 1 Try.underlying32 hi0 hz0 hz1 hz2 rfl (by omega) (.slice none 0 0) 0 [] rfl (World.ownsRow_nil _ _ _ _) B A n cap (l.map byV) rfl hl (byV_one l) (by unfold maxLen; omega) (by omega) (by simp) ?_; intro v1 w1 hown1 hg1 hat1)
  go_ret
  have hb : Below w.heap.size w w1 := (Below.refl _ w).grown hg1 (Nat.le_refl _) (by simp [Value.ownBlock])
  rw [List.nil_append] at hown1
  obtain ⟨A', c', rfl, h3⟩ := own_of hown1
  exact ⟨A', _, c', rfl, h3, hb⟩

theorem xor_i64 (a b : Nat) (ha : a < 65536) (hb : b < 65536) : bits BinOp.xor IntKind.i64 (a : Int) (b : Int) = ((a ^^^ b : Nat) : Int) := by
  have hx := xor16 ha hb
  show IntKind.i64.wrap ((BitVec.ofInt 64 (a : Int) ^^^ BitVec.ofInt 64 (b : Int)).toNat : Int) = _
  rw [BitVec.toNat_xor, BitVec.ofInt_natCast, BitVec.ofInt_natCast, BitVec.toNat_ofNat, BitVec.toNat_ofNat, Nat.mod_eq_of_lt (by omega), Nat.mod_eq_of_lt (by omega), IntKind.wrap_i64]
  omega
theorem rstep_in (n : Nat) (c : UInt8) (hn : n < 65536) : bits BinOp.xor IntKind.i64 (n : Int) ((c.toNat : Int) * 256) = ((n ^^^ (c.toNat * 256) : Nat) : Int) := by
  have := byte_lt c
  rw [show (c.toNat : Int) * 256 = ((c.toNat * 256 : Nat) : Int) by omega, xor_i64 _ _ hn (by omega)]
theorem rstep_yes (m : Nat) (hm : m < 65536) (h : 65536 ≤ (m : Int) * 2) : bits BinOp.xor IntKind.i64 ((m : Int) * 2 - 65536) 4129 = (bitS m : Int) := by
  have e : (m : Int) * 2 - 65536 = ((m * 2 % 65536 : Nat) : Int) := by omega
  rw [e, show (4129 : Int) = ((4129 : Nat) : Int) from rfl, xor_i64 _ _ (by omega) (by omega), bitS, if_pos (by omega)]
theorem rstep_no (m : Nat) (h : (m : Int) * 2 < 65536) : (m : Int) * 2 = (bitS m : Int) := by
  rw [bitS, if_neg (by omega)]
  omega

theorem rsum_any (A : Option Addr) (n cap B : Nat) (l : List UInt8) (w : World) (hl : By w B A n l) (hn : n ≤ 140737488355328) :
    Calls Try.prog 107 #[.slice A n cap] w fun e w' => e = .returned (.int .i64 (crc l)) ∧ w = w' := by
  have HL := Lib.hid hl.len
  go_enter Try.func107, Try.ntmps107
  go_wp2
  go_loop [3, 4] (fun t i => ∃ k : Nat, k ≤ n ∧ i = .int .i64 k ∧ t = .int .i64 (crc (l.take k))) (fun _ i => n - (intOf i).toNat)
  case atStart => exact ⟨0, by omega, rfl, rfl⟩
  case round =>
    obtain ⟨k, hk, rfl, rfl⟩ := hrel
    have hm := crc_lt (l.take k)
    by_cases hlt : k < n
    · obtain ⟨b, off, c, rfl, hb, hc, hck⟩ := hl.at_ hlt
      have hcl := byte_lt c
      have hx : crc (l.take k) ^^^ (c.toNat * 256) < 65536 := xor16 hm (by omega)
      obtain ⟨X, hX⟩ : ∃ X, crc (l.take k) ^^^ (c.toNat * 256) = X := ⟨_, rfl⟩
      have HI := Lib.hid (rstep_in (crc (l.take k)) c hm)
      rw [hX] at hx HI
      have HX := Lib.hid hX
      clear hX
      go_wp2
      go_loop [3, 5] (fun t i => ∃ j : Nat, j ≤ 8 ∧ i = .int .i64 j ∧ t = .int .i64 (itS j X)) (fun _ i => 8 - (intOf i).toNat)
      case atStart => exact ⟨0, by omega, rfl, val_i HI.out⟩
      case round =>
        obtain ⟨j, hj, rfl, rfl⟩ := hrel
        have hm2 := itS_lt j _ hx
        obtain ⟨Y, hY⟩ : ∃ Y, itS j X = Y := ⟨_, rfl⟩
        rw [hY] at hm2
        have HY := Lib.hid hY
        rw [hY]
        clear hc hY
        by_cases hlt2 : j < 8
        · by_cases ht : 65536 ≤ ((Y : Nat) : Int) * 2
          · go_wp2
            go_round
            case rel => exact ⟨j + 1, by omega, by go_num, val_i (by rw [itS, HY.out]; exact rstep_yes _ hm2 ht)⟩
            case measure => simp [intOf]; omega
          · go_wp2
            go_round
            case rel => exact ⟨j + 1, by omega, by go_num, val_i (by rw [itS, HY.out]; exact rstep_no _ (by omega))⟩
            case measure => simp [intOf]; omega
        · obtain rfl : j = 8 := by omega
          go_wp2
          go_round
          case rel => exact ⟨k + 1, by omega, by go_num, val_i (by rw [take_next hck.out, crc_snoc]; unfold byteS; rw [HX.out, HY.out])⟩
          case measure => simp [intOf]; omega
    · obtain rfl : k = n := by omega
      go_wp2
      go_ret
      exact ⟨ret_i (by rw [List.take_of_length_le (by rw [HL.out]; omega)]), rfl⟩

theorem shl_top {x : Int} {size : Nat} (h4 : size ≤ 4) (h : x < ((256 ^ size : Nat) : Int)) : x < wrap64 (2 ^ (8 * size)) := by
  have e : (2 : Int) ^ (8 * size) = ((256 ^ size : Nat) : Int) := by rw [Int.pow_mul]; norm_cast
  have h2 : (256 : Nat) ^ size ≤ 256 ^ 4 := Nat.pow_le_pow_right (by omega) h4
  have h3 : ((256 ^ size : Nat) : Int) ≤ 4294967296 := by omega
  have h4 : (0 : Int) ≤ ((256 ^ size : Nat) : Int) := Int.natCast_nonneg _
  rw [e]
  generalize ((256 ^ size : Nat) : Int) = Z at *
  rw [IntWalk.wrap64_in Z ⟨by omega, by omega⟩]
  exact h
theorem rput_any (A A2 : Option Addr) (n cap m cap2 size : Nat) (l : List UInt8) (xs : List Int) (w : World) (hl : By w w.heap.size A n l) (hx : In w w.heap.size A2 m xs)
    (hs : size = 1 ∨ size = 2 ∨ size = 4) (hn : n ≤ 1000000) (hm : m ≤ 1000) (hr : ∀ x ∈ xs, 0 ≤ x ∧ x < (256 ^ size : Nat)) :
    Calls Try.prog 60 #[.slice A n cap, .int .i64 (size : Int), .slice A2 m cap2] w fun e w' => ∃ v, e = .returned (.tuple #[v, .int .i64 0]) ∧
      w'.ownsRow w.heap.size 5 1 v (n + m * size) ((l ++ xs.flatMap fun x => be size x.toNat).map byV) ∧ Below w.heap.size w w' := by
  obtain ⟨i0, hi0, hz0, hz1, hz2⟩ := info_parts info5
  have hs1 : 1 ≤ size := by omega
  have hs4 : size ≤ 4 := by omega
  have HR := Lib.hid hr
  clear hr
  have HS := Lib.hid hs
  clear hs
  go_enter Try.func60, Try.ntmps60
  go_upto_region 1 with fail
  go_cut [20] (fun s wx => s = .bool false ∧ w = wx)
  case first =>
    rcases HS.out with rfl | rfl | rfl
    all_goals
      go_wp2_with fail
      go_meet
      exact ⟨rfl, rfl⟩
  case rest =>
    obtain ⟨rfl, rfl⟩ := hcut
    go_wp2_with (first | (go_at_call 24; refine (copy_any _ _ _ _ _ _ hl (by omega)).mono ?_; rintro e w1 ⟨A1, N1, c1, rfl, hown1, hb1⟩))
    have hlen := hown1.len
    have hln := hl.len
    obtain rfl : N1 = n := by omega
    clear hlen hln
    go_loopw [8, 9] (fun v i wr => ∃ k : Nat, k ≤ m ∧ i = .int .i64 k ∧ wr.ownsRow w.heap.size 5 1 v (N1 + k * size) ((l ++ (xs.take k).flatMap fun x => be size x.toNat).map byV) ∧ Below w.heap.size w wr)
        (fun _ i _ => m - (intOf i).toNat)
    case atStart => exact ⟨0, by omega, rfl, (by simpa using (show w1.ownsRow w.heap.size 5 1 (.slice A1 N1 c1) N1 (l.map byV) from hown1)), hb1⟩
    case round =>
      obtain ⟨k, hk, rfl, hown, hb⟩ := hrel
      by_cases hlt : k < m
      · obtain ⟨b, off, x, rfl, hbb, hcw, hxk⟩ := hx.at_ hlt
        have hc := (hb.cell (p := ⟨b, off + k, none⟩) hbb).trans hcw
        have hx0 := HR.out x (List.mem_of_getElem? hxk.out)
        obtain ⟨hx1, hx2⟩ := hx0
        have hx3 : x < wrap64 (2 ^ (8 * size)) := shl_top hs4 hx2
        clear hx2
        have hd0 : decide (x < 0) = false := by simp; omega
        go_wp2_with fail
        go_quiet (fail)
        go_wp2_with fail
        have hown := (show (wr.drewN nq).ownsRow w.heap.size 5 1 _ _ _ from hown)
        have hb := below_drewN hb nq
        go_loopw [8, 10] (fun v s wi => ∃ (r : Nat) (t : Int) (pre : List UInt8), s = .int .i64 t ∧ Hid (t = (r : Int) - 1) ∧ r ≤ size ∧ Hid (pre ++ be r x.toNat = be size x.toNat) ∧ pre.length + r ≤ size ∧
            wi.ownsRow w.heap.size 5 1 v (N1 + k * size + pre.length) (((l ++ (xs.take k).flatMap fun x => be size x.toNat) ++ pre).map byV) ∧ Below w.heap.size w wi)
          (fun _ s _ => (1 + intOf s).toNat)
        case atStart => exact ⟨size, _, [], rfl, by show _ = _; omega, Nat.le_refl _, rfl, by simp, by simpa using hown, hb⟩
        case round =>
          obtain ⟨r, t, pre, rfl, Ht, hr, Hp, hpl, hown2, hb2⟩ := hrel
          have ht2 := Ht.out
          rcases r with _ | q
          · obtain rfl : t = -1 := by omega
            clear ht2
            have hp2 := Hp.out
            simp only [be, List.append_nil] at hp2
            have hpl2 : pre.length = size := by rw [hp2, be_len]
            have HP2 := Lib.hid hp2
            have HPL2 := Lib.hid hpl2
            clear hp2 hpl2
            go_wp2
            go_roundw
            case rel =>
              refine ⟨k + 1, by omega, by go_num, ?_, hb2⟩
              have e1 : N1 + k * size + pre.length = N1 + (k + 1) * size := by rw [HPL2.out, Nat.add_mul]; omega
              rw [take_next hxk.out, List.flatMap_append, ← e1]
              simpa [HP2.out] using hown2
            case measure => simp [intOf]; omega
          · obtain rfl : t = ((q : Nat) : Int) := by omega
            clear ht2
            have hci := (hb2.cell (p := ⟨b, off + k, none⟩) hbb).trans hcw
            have hsz := hb2.size
            have hks : k * size ≤ 1000 * 4 := Nat.mul_le_mul (by omega) hs4
            go_wp2_with (at_builtin; refine wpList_append_rd _ rfl _ _ _ rfl w.heap.size 5 i0 _ 1 1 Try.underlying32 hi0 hz0 hz1 hz2 rfl (by omega) _ _ _ rfl (hown2.alloc _) (wr.heap.size + 1) (some ⟨wr.heap.size, 0, none⟩) 1 1 [.int .u8 (x / 2 ^ (8 * q) % 256)] rfl ?_ (by simp [Value.oneCell']) ?_ ?_ ?_ ?_; rotate_right; intro v2 w2 hown3 hg2 hat2)
            case refine_1 => exact (by simpa using (Bk.new wr 5 #[.int .u8 (x / 2 ^ (8 * q) % 256)]).rd (n := 1) (size := 1) rfl)
            case refine_2 => unfold maxLen; omega
            case refine_3 => omega
            case refine_4 => simp; omega
            go_roundw
            case rel =>
              have hb3 : Below w.heap.size w w2 := (hb2.alloc hsz _).grown hg2 (by simp; omega) (fun j hj => (hown2.lt j hj).1)
              refine ⟨q, _, pre ++ [UInt8.ofNat (x.toNat / 256 ^ q)], rfl, rfl, by omega, ?_, by simp; omega, ?_, hb3⟩
              · have := Hp.out
                show _ = _
                rw [List.append_assoc]
                exact this
              · rw [← List.append_assoc, List.map_append, List.length_append]
                rw [byte_val hx1] at hown3
                simp only [List.map_append, List.map_cons, List.map_nil, List.append_assoc, Nat.add_assoc, List.length_singleton] at hown3 ⊢
                exact hown3
            case measure => simp [intOf]; omega
      · obtain rfl : k = m := by omega
        have HL := Lib.hid hx.len
        go_wp2
        go_ret2
        refine ⟨_, rfl, ?_, hb⟩
        rw [List.take_of_length_le (by rw [HL.out]; omega)] at hown
        exact hown
/-- Put of one number. -/
theorem rput1 (A A2 : Option Addr) (n cap cap2 size : Nat) (l : List UInt8) (x : Int) (w : World) (hl : By w w.heap.size A n l) (hx : In w w.heap.size A2 1 [x])
    (hs : size = 1 ∨ size = 2 ∨ size = 4) (hn : n ≤ 1000000) (hr : 0 ≤ x ∧ x < (256 ^ size : Nat)) :
    Calls Try.prog 60 #[.slice A n cap, .int .i64 (size : Int), .slice A2 1 cap2] w fun e w' => ∃ A' N c', e = .returned (.tuple #[.slice A' N c', .int .i64 0]) ∧
      OwnB w' w.heap.size A' N c' (l ++ be size x.toNat) ∧ Below w.heap.size w w' := by
  refine (rput_any A A2 n cap 1 cap2 size l [x] w hl hx hs hn (by omega) (by simpa using hr)).mono ?_
  rintro e w' ⟨v, rfl, h1, h2⟩
  obtain ⟨A', c', rfl, h3⟩ := own_of h1
  exact ⟨A', _, c', rfl, by simpa using h3, h2⟩

/-- Put of several numbers. -/
theorem rputs (A A2 : Option Addr) (n cap m cap2 size : Nat) (l : List UInt8) (xs : List Int) (w : World) (hl : By w w.heap.size A n l) (hx : In w w.heap.size A2 m xs)
    (hs : size = 1 ∨ size = 2 ∨ size = 4) (hn : n ≤ 1000000) (hm : m ≤ 1000) (hr : ∀ x ∈ xs, 0 ≤ x ∧ x < (256 ^ size : Nat)) :
    Calls Try.prog 60 #[.slice A n cap, .int .i64 (size : Int), .slice A2 m cap2] w fun e w' => ∃ A' N c', e = .returned (.tuple #[.slice A' N c', .int .i64 0]) ∧
      OwnB w' w.heap.size A' N c' (l ++ xs.flatMap fun x => be size x.toNat) ∧ Below w.heap.size w w' := by
  refine (rput_any A A2 n cap m cap2 size l xs w hl hx hs hn hm hr).mono ?_
  rintro e w' ⟨v, rfl, h1, h2⟩
  obtain ⟨A', c', rfl, h3⟩ := own_of h1
  exact ⟨A', _, c', rfl, h3, h2⟩

theorem rtexts_any (A A2 : Option Addr) (n cap m cap2 : Nat) (l l2 : List UInt8) (w : World) (hl : By w w.heap.size A n l) (hx : By w w.heap.size A2 m l2)
    (hn : n ≤ 900000) (hm : m ≤ 65535) :
    Calls Try.prog 61 #[.slice A n cap, .slice A2 m cap2] w fun e w' => ∃ A' N c', e = .returned (.tuple #[.slice A' N c', .int .i64 0]) ∧
      OwnB w' w.heap.size A' N c' (l ++ be 2 m ++ l2) ∧ Below w.heap.size w w' := by
  obtain ⟨i0, hi0, hz0, hz1, hz2⟩ := info_parts info5
  have hI : In (w.alloc (.cells #[.int .i64 (m : Int)] 3)) (w.alloc (.cells #[.int .i64 (m : Int)] 3)).heap.size (some ⟨w.heap.size, 0, none⟩) 1 [(m : Int)] := (Bk.new w 3 #[.int .i64 (m : Int)]).rd (n := 1) (size := 1) rfl
  have hl1 := (hl.alloc (Nat.le_refl _) (.cells #[.int .i64 (m : Int)] 3)).more (B' := (w.alloc (.cells #[.int .i64 (m : Int)] 3)).heap.size) (by simp)
  have HN := Lib.hid hl.len
  go_enter Try.func61, Try.ntmps61
  go_wp2_with (first | (go_at_call 60; refine (rput1 _ _ n _ _ 2 l (m : Int) _ hl1 hI (by omega) (by omega) (by omega)).mono ?_; rintro e w1 ⟨A1, N1, c1, rfl, hown1, hb1⟩; have hlen : N1 ≤ 900002 := (by have h1 := hown1.len; have h2 := HN.out; simp [be_len] at h1; omega); have hbb : Below w.heap.size w w1 := ((Below.refl _ w).alloc (Nat.le_refl _) _).trans (hb1.mono (by simp))) | (at_builtin; refine wpList_append_rd _ rfl (.tmp 19) (.tmp 20) _ rfl w.heap.size 5 i0 _ 1 1 Try.underlying32 hi0 hz0 hz1 hz2 rfl (by omega) _ _ _ rfl (own_mono hown1 (by simp)) w.heap.size A2 m cap2 (l2.map byV) rfl (Rd.below hx hbb) (byV_one l2) (by unfold maxLen; omega) (by omega) hbb.size ?_; intro v2 w2 hown2 hg2 hat2))
  go_ret2
  have hb2 : Below w.heap.size w w2 := hbb.grown hg2 hbb.size (fun j hj => ((own_mono hown1 (base' := w.heap.size) (by simp)).lt j hj).1)
  rw [← List.map_append] at hown2
  obtain ⟨A', c', rfl, h3⟩ := own_of hown2
  exact ⟨A', _, c', rfl, by simpa using h3, hb2⟩

theorem rseal_any (A : Option Addr) (n cap k : Nat) (l : List UInt8) (w : World) (hl : By w w.heap.size A n l) (hn : n ≤ 509) (hk : k ≤ 255) :
    Calls Try.prog 62 #[.int .i64 (k : Int), .slice A n cap] w fun e w' => ∃ A' N c', e = .returned (.tuple #[.slice A' N c', .int .i64 0]) ∧
      OwnB w' w.heap.size A' N c' (sealB k l) ∧ Below w.heap.size w w' := by
  obtain ⟨i0, hi0, hz0, hz1, hz2⟩ := info_parts info5
  have hkv : ([Value.int .u8 (k : Int)] ++ l.map byV) = (UInt8.ofNat k :: l).map byV := by simp [byV]; omega
  have HK := Lib.hid hkv
  clear hkv
  have HS := Lib.hid (crc_lt (UInt8.ofNat k :: l))
  go_enter Try.func62, Try.ntmps62
  go_wp2_with (first | (at_builtin; refine wpList_append_rd _ rfl (.tmp 19) (.tmp 20) _ rfl w.heap.size 5 i0 _ 1 1 Try.underlying32 hi0 hz0 hz1 hz2 rfl (by omega) (.slice (some ⟨w.heap.size, 0, none⟩) 1 1) 1 [.int .u8 (k : Int)] rfl (own_new w 5 #[.int .u8 (k : Int)] (by unfold maxLen; simp)) w.heap.size A n cap (l.map byV) rfl (Rd.alloc hl (Nat.le_refl _) _) (byV_one l) (by unfold maxLen; omega) (by omega) (by simp) ?_; intro v1 w1 hown1 hg1 hat1; rw [HK.out] at hown1; obtain ⟨A1, c1, rfl, hO1⟩ := own_of hown1; have hB1 := hO1.by_; have hb1 : Below w.heap.size w w1 := ((Below.refl _ w).alloc (Nat.le_refl _) _).grown hg1 (by simp) (by simp [Value.ownBlock]); have hx1 : 1 + n ≤ 510 := by omega) | (go_at_call 107; refine (rsum_any _ _ _ _ _ _ hB1 (by omega)).mono ?_; rintro e w2 ⟨rfl, rfl⟩; have hI := In.box w1 (crc (UInt8.ofNat k :: l) : Int); have hB2 := hB1.boxed (.cells #[.int .i64 (crc (UInt8.ofNat k :: l) : Int)] 3)) | (go_at_call 60; refine (rput1 _ _ _ _ _ 2 _ _ _ hB2 hI (by omega) (by omega) (by have := HS.out; omega)).mono ?_; rintro e w3 ⟨A3, N3, c3, rfl, hO3, hb3⟩))
  go_ret2
  exact ⟨_, _, _, rfl, own_mono hO3 (by have := hb1.size; simp; omega), hb1.trans ((Below.new _ hb3).mono hb1.size)⟩

/-- A body that is too long has no frame. -/
theorem rseal_long (A : Option Addr) (n cap k : Nat) (w : World) (hn : 509 < n) (hn2 : n ≤ 140737488355328) (hk : k ≤ 255) :
    Calls Try.prog 62 #[.int .i64 (k : Int), .slice A n cap] w fun e w' => e = .returned (.tuple #[.slice none 0 0, .int .i64 5]) ∧ w = w' := by
  go_enter Try.func62, Try.ntmps62
  go_wp2
  go_ret2
  exact ⟨rfl, rfl⟩
end Go.Proofs.Ytfnnjaljnfphlaa
