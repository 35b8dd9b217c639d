/- The law FnTurned, over numbers and lists: for every input that the statement speaks of the printed function answers true; conditions: those of the printed statement. -/
import Derived.Test.YtpnncgfmihjlkaaQFnTurnedx1
import Derived.Test.YtpnncgfmihjlkaaQFnTurnedx2
import Derived.Laws.BitsAllLaws
import Derived.Sort.Walk0
import Derived.Lib.Bytealg
namespace Go.Proofs.Ytpnncgfmihjlkaa.Pure
open Go.RowKit Go.Proofs.Ytpnncgfmihjlkaa.QFnTurned Go.Proofs.YtpnncgfmihjlkaaW.PrintWords Go.Proofs.YtpnncgfmihjlkaaW.PrintLast Go.Proofs.YtpnncgfmihjlkaaW.PrintMore
set_option linter.unusedVariables false
set_option linter.unusedSimpArgs false

/-! ### strings as lists of bytes -/
def mk (l : List UInt8) : ByteArray := ⟨l.toArray⟩
def nm (l : List UInt8) : List Int := l.map fun b => (b.toNat : Int)
theorem mk_of (s : ByteArray) : ∃ l, s = mk l := ⟨s.data.toList, rfl⟩
theorem mk_data (l : List UInt8) : (mk l).data.toList = l := rfl
theorem mk_toList (l : List UInt8) : (mk l).toList = l := by rw [ByteArray.toList_eq]; rfl
theorem mk_size (l : List UInt8) : (mk l).size = l.length := List.size_toArray
theorem mk_inj {a b : List UInt8} (h : mk a = mk b) : a = b := by rw [← mk_data a, h]; rfl
theorem mk_append (a b : List UInt8) : mk a ++ mk b = mk (a ++ b) := by
  apply ByteArray.ext
  rw [ByteArray.data_append]
  simp [mk]
theorem mk_extract (l : List UInt8) (i j : Nat) : (mk l).extract i j = mk ((l.drop i).take (j - i)) := by
  apply ByteArray.ext
  rw [ByteArray.data_extract]
  apply Array.ext'
  simp [mk, List.take_drop]
theorem mk_nil : (⟨#[]⟩ : ByteArray) = mk [] := rfl
theorem nm_append (a b : List UInt8) : nm (a ++ b) = nm a ++ nm b := by simp [nm]
theorem nm_length (a : List UInt8) : (nm a).length = a.length := by simp [nm]
theorem nm_nil : ([] : List Int) = nm [] := rfl
theorem strOf_nm (l : List UInt8) : strOfNums (nm l) = mk l := by
  unfold strOfNums nm mk
  rw [List.map_map]
  congr 1
  have : ∀ l : List UInt8, List.map ((fun n : Int => UInt8.ofNat n.toNat) ∘ fun b : UInt8 => (b.toNat : Int)) l = l := by
    intro l
    induction l with
    | nil => rfl
    | cons a l ih => rw [List.map_cons, ih]; simp
  rw [this]
theorem bt_mk (l : List UInt8) (n : Nat) (h : n < l.length) : bt (mk l) (n : Int) = ((l[n]).toNat : Int) := by
  unfold bt
  rw [dif_pos (show (n : Int).toNat < (mk l).size by rw [mk_size]; omega)]
  rfl
/-- A fact that omega doesn't look into. -/
structure Hd (p : Prop) : Prop where
  mk :: (out : p)
theorem w64 {x : Int} (h0 : -9223372036854775808 ≤ x) (h1 : x ≤ 9223372036854775807) : wrap64 x = x := by
  unfold wrap64
  omega
theorem nm_u8 (n : Nat) (h : n < 256) : nm [UInt8.ofNat n] = [(n : Int)] := by
  simp [nm]
  omega
theorem tmod_nat (x d : Nat) : Int.tmod (x : Int) (d : Int) = ((x % d : Nat) : Int) := by
  rw [Int.tmod_eq_emod_of_nonneg (by omega)]
  exact (Int.natCast_emod x d).symm
theorem tdiv_nat (x d : Nat) : Int.tdiv (x : Int) (d : Int) = ((x / d : Nat) : Int) := by
  rw [Int.tdiv_eq_ediv_of_nonneg (by omega)]
  exact (Int.natCast_ediv x d).symm
theorem drop_cons (l : List UInt8) (i : Nat) (h : i < l.length) : l.drop i = l[i] :: l.drop (i + 1) := List.drop_eq_getElem_cons h
/-! ### the check sum -/
def crcBit (x : Nat) : Nat := if x % 2 = 1 then (x / 2) ^^^ 3558460437 else x / 2
def crcBits : Nat → Nat → Nat
  | 0, x => x
  | n + 1, x => crcBits n (crcBit x)
def crcL (x : Nat) (l : List UInt8) : Nat := l.foldl (fun x b => crcBits 8 (x ^^^ b.toNat)) x
theorem xor_lt32 {a b : Nat} (ha : a < 4294967296) (hb : b < 4294967296) : a ^^^ b < 4294967296 := Nat.xor_lt_two_pow (n := 32) ha hb
theorem crcBit_lt {x : Nat} (h : x < 4294967296) : crcBit x < 4294967296 := by
  unfold crcBit
  split
  · exact xor_lt32 (by omega) (by omega)
  · omega
theorem crcBits_lt : ∀ (n : Nat) {x : Nat}, x < 4294967296 → crcBits n x < 4294967296
  | 0, _, h => h
  | n + 1, _, h => crcBits_lt n (crcBit_lt h)
theorem crcL_cons (x : Nat) (b : UInt8) (l : List UInt8) : crcL x (b :: l) = crcL (crcBits 8 (x ^^^ b.toNat)) l := rfl
theorem crcL_lt : ∀ (l : List UInt8) {x : Nat}, x < 4294967296 → crcL x l < 4294967296
  | [], _, h => h
  | b :: l, _, h => crcL_lt l (crcBits_lt 8 (xor_lt32 h (by have := b.toNat_lt; omega)))
theorem crcL_append (x : Nat) (a b : List UInt8) : crcL x (a ++ b) = crcL (crcL x a) b := by simp [crcL, List.foldl_append]
def crc (l : List UInt8) : Nat := crcL 4294967295 l
theorem crc_lt (l : List UInt8) : crc l < 4294967296 := crcL_lt l (by omega)
/-- The sum in four bytes, the highest first. -/
def four (n : Nat) : List UInt8 := [UInt8.ofNat (n / 16777216 % 256), UInt8.ofNat (n / 65536 % 256), UInt8.ofNat (n / 256 % 256), UInt8.ofNat (n % 256)]
theorem four_nm (n : Nat) : ([((n : Int) / 16777216) % 256, ((n : Int) / 65536) % 256, ((n : Int) / 256) % 256, ((n : Int)) % 256] : List Int) = nm (four n) := by
  have e : ∀ m : Nat, (((UInt8.ofNat (m % 256)).toNat : Nat) : Int) = (m : Int) % 256 := by
    intro m
    rw [UInt8.toNat_ofNat']
    omega
  simp only [nm, four, List.map_cons, List.map_nil, e]
  congr
theorem xor_cancel {a b c : Nat} (h : a ^^^ c = b ^^^ c) : a = b := by
  have := congrArg (· ^^^ c) h
  simpa [Nat.xor_assoc] using this
theorem xor_high {a : Nat} (h : a < 2147483648) : 2147483648 ≤ a ^^^ 3558460437 := by
  refine Classical.byContradiction fun hn => ?_
  have h1 : a ^^^ (a ^^^ 3558460437) = 3558460437 := by rw [← Nat.xor_assoc, Nat.xor_self, Nat.zero_xor]
  have h2 : a ^^^ (a ^^^ 3558460437) < 2147483648 := Nat.xor_lt_two_pow (n := 31) h (by omega)
  omega
theorem crcBit_inj {x y : Nat} (hx : x < 4294967296) (hy : y < 4294967296) (h : crcBit x = crcBit y) : x = y := by
  unfold crcBit at h
  have h1 := xor_high (a := x / 2) (by omega)
  have h2 := xor_high (a := y / 2) (by omega)
  by_cases a : x % 2 = 1 <;> by_cases b : y % 2 = 1
  · rw [if_pos a, if_pos b] at h
    have := xor_cancel h
    omega
  · rw [if_pos a, if_neg b] at h
    omega
  · rw [if_neg a, if_pos b] at h
    omega
  · rw [if_neg a, if_neg b] at h
    omega
theorem crcBits_inj : ∀ (n : Nat) {x y : Nat}, x < 4294967296 → y < 4294967296 → crcBits n x = crcBits n y → x = y
  | 0, _, _, _, _, h => h
  | n + 1, _, _, hx, hy, h => crcBit_inj hx hy (crcBits_inj n (crcBit_lt hx) (crcBit_lt hy) h)
theorem crcL_inj : ∀ (l : List UInt8) {x y : Nat}, x < 4294967296 → y < 4294967296 → crcL x l = crcL y l → x = y
  | [], _, _, _, _, h => h
  | b :: l, x, y, hx, hy, h => by
    have hb := b.toNat_lt
    rw [crcL_cons, crcL_cons] at h
    have h1 := crcL_inj l (crcBits_lt 8 (xor_lt32 hx (by omega))) (crcBits_lt 8 (xor_lt32 hy (by omega))) h
    exact xor_cancel (crcBits_inj 8 (xor_lt32 hx (by omega)) (xor_lt32 hy (by omega)) h1)
/-- Texts that differ in one byte have other sums. -/
theorem crc_one (a c : List UInt8) (b b' : UInt8) (h : crc (a ++ b :: c) = crc (a ++ b' :: c)) : b = b' := by
  have h0 := b.toNat_lt
  have h0' := b'.toNat_lt
  have hx : crcL 4294967295 a < 4294967296 := crcL_lt a (by omega)
  unfold crc at h
  rw [crcL_append, crcL_append, crcL_cons, crcL_cons] at h
  have h1 := crcL_inj c (crcBits_lt 8 (xor_lt32 hx (by omega))) (crcBits_lt 8 (xor_lt32 hx (by omega))) h
  have h2 := crcBits_inj 8 (xor_lt32 hx (by omega)) (xor_lt32 hx (by omega)) h1
  rw [Nat.xor_comm _ b.toNat, Nat.xor_comm _ b'.toNat] at h2
  exact UInt8.toNat_inj.1 (xor_cancel h2)
theorem four_inj {n m : Nat} (hn : n < 4294967296) (hm : m < 4294967296) (h : four n = four m) : n = m := by
  have e : ∀ a b : Nat, UInt8.ofNat (a % 256) = UInt8.ofNat (b % 256) → a % 256 = b % 256 := fun a b h => by
    have := congrArg UInt8.toNat h
    rw [UInt8.toNat_ofNat', UInt8.toNat_ofNat'] at this
    omega
  unfold four at h
  simp only [List.cons.injEq, and_true] at h
  obtain ⟨h1, h2, h3, h4⟩ := h
  have h1 := e _ _ h1
  have h2 := e _ _ h2
  have h3 := e _ _ h3
  have h4 := e _ _ h4
  omega

def sealOf (l : List UInt8) : ByteArray × Bool := if l.length ≤ 20000 then (mk (l ++ four (crc l)), true) else (mk [], false)
theorem four_len (n : Nat) : (four n).length = 4 := rfl
def unsealOf (l : List UInt8) : ByteArray × Bool :=
  if 4 ≤ l.length ∧ l.length ≤ 20004 ∧ l.drop (l.length - 4) = four (crc (l.take (l.length - 4))) then (mk (l.take (l.length - 4)), true) else (mk [], false)
theorem unseal_w (l : List UInt8) (h : 4 ≤ l.length) (hs : l.length ≤ 140737488351232) : wrap64 (((mk l).size : Int) - 4) = ((l.length - 4 : Nat) : Int) := by
  rw [mk_size, w64 (by omega) (by omega)]
  omega
theorem unseal_cut (l : List UInt8) (n : Nat) : (mk l).extract 0 ((n : Int)).toNat = mk (l.take n) := by
  rw [mk_extract]
  simp
theorem unseal_end (l : List UInt8) (n : Nat) (h : n ≤ l.length) : (mk l).extract ((n : Int)).toNat (mk l).size = mk (l.drop n) := by
  rw [mk_extract, mk_size, Int.toNat_natCast, List.take_of_length_le (by simp)]
/-- A sealed text whose one byte is another is not one. -/
theorem turned_not (s : List UInt8) (hs : s.length ≤ 20000) (i : Nat) (hi : i < s.length + 4) (y : UInt8) (hy : (s ++ four (crc s))[i]? ≠ some y) : unsealOf ((s ++ four (crc s)).set i y) = (mk [], false) := by
  have hl : ((s ++ four (crc s)).set i y).length = s.length + 4 := by rw [List.length_set, List.length_append, four_len]
  unfold unsealOf
  rw [hl, show s.length + 4 - 4 = s.length by omega]
  refine if_neg fun h => ?_
  obtain ⟨_, _, h⟩ := h
  by_cases hc : i < s.length
  · rw [List.set_append_left _ _ hc] at h
    have ht : (s.set i y ++ four (crc s)).take s.length = s.set i y := by rw [List.take_append_of_le_length (by simp), List.take_of_length_le (by simp)]
    have hd : (s.set i y ++ four (crc s)).drop s.length = four (crc s) := by
      have h9 := List.drop_left (l₁ := s.set i y) (l₂ := four (crc s))
      rwa [List.length_set] at h9
    rw [ht, hd] at h
    have h2 := four_inj (crc_lt _) (crc_lt _) h
    rw [List.set_eq_take_append_cons_drop, if_pos hc] at h2
    have h3 : s = s.take i ++ s[i] :: s.drop (i + 1) := by rw [← List.drop_eq_getElem_cons hc, List.take_append_drop]
    rw [show crc s = crc (s.take i ++ s[i] :: s.drop (i + 1)) from congrArg crc h3] at h2
    have h4 := crc_one _ _ _ _ h2
    rw [List.getElem?_append_left hc, List.getElem?_eq_getElem hc, h4] at hy
    exact hy rfl
  · rw [List.set_append_right _ _ (by omega), List.drop_left, List.take_left] at h
    rw [List.getElem?_append_right (by omega), ← h] at hy
    refine hy ?_
    rw [List.getElem?_set_self (by rw [four_len]; omega)]
theorem bytesOf_mk (l : List UInt8) : bytesOf (mk l) = nm l := by
  unfold bytesOf nm mk
  simp
theorem turnedOf_mk (t : List UInt8) (a b : Nat) (ht : 0 < t.length) : ∃ y : UInt8, t[a % t.length]? ≠ some y ∧ turnedOf (mk t) (a : Int) (b : Int) = mk (t.set (a % t.length) y) := by
  have hi : a % t.length < t.length := Nat.mod_lt _ ht
  have e1 : ((a : Int) % ((mk t).size : Int)).toNat = a % t.length := by rw [mk_size, ← Int.natCast_emod, Int.toNat_natCast]
  have hx := (t[a % t.length]).toNat_lt
  have hz : (1 + b % 255) < 256 := by omega
  have hxz : (t[a % t.length]).toNat ^^^ (1 + b % 255) < 256 := Nat.xor_lt_two_pow (n := 8) hx hz
  refine ⟨UInt8.ofNat ((t[a % t.length]).toNat ^^^ (1 + b % 255)), ?_, ?_⟩
  · rw [List.getElem?_eq_getElem hi]
    intro h
    injection h with h
    have h2 := congrArg UInt8.toNat h
    rw [UInt8.toNat_ofNat', Nat.mod_eq_of_lt hxz] at h2
    have h3 := congrArg (fun z => (t[a % t.length]).toNat ^^^ z) h2
    simp only [Nat.xor_self, ← Nat.xor_assoc, Nat.zero_xor] at h3
    omega
  · unfold turnedOf
    rw [e1, bytesOf_mk]
    have e2 : (nm t)[a % t.length]?.getD 0 = ((t[a % t.length]).toNat : Int) := by
      unfold nm
      rw [List.getElem?_map, List.getElem?_eq_getElem hi]
      rfl
    have e3 : (1 : Int) + (b : Int) % 255 = ((1 + b % 255 : Nat) : Int) := by omega
    rw [e2, e3, u8_xor_nat _ _ hx hz]
    have e4 : (nm t).set (a % t.length) (((t[a % t.length]).toNat ^^^ (1 + b % 255) : Nat) : Int) = nm (t.set (a % t.length) (UInt8.ofNat ((t[a % t.length]).toNat ^^^ (1 + b % 255)))) := by
      unfold nm
      rw [List.map_set, UInt8.toNat_ofNat', Nat.mod_eq_of_lt hxz]
    rw [e4, strOf_nm]

theorem spec_l01New.ev0 (l : List Int) (hs : l.length ≤ 1048576) (d : Nat) : ∀ (i : Nat) (h : Int), i + d = l.length → ∃ h', Ev (fun k => spec_l01New.l0 k l h (i : Int)) (l, 0, h') := by
  induction d with
  | zero =>
    intro i h hi
    refine ⟨h, 1, fun k hk => ?_⟩
    obtain ⟨k, rfl⟩ : ∃ m, k = m + 1 := ⟨k - 1, by omega⟩
    show spec_l01New.l0 (k + 1) _ _ _ = _
    rw [spec_l01New.l0, if_neg (by omega)]
  | succ d ih =>
    intro i h hi
    by_cases hc : i < 4000
    · have e3 : Hd (wrap64 ((i : Int) + 1) = ((i + 1 : Nat) : Int)) := Hd.mk <| by rw [w64 (by omega) (by omega)]; rfl
      obtain ⟨h', hh⟩ := ih (i + 1) (Go.bits .and .i64 (wrap64 ((wrap64 ((wrap64 (h * 131)) + (wrap64 (rd l (i : Int))))) + 7)) 1073741823) (by omega)
      refine ⟨h', Ev.step (fun k => ?_) hh⟩
      show spec_l01New.l0 (k + 1) _ _ _ = _
      rw [spec_l01New.l0, if_pos (by omega), if_pos (by omega), if_pos (by omega), e3.out]
    · refine ⟨h, 1, fun k hk => ?_⟩
      obtain ⟨k, rfl⟩ : ∃ m, k = m + 1 := ⟨k - 1, by omega⟩
      show spec_l01New.l0 (k + 1) _ _ _ = _
      rw [spec_l01New.l0, if_pos (by omega), if_neg (by omega)]
theorem spec_l01New.ev (l : List Int) (hs : l.length ≤ 1048576) : ∃ h, Ev (fun k => spec_l01New.f k l) (l, 0, h) := by
  obtain ⟨h, hh⟩ := spec_l01New.ev0 l hs l.length 0 (wrap64 (10301 + (l.length : Int))) (by omega)
  exact ⟨h, hh⟩
theorem i64_and255 (n : Int) : Go.bits .and .i64 n 255 = n % 256 := by
  have h255 : (BitVec.ofInt 64 255).toNat = 2 ^ 8 - 1 := by decide
  have key : (BitVec.ofInt 64 n &&& BitVec.ofInt 64 255).toNat = (n % ((2 ^ 64 : Nat) : Int)).toNat % 2 ^ 8 := by
    rw [BitVec.toNat_and, BitVec.toNat_ofInt, h255, Nat.and_two_pow_sub_one_eq_mod]
  show IntKind.i64.wrap ((BitVec.ofInt 64 n &&& BitVec.ofInt 64 255).toNat : Nat) = n % 256
  rw [key, IntKind.wrap_i64]
  omega
theorem spec_l01Byte.is (b : List Int) (hs : b.length ≤ 1048576) (i h : Int) (h0 : 0 ≤ i) (h1 : i ≤ b.length) : ∃ v i' h', spec_l01Byte.f b i h = some (v, i', h') ∧ 0 ≤ v ∧ v ≤ 255 ∧ 0 ≤ i' ∧ i' ≤ b.length := by
  unfold spec_l01Byte.f
  by_cases hc : i < (b.length : Int)
  · rw [if_pos hc, if_pos h0, i64_and255]
    exact ⟨_, _, _, rfl, by omega, by omega, by rw [w64 (by omega) (by omega)]; omega, by rw [w64 (by omega) (by omega)]; omega⟩
  · rw [if_neg hc, i64_and255]
    exact ⟨_, _, _, rfl, by omega, by omega, h0, h1⟩
theorem tmod_in {x n : Int} (h0 : 0 ≤ x) (hn : 0 < n) : 0 ≤ Int.tmod x n ∧ Int.tmod x n < n := by
  rw [Int.tmod_eq_emod_of_nonneg h0]
  exact ⟨Int.emod_nonneg _ (by omega), Int.emod_lt_of_pos _ hn⟩
theorem spec_l01Below.is (b : List Int) (hs : b.length ≤ 1048576) (i h n : Int) (h0 : 0 ≤ i) (h1 : i ≤ b.length) : ∃ v i' h', spec_l01Below.f b i h n = some (v, i', h') ∧ 0 ≤ v ∧ (n ≤ 0 → v = 0) ∧ (0 < n → v < n) ∧ 0 ≤ i' ∧ i' ≤ b.length := by
  unfold spec_l01Below.f
  by_cases hc : n ≤ 0
  · rw [if_pos hc]
    exact ⟨_, _, _, rfl, by omega, fun _ => rfl, fun h => by omega, h0, h1⟩
  · rw [if_neg hc]
    by_cases hd : n ≤ 256
    · obtain ⟨v, i', h', e, g0, g1, g2, g3⟩ := spec_l01Byte.is b hs i h h0 h1
      rw [if_pos hd, e, Option.bind_some, if_neg (by omega)]
      have := tmod_in g0 (show 0 < n by omega)
      exact ⟨_, _, _, rfl, this.1, fun h => by omega, fun _ => this.2, g2, g3⟩
    · obtain ⟨v1, i1, s1, e1, a1, b1, c1, d1⟩ := spec_l01Byte.is b hs i h h0 h1
      obtain ⟨v2, i2, s2, e2, a2, b2, c2, d2⟩ := spec_l01Byte.is b hs i1 s1 c1 d1
      obtain ⟨v3, i3, s3, e3, a3, b3, c3, d3⟩ := spec_l01Byte.is b hs i2 s2 c2 d2
      obtain ⟨v4, i4, s4, e4, a4, b4, c4, d4⟩ := spec_l01Byte.is b hs i3 s3 c3 d3
      rw [if_neg hd, e1, Option.bind_some]
      dsimp only
      rw [e2, Option.bind_some]
      dsimp only
      rw [e3, Option.bind_some]
      dsimp only
      rw [e4, Option.bind_some, if_neg (by omega)]
      have hw : 0 ≤ wrap64 ((wrap64 ((wrap64 ((wrap64 (v1 * 16777216)) + (wrap64 (v2 * 65536)))) + (wrap64 (v3 * 256)))) + v4) := by
        rw [w64 (x := v1 * 16777216) (by omega) (by omega), w64 (x := v2 * 65536) (by omega) (by omega), w64 (x := v3 * 256) (by omega) (by omega), w64 (x := v1 * 16777216 + v2 * 65536) (by omega) (by omega),
          w64 (x := v1 * 16777216 + v2 * 65536 + v3 * 256) (by omega) (by omega), w64 (by omega) (by omega)]
        omega
      have := tmod_in hw (show 0 < n by omega)
      exact ⟨_, _, _, rfl, this.1, fun h => by omega, fun _ => this.2, c4, d4⟩
theorem spec_l01Text.ev0 (b : List Int) (hs : b.length ≤ 1048576) (n : Int) (hn : n ≤ 5000) (d : Nat) : ∀ (j : Nat) (acc : List UInt8) (i h : Int), n ≤ (j : Int) + d → j ≤ 5000 → acc.length = j → 0 ≤ i → i ≤ b.length → ((j : Int) ≤ n ∨ j = 0) →
    ∃ t i' h', Ev (fun k => spec_l01Text.l0 k n (nm acc) (j : Int) b i h) (mk t, i', h') ∧ (t.length : Int) = max n 0 ∧ 0 ≤ i' ∧ i' ≤ b.length := by
  induction d with
  | zero =>
    intro j acc i h hj hj2 hacc h0 h1 hjn
    refine ⟨acc, i, h, ⟨1, fun k hk => ?_⟩, by omega, h0, h1⟩
    obtain ⟨k, rfl⟩ : ∃ m, k = m + 1 := ⟨k - 1, by omega⟩
    show spec_l01Text.l0 (k + 1) _ _ _ _ _ _ = _
    rw [spec_l01Text.l0, if_neg (by omega), strOf_nm]
  | succ d ih =>
    intro j acc i h hj hj2 hacc h0 h1 hjn
    by_cases hc : (j : Int) < n
    · obtain ⟨v, i', h', e, g0, g1, g2, g3⟩ := spec_l01Byte.is b hs i h h0 h1
      obtain ⟨vn, rfl⟩ := Int.eq_ofNat_of_zero_le g0
      obtain ⟨t, i2, h2, hh, ht, k0, k1⟩ := ih (j + 1) (acc ++ [UInt8.ofNat vn]) i' h' (by omega) (by omega) (by simp; omega) g2 g3 (by omega)
      have e3 : Hd (wrap64 ((j : Int) + 1) = ((j + 1 : Nat) : Int)) := Hd.mk <| by rw [w64 (by omega) (by omega)]; rfl
      refine ⟨t, i2, h2, Ev.step (fun k => ?_) hh, ht, k0, k1⟩
      show spec_l01Text.l0 (k + 1) _ _ _ _ _ _ = spec_l01Text.l0 k _ _ _ _ _ _
      rw [spec_l01Text.l0, if_pos hc, e, Option.bind_some]
      dsimp only
      rw [if_pos (by rw [nm_length]; omega), e3.out, nm_append, nm_u8 vn (by omega), show ((vn : Int) % 256) = (vn : Int) by omega]
    · refine ⟨acc, i, h, ⟨1, fun k hk => ?_⟩, by omega, h0, h1⟩
      obtain ⟨k, rfl⟩ : ∃ m, k = m + 1 := ⟨k - 1, by omega⟩
      show spec_l01Text.l0 (k + 1) _ _ _ _ _ _ = _
      rw [spec_l01Text.l0, if_neg (by omega), strOf_nm]
theorem spec_l01Text.ev (b : List Int) (hs : b.length ≤ 1048576) (i h n : Int) (h0 : 0 ≤ i) (h1 : i ≤ b.length) :
    ∃ t i' h', Ev (fun k => spec_l01Text.f k b i h n) (mk t, i', h') ∧ (t.length : Int) = max (min n 5000) 0 ∧ 0 ≤ i' ∧ i' ≤ b.length := by
  by_cases hc : n > 5000
  · obtain ⟨t, i', h', ⟨K, hK⟩, ht, k0, k1⟩ := spec_l01Text.ev0 b hs 5000 (by omega) 5000 0 [] i h (by omega) (by omega) rfl h0 h1 (by omega)
    dsimp only at hK
    refine ⟨t, i', h', ⟨K + 1, fun k hk => ?_⟩, by omega, k0, k1⟩
    obtain ⟨k, rfl⟩ : ∃ m, k = m + 1 := ⟨k - 1, by omega⟩
    show spec_l01Text.f (k + 1) _ _ _ _ = _
    unfold spec_l01Text.f
    rw [if_pos hc, spec_l01Text.j0]
    exact hK k (by omega)
  · obtain ⟨t, i', h', ⟨K, hK⟩, ht, k0, k1⟩ := spec_l01Text.ev0 b hs n (by omega) 5000 0 [] i h (by omega) (by omega) rfl h0 h1 (by omega)
    dsimp only at hK
    refine ⟨t, i', h', ⟨K + 1, fun k hk => ?_⟩, by omega, k0, k1⟩
    obtain ⟨k, rfl⟩ : ∃ m, k = m + 1 := ⟨k - 1, by omega⟩
    show spec_l01Text.f (k + 1) _ _ _ _ = _
    unfold spec_l01Text.f
    rw [if_neg hc, spec_l01Text.j0]
    exact hK k (by omega)
theorem spec_DrawSumOf.ev (l : List Int) (hs : l.length ≤ 1048576) : ∃ t, Ev (fun k => spec_DrawSumOf.f k l) (mk t) ∧ t.length ≤ 40 := by
  obtain ⟨h, ⟨K1, h1⟩⟩ := spec_l01New.ev l hs
  obtain ⟨n, i2, s2, e2, a0, _, a1, b0, b1⟩ := spec_l01Below.is l hs 0 h 40 (by omega) (by omega)
  have := a1 (by omega)
  obtain ⟨t, i3, s3, ⟨K2, h2⟩, ht, _, _⟩ := spec_l01Text.ev l hs i2 s2 n b0 b1
  dsimp only at h1 h2
  refine ⟨t, ⟨K1 + K2, fun k hk => ?_⟩, by omega⟩
  show spec_DrawSumOf.f k _ = _
  unfold spec_DrawSumOf.f
  rw [h1 k (by omega), Option.bind_some, e2, Option.bind_some]
  dsimp only
  rw [h2 k (by omega), Option.bind_some]

theorem spec_DrawPlaces.ev0 (b : List Int) (hs : b.length ≤ 1048576) (d : Nat) : ∀ (j : Nat) (acc : List Int) (i h : Int), j + d = 12 → acc.length = j → (∀ x ∈ acc, 0 ≤ x ∧ x < 10000) → 0 ≤ i → i ≤ b.length →
    ∃ p : List Int, Ev (fun k => spec_DrawPlaces.l0 k acc (j : Int) b i h) p ∧ p.length = 12 ∧ ∀ x ∈ p, 0 ≤ x ∧ x < 10000 := by
  induction d with
  | zero =>
    intro j acc i h hj hl ha h0 h1
    refine ⟨acc, ⟨1, fun k hk => ?_⟩, by omega, ha⟩
    obtain ⟨k, rfl⟩ : ∃ m, k = m + 1 := ⟨k - 1, by omega⟩
    show spec_DrawPlaces.l0 (k + 1) _ _ _ _ _ = _
    rw [spec_DrawPlaces.l0, if_neg (by omega)]
  | succ d ih =>
    intro j acc i h hj hl ha h0 h1
    obtain ⟨v, i', h', e, g0, _, g1, g2, g3⟩ := spec_l01Below.is b hs i h 10000 h0 h1
    obtain ⟨p, hp, hp1, hp2⟩ := ih (j + 1) (acc ++ [v]) i' h' (by omega) (by simp; omega) (fun x hx => by
      rcases List.mem_append.1 hx with hx | hx
      · exact ha x hx
      · rw [List.mem_singleton.1 hx]
        exact ⟨g0, g1 (by omega)⟩) g2 g3
    have e3 : Hd (wrap64 ((j : Int) + 1) = ((j + 1 : Nat) : Int)) := Hd.mk <| by rw [w64 (by omega) (by omega)]; rfl
    refine ⟨p, Ev.step (fun k => ?_) hp, hp1, hp2⟩
    show spec_DrawPlaces.l0 (k + 1) _ _ _ _ _ = spec_DrawPlaces.l0 k _ _ _ _ _
    rw [spec_DrawPlaces.l0, if_pos (by omega), e, Option.bind_some]
    dsimp only
    rw [if_pos (by omega), e3.out]
theorem spec_DrawPlaces.ev (l : List Int) (hs : l.length ≤ 1048576) : ∃ p : List Int, Ev (fun k => spec_DrawPlaces.f k l) p ∧ p.length = 12 ∧ ∀ x ∈ p, 0 ≤ x ∧ x < 10000 := by
  obtain ⟨h, ⟨K1, h1⟩⟩ := spec_l01New.ev l hs
  dsimp only at h1
  obtain ⟨v, i', h', e, _, _, g2, g3⟩ := spec_l01Byte.is l hs 0 h (by omega) (by omega)
  obtain ⟨p, ⟨K2, h2⟩, hp1, hp2⟩ := spec_DrawPlaces.ev0 l hs 12 0 [] i' h' (by omega) rfl (fun x hx => by cases hx) g2 g3
  dsimp only at h2
  refine ⟨p, ⟨K1 + K2, fun k hk => ?_⟩, hp1, hp2⟩
  show spec_DrawPlaces.f k _ = _
  unfold spec_DrawPlaces.f
  rw [h1 k (by omega), Option.bind_some, e, Option.bind_some]
  exact h2 k (by omega)
theorem impl_SumMore.ev1 (l : List UInt8) (i : Nat) (hi : i < l.length) (hs : l.length ≤ 140737488351232) (r : Int) (d : Nat) :
    ∀ (x j : Nat), x < 4294967296 → j + d = 8 → Ev (fun k => impl_SumMore.l0 k ((crcBits d x : Nat) : Int) (mk l) ((i + 1 : Nat) : Int)) r → Ev (fun k => impl_SumMore.l1 k (x : Int) (mk l) (i : Int) (j : Int)) r := by
  induction d with
  | zero =>
    intro x j hx hj h
    refine Ev.step (fun k => ?_) h
    show impl_SumMore.l1 (k + 1) _ _ _ _ = _
    rw [impl_SumMore.l1]
    rw [if_neg (by omega), w64 (by omega) (by omega)]
    rfl
  | succ d ih =>
    intro x j hx hj h
    refine Ev.step (fun k => ?_) (ih (crcBit x) (j + 1) (crcBit_lt hx) (by omega) h)
    show impl_SumMore.l1 (k + 1) _ _ _ _ = _
    rw [impl_SumMore.l1]
    have e1 : Int.tmod (x : Int) 2 = ((x % 2 : Nat) : Int) := tmod_nat x 2
    have e2 : Int.tdiv (x : Int) 2 = ((x / 2 : Nat) : Int) := tdiv_nat x 2
    rw [if_pos (by omega), w64 (x := (j : Int) + 1) (by omega) (by omega), e1, e2, show ((x / 2 : Nat) : Int) % 4294967296 = ((x / 2 : Nat) : Int) by omega]
    unfold crcBit
    by_cases hb : x % 2 = 1
    · rw [if_pos (by omega), if_pos hb, show (3558460437 : Int) = ((3558460437 : Nat) : Int) from rfl, u32_xor_nat _ _ (by omega) (by omega)]
      rfl
    · rw [if_neg (by omega), if_neg hb]
      rfl
theorem impl_SumMore.ev0 (l : List UInt8) (hs : l.length ≤ 140737488351232) (d : Nat) :
    ∀ (i x : Nat), x < 4294967296 → i + d = l.length → Ev (fun k => impl_SumMore.l0 k (x : Int) (mk l) (i : Int)) ((crcL x (l.drop i) : Nat) : Int) := by
  have hsz := mk_size l
  induction d with
  | zero =>
    intro i x hx hi
    refine ⟨1, fun k hk => ?_⟩
    obtain ⟨k, rfl⟩ : ∃ m, k = m + 1 := ⟨k - 1, by omega⟩
    show impl_SumMore.l0 (k + 1) _ _ _ = _
    rw [impl_SumMore.l0]
    rw [if_neg (by omega), List.drop_eq_nil_of_le (by omega)]
    rfl
  | succ d ih =>
    intro i x hx hi
    have hlt : i < l.length := by omega
    have hb : (l[i]).toNat < 256 := (l[i]).toNat_lt
    have hx2 : x ^^^ (l[i]).toNat < 4294967296 := xor_lt32 hx (by omega)
    rw [drop_cons l i hlt, crcL_cons]
    refine Ev.step (fun k => ?_) (impl_SumMore.ev1 l i hlt hs _ 8 (x ^^^ (l[i]).toNat) 0 hx2 (by omega) (ih (i + 1) _ (crcBits_lt 8 hx2) (by omega)))
    show impl_SumMore.l0 (k + 1) _ _ _ = _
    rw [impl_SumMore.l0]
    rw [if_pos (by omega), if_pos (by omega), bt_mk l i hlt, show (((l[i]).toNat : Nat) : Int) % 4294967296 = ((l[i]).toNat : Int) by omega, u32_xor_nat _ _ hx (by omega)]
    rfl
theorem impl_SumMore.ev (l : List UInt8) (hs : l.length ≤ 140737488351232) (x : Nat) (hx : x < 4294967296) : Ev (fun k => impl_SumMore.f k (x : Int) (mk l)) ((crcL x l : Nat) : Int) :=
  impl_SumMore.ev0 l hs l.length 0 x hx (by omega)
theorem impl_SumOf.ev (l : List UInt8) (hs : l.length ≤ 140737488351232) : Ev (fun k => impl_SumOf.f k (mk l)) ((crc l : Nat) : Int) := by
  obtain ⟨K, h⟩ := impl_SumMore.ev l hs 4294967295 (by omega)
  dsimp only at h
  refine ⟨K, fun k hk => ?_⟩
  show impl_SumOf.f k _ = _
  unfold impl_SumOf.f
  rw [show (4294967295 : Int) = ((4294967295 : Nat) : Int) from rfl, h k hk]
  rfl
theorem impl_Sealed.ev (l : List UInt8) (hs : l.length ≤ 140737488351232) : Ev (fun k => impl_Sealed.f k (mk l)) (sealOf l) := by
  have hsz := mk_size l
  unfold sealOf
  obtain ⟨K, h⟩ := impl_SumOf.ev l hs
  dsimp only at h
  refine ⟨K, fun k hk => ?_⟩
  show impl_Sealed.f k _ = _
  unfold impl_Sealed.f
  by_cases hc : l.length ≤ 20000
  · rw [if_neg (by omega), if_pos hc, h k hk, Option.bind_some, Option.bind_some, four_nm, strOf_nm, if_pos (by rw [mk_size, mk_size, four_len]; omega), mk_append]
  · rw [if_pos (by omega), if_neg hc]
    rfl
theorem impl_Unsealed.ev (l : List UInt8) (hs : l.length ≤ 140737488351232) : Ev (fun k => impl_Unsealed.f k (mk l)) (unsealOf l) := by
  have hsz := mk_size l
  unfold unsealOf
  obtain ⟨K, h⟩ := impl_Sealed.ev (l.take (l.length - 4)) (by simp; omega)
  dsimp only at h
  refine ⟨K, fun k hk => ?_⟩
  show impl_Unsealed.f k _ = _
  unfold impl_Unsealed.f
  by_cases h4 : 4 ≤ l.length
  · rw [unseal_w l h4 hs, unseal_cut, if_neg (by omega), if_pos (by omega), if_pos (by omega), h k hk, Option.bind_some]
    have hlt : (l.take (l.length - 4)).length = l.length - 4 := by simp
    unfold sealOf
    by_cases hm : l.length ≤ 20004
    · rw [if_pos (show (l.take (l.length - 4)).length ≤ 20000 by omega)]
      have e : (mk (l.take (l.length - 4) ++ four (crc (l.take (l.length - 4))))).toList = (mk l).toList ↔ l.drop (l.length - 4) = four (crc (l.take (l.length - 4))) := by
        rw [mk_toList, mk_toList]
        conv => lhs; rhs; rw [← List.take_append_drop (l.length - 4) l]
        constructor
        · intro h'
          exact (List.append_cancel_left h').symm
        · intro h'
          rw [h']
      simp only [if_true]
      by_cases hd : l.drop (l.length - 4) = four (crc (l.take (l.length - 4)))
      · rw [if_pos (e.2 hd), if_pos ⟨h4, hm, hd⟩]
      · rw [if_neg (fun h' => hd (e.1 h')), if_neg (fun h' => hd h'.2.2)]
        rfl
    · rw [if_neg (show ¬ (l.take (l.length - 4)).length ≤ 20000 by omega), if_neg (show ¬ (4 ≤ l.length ∧ l.length ≤ 20004 ∧ l.drop (l.length - 4) = four (crc (l.take (l.length - 4)))) from fun h' => hm h'.2.1)]
      rfl
  · rw [if_pos (by omega), if_neg (fun h' => h4 h'.1)]
    rfl
theorem FnTurned : ∀ (l0 : List Int), (l0.length ≤ maxLen ∧ ∀ y ∈ l0, (Lit.int .u8 y).wf = true) → ∃ k, laws_FnTurned.f k l0 = some true := by
  intro l hl
  by_cases hb : (l.length : Int) > 1048576
  · refine ⟨0, ?_⟩
    unfold laws_FnTurned.f laws_big.f
    rw [decide_eq_true hb]
    rfl
  obtain ⟨p, ⟨K1, h1⟩, hp, hp2⟩ := spec_DrawPlaces.ev l (by omega)
  obtain ⟨s, ⟨K2, h2⟩, hs⟩ := spec_DrawSumOf.ev l (by omega)
  have hpr : ∀ j : Nat, j < 12 → ∃ x : Nat, rd p (j : Int) = (x : Int) := fun j hj => Int.eq_ofNat_of_zero_le (by
    show 0 ≤ p.getD j 0
    rw [List.getD_eq_getElem?_getD, List.getElem?_eq_getElem (show j < p.length by omega)]
    exact (hp2 _ (List.getElem_mem _)).1)
  obtain ⟨x0, hx0⟩ := hpr 0 (by omega)
  obtain ⟨x1, hx1⟩ := hpr 1 (by omega)
  obtain ⟨t, ht⟩ : ∃ t, t = s ++ four (crc s) := ⟨_, rfl⟩
  have htl : t.length = s.length + 4 := by rw [ht, List.length_append, four_len]
  have hsz := mk_size t
  have hss := mk_size s
  obtain ⟨K3, h3⟩ := impl_Sealed.ev s (by omega)
  obtain ⟨K4, h4⟩ := impl_Unsealed.ev t (by omega)
  have e3 : sealOf s = (mk t, true) := by
    unfold sealOf
    rw [if_pos (by omega), ht]
  have e4 : unsealOf t = (mk s, true) := by
    unfold unsealOf
    rw [htl, show s.length + 4 - 4 = s.length by omega, ht, List.drop_left, List.take_left, if_pos ⟨by omega, by omega, rfl⟩]
  obtain ⟨y, hy, e5⟩ := turnedOf_mk t x0 x1 (by omega)
  have hil : x0 % t.length < s.length + 4 := by rw [← htl]; exact Nat.mod_lt _ (by omega)
  have e6 : unsealOf (t.set (x0 % t.length) y) = (mk [], false) := by
    rw [ht] at hy hil ⊢
    exact turned_not s (by omega) _ hil y hy
  obtain ⟨K5, h5⟩ := impl_Unsealed.ev (t.set (x0 % t.length) y) (by rw [List.length_set]; omega)
  obtain ⟨K6, h6⟩ := impl_SumOf.ev s (by omega)
  obtain ⟨K7, h7⟩ := impl_SumMore.ev [120] (by decide) (crc s) (crc_lt s)
  obtain ⟨K8, h8⟩ := impl_SumOf.ev (s ++ [120]) (by simp; omega)
  dsimp only at h1 h2 h3 h4 h5 h6 h7 h8
  have e7 : crcL (crc s) [120] = crc (s ++ [120]) := by
    unfold crc
    rw [crcL_append]
  refine ⟨K1 + K2 + K3 + K4 + K5 + K6 + K7 + K8 + 1, ?_⟩
  unfold laws_FnTurned.f laws_big.f
  rw [decide_eq_false hb, Option.bind_some, if_neg (by simp), h2 _ (by omega), Option.bind_some, h1 _ (by omega), Option.bind_some, h3 _ (by omega), e3, Option.bind_some, h4 _ (by omega), e4, Option.bind_some, if_pos rfl, if_pos rfl, if_pos rfl]
  have ew : Hd (wrap64 (((mk s).size : Int) + 4) = ((mk t).size : Int)) := Hd.mk <| by rw [w64 (by omega) (by omega)]; omega
  dsimp only
  rw [ew.out, laws_FnTurned.j0, if_neg (by simp), if_pos (by omega), if_pos (by omega)]
  rw [show rd p 0 = (x0 : Int) from hx0, show rd p 1 = (x1 : Int) from hx1, if_pos (by omega), if_pos (by omega), if_pos (by omega), e5, h5 _ (by omega), e6, Option.bind_some, if_neg (by simp), h6 _ (by omega), Option.bind_some]
  rw [show (⟨#[120]⟩ : ByteArray) = mk [120] from rfl, h7 _ (by omega), Option.bind_some, mk_append, h8 _ (by omega), Option.bind_some, e7, if_pos rfl]

end Go.Proofs.Ytpnncgfmihjlkaa.Pure
