/- bits.OnesCount: how many bits a number has. -/
import Derived.Test.YtegmeopbpifeeaaNodes
import Derived.Test.YtegmeopbpifeeaaBits
import Derived.Test.YtegmeopbpifeeaaArr
import Derived.KernelRfl
namespace Go.Bs
theorem and64 {m n : Nat} (hm : m < 18446744073709551616) (hn : n < 18446744073709551616) : Go.bits .and .u64 (m : Int) (n : Int) = ((m &&& n : Nat) : Int) := by
  have h := Nat.and_le_left (n := m) (m := n)
  show IntKind.u64.wrap (((BitVec.ofInt 64 (m : Int) &&& BitVec.ofInt 64 (n : Int)).toNat : Nat) : Int) = _
  rw [BitVec.ofInt_natCast, BitVec.ofInt_natCast, BitVec.toNat_and, BitVec.toNat_ofNat, BitVec.toNat_ofNat, Nat.mod_eq_of_lt (by simpa using hm), Nat.mod_eq_of_lt (by simpa using hn)]
  exact Go.Proofs.w64 _ (by omega)
theorem and64i {m n : Nat} (hm : m < 9223372036854775808) (hn : n < 9223372036854775808) : Go.bits .and .i64 (m : Int) (n : Int) = ((m &&& n : Nat) : Int) := by
  have h := Nat.and_le_left (n := m) (m := n)
  show IntKind.i64.wrap (((BitVec.ofInt 64 (m : Int) &&& BitVec.ofInt 64 (n : Int)).toNat : Nat) : Int) = _
  rw [BitVec.ofInt_natCast, BitVec.ofInt_natCast, BitVec.toNat_and, BitVec.toNat_ofNat, BitVec.toNat_ofNat, Nat.mod_eq_of_lt (by simp; omega), Nat.mod_eq_of_lt (by simp; omega)]
  exact wrap_i64 (by omega) (by omega)
/-- A byte and what lies above it. -/
theorem and_byte (a b x y : Nat) (ha : a < 256) (hb : b < 256) : (a + 256 * x) &&& (b + 256 * y) = (a &&& b) + 256 * (x &&& y) := by
  have e1 : a + 256 * x = 2 ^ 8 * x + a := by omega
  have e2 : b + 256 * y = 2 ^ 8 * y + b := by omega
  have h3 : (a &&& b) < 2 ^ 8 := Nat.and_lt_two_pow _ (by omega)
  have e3 : (a &&& b) + 256 * (x &&& y) = 2 ^ 8 * (x &&& y) + (a &&& b) := by omega
  rw [e1, e2, e3]
  apply Nat.eq_of_testBit_eq
  intro i
  rw [Nat.testBit_and, Nat.testBit_two_pow_mul_add _ (by omega), Nat.testBit_two_pow_mul_add _ (by omega), Nat.testBit_two_pow_mul_add _ h3]
  split
  · rw [Nat.testBit_and]
  · rw [Nat.testBit_and]
def st1 (m x : Nat) : Nat := ((x / 2) &&& m) + (x &&& m)
def st2 (m x : Nat) : Nat := ((x / 4) &&& m) + (x &&& m)
def st3 (m x : Nat) : Nat := (x / 16 + x) &&& m
/-- The same byte so many times. -/
def rp (b : Nat) : Nat → Nat
  | 0 => 0
  | k + 1 => b + 256 * rp b k
/-- The bits of each byte. -/
def pcs : Nat → Nat → Nat
  | 0, _ => 0
  | k + 1, x => pcP (x % 256) + 256 * pcs k (x / 256)
theorem s1b : ∀ (b : _root_.Fin 256) (y : _root_.Fin 2), ((b.1 / 2 + 128 * y.1) &&& 85) + (b.1 &&& 85) = st1 85 b.1 ∧ st1 85 b.1 < 256 := by decide +kernel
theorem s2b : ∀ (b : _root_.Fin 256) (y : _root_.Fin 4), ((b.1 / 4 + 64 * y.1) &&& 51) + (b.1 &&& 51) = st2 51 b.1 ∧ st2 51 b.1 < 256 := by decide +kernel
theorem s3b : ∀ (b : _root_.Fin 69) (y : _root_.Fin 5), (b.1 / 16 + b.1 + 16 * y.1) &&& 15 = st3 15 b.1 := by decide +kernel
theorem s3p : ∀ b : _root_.Fin 256, st2 51 (st1 85 b.1) < 69 ∧ st2 51 (st1 85 b.1) % 16 ≤ 4 ∧ st3 15 (st2 51 (st1 85 b.1)) = pcP b.1 ∧ pcP b.1 ≤ 8 := by decide +kernel
theorem st1_byte {M b y : Nat} (hb : b < 256) : st1 (85 + 256 * M) (b + 256 * y) = st1 85 b + 256 * st1 M y := by
  obtain ⟨h1, _⟩ := s1b ⟨b, hb⟩ ⟨y % 2, by omega⟩
  dsimp only at h1
  have e1 : (b + 256 * y) / 2 = (b / 2 + 128 * (y % 2)) + 256 * (y / 2) := by omega
  rw [← h1]
  unfold st1
  rw [e1, and_byte _ _ _ _ (by omega) (by omega), and_byte _ _ _ _ hb (by omega)]
  omega
theorem st2_byte {M b y : Nat} (hb : b < 256) : st2 (51 + 256 * M) (b + 256 * y) = st2 51 b + 256 * st2 M y := by
  obtain ⟨h1, _⟩ := s2b ⟨b, hb⟩ ⟨y % 4, by omega⟩
  dsimp only at h1
  have e1 : (b + 256 * y) / 4 = (b / 4 + 64 * (y % 4)) + 256 * (y / 4) := by omega
  rw [← h1]
  unfold st2
  rw [e1, and_byte _ _ _ _ (by omega) (by omega), and_byte _ _ _ _ hb (by omega)]
  omega
theorem st3_byte {M b y : Nat} (hb : b < 69) (hy : y % 16 ≤ 4) : st3 (15 + 256 * M) (b + 256 * y) = st3 15 b + 256 * st3 M y := by
  have h1 := s3b ⟨b, hb⟩ ⟨y % 16, by omega⟩
  dsimp only at h1
  have e1 : (b + 256 * y) / 16 + (b + 256 * y) = (b / 16 + b + 16 * (y % 16)) + 256 * (y / 16 + y) := by omega
  rw [← h1]
  unfold st3
  rw [e1, and_byte _ _ _ _ (by omega) (by omega)]
theorem st2_zero (x : Nat) : st2 0 x = 0 := by simp [st2]
theorem st12_byte {k b y : Nat} (hb : b < 256) : st2 (rp 51 (k + 1)) (st1 (rp 85 (k + 1)) (b + 256 * y)) = st2 51 (st1 85 b) + 256 * st2 (rp 51 k) (st1 (rp 85 k) y) := by
  rw [rp, rp, st1_byte hb, st2_byte (s1b ⟨b, hb⟩ 0).2]
theorem st12_low : ∀ (k y : Nat), st2 (rp 51 k) (st1 (rp 85 k) y) % 16 ≤ 4
  | 0, y => by rw [rp, rp, st2_zero]; omega
  | k + 1, y => by
    have hb : y % 256 < 256 := Nat.mod_lt _ (by omega)
    rw [show y = y % 256 + 256 * (y / 256) by omega, st12_byte hb]
    have h1 := (s3p ⟨y % 256, hb⟩).2.1
    dsimp only at h1
    omega
theorem st123 : ∀ (k x : Nat), st3 (rp 15 k) (st2 (rp 51 k) (st1 (rp 85 k) x)) = pcs k x
  | 0, x => by simp [rp, st3, pcs]
  | k + 1, x => by
    have hb : x % 256 < 256 := Nat.mod_lt _ (by omega)
    obtain ⟨h1, _, h2, _⟩ := s3p ⟨x % 256, hb⟩
    dsimp only at h1 h2
    rw [pcs, ← st123 k (x / 256), ← h2]
    conv => lhs; rw [show x = x % 256 + 256 * (x / 256) by omega]
    rw [st12_byte hb, rp, st3_byte h1 (st12_low k _)]
theorem pcP_byte (x : Nat) : pcP x = pcP (x % 256) + pcP (x / 256) := by
  rw [pcP_step x, pcP_step (x / 2), pcP_step (x / 2 / 2), pcP_step (x / 2 / 2 / 2), pcP_step (x / 2 / 2 / 2 / 2), pcP_step (x / 2 / 2 / 2 / 2 / 2), pcP_step (x / 2 / 2 / 2 / 2 / 2 / 2), pcP_step (x / 2 / 2 / 2 / 2 / 2 / 2 / 2)]
  obtain ⟨y, hy⟩ : ∃ y, y = x % 256 := ⟨_, rfl⟩
  rw [← hy, pcP_step y, pcP_step (y / 2), pcP_step (y / 2 / 2), pcP_step (y / 2 / 2 / 2), pcP_step (y / 2 / 2 / 2 / 2), pcP_step (y / 2 / 2 / 2 / 2 / 2), pcP_step (y / 2 / 2 / 2 / 2 / 2 / 2), pcP_step (y / 2 / 2 / 2 / 2 / 2 / 2 / 2)]
  rw [show x / 2 / 2 / 2 / 2 / 2 / 2 / 2 / 2 = x / 256 by omega, show y / 2 / 2 / 2 / 2 / 2 / 2 / 2 / 2 = 0 by omega, pcP_zero]
  omega
/-- The whole, behind the first three turns. -/
theorem pcs_sum {x y : Nat} (hx : x < 18446744073709551616) (hy : y = pcs 8 x) : y < 1152921504606846976 ∧ (y + y / 256 + (y + y / 256) / 65536 + (y + y / 256 + (y + y / 256) / 65536) / 4294967296) % 128 = pcP x := by
  have hc : ∀ n, pcP (n % 256) ≤ 8 := fun n => (s3p ⟨n % 256, Nat.mod_lt _ (by omega)⟩).2.2.2
  simp only [pcs] at hy
  have h0 : x / 256 / 256 / 256 / 256 / 256 / 256 / 256 / 256 = 0 := by omega
  rw [pcP_byte x, pcP_byte (x / 256), pcP_byte (x / 256 / 256), pcP_byte (x / 256 / 256 / 256), pcP_byte (x / 256 / 256 / 256 / 256), pcP_byte (x / 256 / 256 / 256 / 256 / 256), pcP_byte (x / 256 / 256 / 256 / 256 / 256 / 256), pcP_byte (x / 256 / 256 / 256 / 256 / 256 / 256 / 256), h0, pcP_zero]
  have c0 := hc x
  have c1 := hc (x / 256)
  have c2 := hc (x / 256 / 256)
  have c3 := hc (x / 256 / 256 / 256)
  have c4 := hc (x / 256 / 256 / 256 / 256)
  have c5 := hc (x / 256 / 256 / 256 / 256 / 256)
  have c6 := hc (x / 256 / 256 / 256 / 256 / 256 / 256)
  have c7 := hc (x / 256 / 256 / 256 / 256 / 256 / 256 / 256)
  generalize pcP (x % 256) = a0 at *
  generalize pcP (x / 256 % 256) = a1 at *
  generalize pcP (x / 256 / 256 % 256) = a2 at *
  generalize pcP (x / 256 / 256 / 256 % 256) = a3 at *
  generalize pcP (x / 256 / 256 / 256 / 256 % 256) = a4 at *
  generalize pcP (x / 256 / 256 / 256 / 256 / 256 % 256) = a5 at *
  generalize pcP (x / 256 / 256 / 256 / 256 / 256 / 256 % 256) = a6 at *
  generalize pcP (x / 256 / 256 / 256 / 256 / 256 / 256 / 256 % 256) = a7 at *
  clear h0 hc hx
  constructor
  · omega
  have e1 : y / 256 = a1 + 256 * (a2 + 256 * (a3 + 256 * (a4 + 256 * (a5 + 256 * (a6 + 256 * a7))))) := by omega
  obtain ⟨z, hz⟩ : ∃ z, z = y + y / 256 := ⟨_, rfl⟩
  rw [← hz]
  have e2 : z = (a0 + a1) + 256 * ((a1 + a2) + 256 * ((a2 + a3) + 256 * ((a3 + a4) + 256 * ((a4 + a5) + 256 * ((a5 + a6) + 256 * ((a6 + a7) + 256 * a7)))))) := by omega
  clear e1 hz hy
  have e3 : z / 65536 = (a2 + a3) + 256 * ((a3 + a4) + 256 * ((a4 + a5) + 256 * ((a5 + a6) + 256 * ((a6 + a7) + 256 * a7)))) := by omega
  obtain ⟨w, hw⟩ : ∃ w, w = z + z / 65536 := ⟨_, rfl⟩
  rw [← hw]
  have e4 : w = (a0 + a1 + a2 + a3) + 256 * ((a1 + a2 + a3 + a4) + 256 * ((a2 + a3 + a4 + a5) + 256 * ((a3 + a4 + a5 + a6) + 256 * ((a4 + a5 + a6 + a7) + 256 * ((a5 + a6 + a7) + 256 * ((a6 + a7) + 256 * a7)))))) := by omega
  clear e2 e3 hw
  have e5 : w / 4294967296 = (a4 + a5 + a6 + a7) + 256 * ((a5 + a6 + a7) + 256 * ((a6 + a7) + 256 * a7)) := by omega
  omega
end Go.Bs
namespace Go.Proofs
set_option linter.unusedVariables false
open Go.Bs
set_option linter.unusedSimpArgs false
attribute [local irreducible] Bs.Val Bs.Do Bs.O Bs.W Bs.Fin Bs.A Bs.Ct Bs.RdSl Bs.Rd Bs.Sat Bs.Blk Bs.Ob Bs.Own Bs.View Bs.Ent Bs.Ex Bs.All Bs.Pu Bs.Base Bs.sepL Bs.RdA
theorem div64 (m s : Nat) (hs : s ≤ 64) : ((m : Int)).fdiv (2 ^ (min ((s : Int)).toNat IntKind.u64.bits)) = ((m / 2 ^ s : Nat) : Int) := fdivN m s 64 hs
theorem st1_lt {x : Nat} (hx : x < 18446744073709551616) : st1 (rp 85 8) x < 18446744073709551616 := by
  have h1 := Nat.and_le_right (n := x / 2) (m := rp 85 8)
  have h2 := Nat.and_le_right (n := x) (m := rp 85 8)
  have h3 : rp 85 8 = 6148914691236517205 := by decide
  unfold st1; omega
theorem st2_lt {x : Nat} : st2 (rp 51 8) x < 18446744073709551616 := by
  have h1 := Nat.and_le_right (n := x / 4) (m := rp 51 8)
  have h2 := Nat.and_le_right (n := x) (m := rp 51 8)
  have h3 : rp 51 8 = 3689348814741910323 := by decide
  unfold st2; omega
theorem st3_lt {x : Nat} : st3 (rp 15 8) x < 1152921504606846976 * 2 := by
  have h1 := Nat.and_le_right (n := x / 16 + x) (m := rp 15 8)
  have h3 : rp 15 8 = 1085102592571150095 := by decide
  unfold st3; omega
theorem t1_eq {n : Nat} (hn : n < 18446744073709551616) : IntKind.u64.wrap (Go.bits .and .u64 (((n : Int)).fdiv (2 ^ min (Int.toNat 1) IntKind.u64.bits)) 6148914691236517205 + Go.bits .and .u64 (n : Int) 6148914691236517205) = ((st1 (rp 85 8) n : Nat) : Int) := by
  have h1 : ((n : Int)).fdiv (2 ^ min (Int.toNat 1) IntKind.u64.bits) = ((n / 2 : Nat) : Int) := fdivN n 1 64 (by omega)
  have h2 : Go.bits .and .u64 ((n / 2 : Nat) : Int) 6148914691236517205 = ((n / 2 &&& rp 85 8 : Nat) : Int) := and64 (by omega) (by decide)
  have h3 : Go.bits .and .u64 (n : Int) 6148914691236517205 = ((n &&& rp 85 8 : Nat) : Int) := and64 hn (by decide)
  rw [h1, h2, h3, ← Int.natCast_add]
  exact w64 _ (st1_lt hn)
theorem t2_eq {n : Nat} (hn : n < 18446744073709551616) : IntKind.u64.wrap (Go.bits .and .u64 (((n : Int)).fdiv (2 ^ min (Int.toNat 2) IntKind.u64.bits)) 3689348814741910323 + Go.bits .and .u64 (n : Int) 3689348814741910323) = ((st2 (rp 51 8) n : Nat) : Int) := by
  have h1 : ((n : Int)).fdiv (2 ^ min (Int.toNat 2) IntKind.u64.bits) = ((n / 4 : Nat) : Int) := fdivN n 2 64 (by omega)
  have h2 : Go.bits .and .u64 ((n / 4 : Nat) : Int) 3689348814741910323 = ((n / 4 &&& rp 51 8 : Nat) : Int) := and64 (by omega) (by decide)
  have h3 : Go.bits .and .u64 (n : Int) 3689348814741910323 = ((n &&& rp 51 8 : Nat) : Int) := and64 hn (by decide)
  rw [h1, h2, h3, ← Int.natCast_add]
  exact w64 _ st2_lt
theorem t3_eq {n : Nat} (hn : n ≤ 7378697629483820646) : Go.bits .and .u64 (IntKind.u64.wrap (((n : Int)).fdiv (2 ^ min (Int.toNat 4) IntKind.u64.bits) + (n : Int))) 1085102592571150095 = ((st3 (rp 15 8) n : Nat) : Int) := by
  have h1 : ((n : Int)).fdiv (2 ^ min (Int.toNat 4) IntKind.u64.bits) = ((n / 16 : Nat) : Int) := fdivN n 4 64 (by omega)
  rw [h1, ← Int.natCast_add, w64 _ (by omega)]
  exact and64 (by omega) (by decide)
theorem t4_eq {n : Nat} (hn : n < 4611686018427387904) : IntKind.u64.wrap ((n : Int) + ((n : Int)).fdiv (2 ^ min (Int.toNat 8) IntKind.u64.bits)) = ((n + n / 256 : Nat) : Int) := by
  have h1 : ((n : Int)).fdiv (2 ^ min (Int.toNat 8) IntKind.u64.bits) = ((n / 256 : Nat) : Int) := fdivN n 8 64 (by omega)
  rw [h1, ← Int.natCast_add]
  exact w64 _ (by omega)
theorem t5_eq {n : Nat} (hn : n < 4611686018427387904) : IntKind.u64.wrap ((n : Int) + ((n : Int)).fdiv (2 ^ min (Int.toNat 16) IntKind.u64.bits)) = ((n + n / 65536 : Nat) : Int) := by
  have h1 : ((n : Int)).fdiv (2 ^ min (Int.toNat 16) IntKind.u64.bits) = ((n / 65536 : Nat) : Int) := fdivN n 16 64 (by omega)
  rw [h1, ← Int.natCast_add]
  exact w64 _ (by omega)
theorem t6_eq {n : Nat} (hn : n < 4611686018427387904) : IntKind.u64.wrap ((n : Int) + ((n : Int)).fdiv (2 ^ min (Int.toNat 32) IntKind.u64.bits)) = ((n + n / 4294967296 : Nat) : Int) := by
  have h1 : ((n : Int)).fdiv (2 ^ min (Int.toNat 32) IntKind.u64.bits) = ((n / 4294967296 : Nat) : Int) := fdivN n 32 64 (by omega)
  rw [h1, ← Int.natCast_add]
  exact w64 _ (by omega)
theorem t7_eq {n : Nat} (hn : n < 9223372036854775808) : Go.bits .and .i64 (IntKind.i64.wrap (n : Int)) 127 = ((n % 128 : Nat) : Int) := by
  rw [wrap_i64 (by omega) (by omega), show ((n % 128 : Nat) : Int) = ((n &&& 127 : Nat) : Int) by rw [Nat.and_two_pow_sub_one_eq_mod n 7]]
  exact and64i hn (by decide)
theorem ones64_spec (R : List Res) (e : World) (x : Nat) (hx : x < 18446744073709551616) :
    Ct Try.prog 34 #[.int .u64 (x : Int)] e R (fun v' L' => v' = .int .i64 (pcP x : Int) ∧ R = L') := by
  refine Ct.enter (args := [_]) Try.func34 rfl Try.ntmps34 Try.results34 rfl ?_
  (repeat' first | (apply O.move; exact rfl; exact rfl) | (apply O.assign; exact rfl; exact rfl) | apply W.seq | apply W.region | apply O.nil | apply Fin.next | (apply O.add64; exact rfl; exact rfl; omega; exact rfl) | (apply O.add; exact rfl; exact rfl; exact rfl) | (apply O.convIntE; exact rfl; (first | exact wrap_i64 (by omega) (by omega) | exact wrap_u32 (by omega) (by omega) | exact wrap_u8 (by omega) (by omega)); exact rfl) | (apply O.convInt; exact rfl; exact rfl) | (apply O.shr; exact rfl; exact rfl; omega; exact rfl) | (apply O.and; exact rfl; exact rfl; exact rfl) | (apply O.bytes; exact rfl; (focus ((repeat first | exact RdSl.own .zero | exact RdSl.view .zero | assumption | apply RdB.tail); done)); exact rfl) | (apply O.convSl; exact rfl; (focus ((repeat first | exact Upd.zero | apply Upd.succ); done)); exact rfl) | apply W.ret | apply Fin.then_ret | (apply O.addStr; exact rfl; exact rfl; omega; exact rfl))
  refine Fin.ret R rfl Ent.rfl ⟨?_, rfl⟩
  obtain ⟨y, hy⟩ : ∃ y, y = pcs 8 x := ⟨_, rfl⟩
  obtain ⟨h1, h2⟩ := pcs_sum hx hy
  have h3 := st123 8 x
  have h51 : st2 (rp 51 8) (st1 (rp 85 8) x) ≤ 7378697629483820646 := by
    have h1 := Nat.and_le_right (n := st1 (rp 85 8) x / 4) (m := rp 51 8)
    have h2 := Nat.and_le_right (n := st1 (rp 85 8) x) (m := rp 51 8)
    have h3 : rp 51 8 = 3689348814741910323 := by decide
    unfold st2; omega
  rw [t1_eq hx, t2_eq (st1_lt hx), t3_eq h51, h3, ← hy, t4_eq (by omega), t5_eq (by omega), t6_eq (by omega), t7_eq (by omega), h2]
  rfl
theorem ones_spec (R : List Res) (e : World) (x : Nat) (hx : x < 18446744073709551616) :
    Ct Try.prog 22 #[.int .u64 (x : Int)] e R (fun v' L' => v' = .int .i64 (pcP x : Int) ∧ R = L') := by
  refine Ct.enter (args := [_]) Try.func22 rfl Try.ntmps22 Try.results22 rfl ?_
  (repeat' first | (apply O.move; exact rfl; exact rfl) | (apply O.assign; exact rfl; exact rfl) | apply W.seq | apply W.region | apply O.nil | apply Fin.next | (apply O.convIntE; exact rfl; (first | exact wrap_i64 (by omega) (by omega) | exact wrap_u32 (by omega) (by omega) | exact wrap_u8 (by omega) (by omega)); exact rfl) | (apply O.convInt; exact rfl; exact rfl) | (apply O.bytes; exact rfl; (focus ((repeat first | exact RdSl.own .zero | exact RdSl.view .zero | assumption | apply RdB.tail); done)); exact rfl) | (apply O.convSl; exact rfl; (focus ((repeat first | exact Upd.zero | apply Upd.succ); done)); exact rfl) | (apply W.cond_t; exact rfl) | (apply W.cond_f; exact rfl) | apply W.skip | apply W.ret | apply Fin.then_ret)
  refine O.call rfl rfl (ones64_spec R e x hx) ?_
  rintro _ _ ⟨rfl, rfl⟩
  (repeat' first | (apply O.move; exact rfl; exact rfl) | (apply O.assign; exact rfl; exact rfl) | apply W.seq | apply W.region | apply O.nil | apply Fin.next | (apply O.convIntE; exact rfl; (first | exact wrap_i64 (by omega) (by omega) | exact wrap_u32 (by omega) (by omega) | exact wrap_u8 (by omega) (by omega)); exact rfl) | (apply O.convInt; exact rfl; exact rfl) | (apply O.bytes; exact rfl; (focus ((repeat first | exact RdSl.own .zero | exact RdSl.view .zero | assumption | apply RdB.tail); done)); exact rfl) | (apply O.convSl; exact rfl; (focus ((repeat first | exact Upd.zero | apply Upd.succ); done)); exact rfl) | (apply W.cond_t; exact rfl) | (apply W.cond_f; exact rfl) | apply W.skip | apply W.ret | apply Fin.then_ret)
  exact Fin.ret R rfl Ent.rfl ⟨rfl, rfl⟩
end Go.Proofs
