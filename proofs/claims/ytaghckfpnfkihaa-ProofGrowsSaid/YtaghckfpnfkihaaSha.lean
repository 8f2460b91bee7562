/- SHA-256, plainly. -/
import Derived.Test.YtaghckfpnfkihaaArr
import Derived.Test.YtaghckfpnfkihaaBe
namespace Go.Bs
set_option linter.unusedVariables false
def rotr (x : UInt32) (n : Nat) : UInt32 := (x >>> UInt32.ofNat n) ||| (x <<< UInt32.ofNat (32 - n))
/-- The state: eight words. -/
structure S8 where
  a : UInt32
  b : UInt32
  c : UInt32
  d : UInt32
  e : UInt32
  f : UInt32
  g : UInt32
  h : UInt32
def S8.list (s : S8) : List UInt32 := [s.a, s.b, s.c, s.d, s.e, s.f, s.g, s.h]
def S8.cells (s : S8) : List Value := [u32v s.a, u32v s.b, u32v s.c, u32v s.d, u32v s.e, u32v s.f, u32v s.g, u32v s.h]
theorem S8.cells_eq (s : S8) : s.cells = s.list.map u32v := rfl
def bs0 (a : UInt32) : UInt32 := rotr a 2 ^^^ rotr a 13 ^^^ rotr a 22
def bs1 (e : UInt32) : UInt32 := rotr e 6 ^^^ rotr e 11 ^^^ rotr e 25
def ss0 (x : UInt32) : UInt32 := rotr x 7 ^^^ rotr x 18 ^^^ (x >>> UInt32.ofNat (Int.toNat 3))
def ss1 (x : UInt32) : UInt32 := rotr x 17 ^^^ rotr x 19 ^^^ (x >>> UInt32.ofNat (Int.toNat 10))
def chP (e f g : UInt32) : UInt32 := (e &&& f) ^^^ ((~~~e) &&& g)
def majP (a b c : UInt32) : UInt32 := (a &&& b) ^^^ (a &&& c) ^^^ (b &&& c)
def rndX (s : S8) (k w : UInt32) : UInt32 := s.h + bs1 s.e + chP s.e s.f s.g + k + w
def rnd (s : S8) (k w : UInt32) : S8 := ⟨rndX s k w + bs0 s.a + majP s.a s.b s.c, s.a, s.b, s.c, s.d + rndX s k w, s.e, s.f, s.g⟩
/-- The words of the rounds. -/
def kw : List UInt32 := [1116352408, 1899447441, 3049323471, 3921009573, 961987163, 1508970993, 2453635748, 2870763221, 3624381080, 310598401, 607225278, 1426881987, 1925078388, 2162078206, 2614888103, 3248222580, 3835390401, 4022224774, 264347078, 604807628, 770255983, 1249150122, 1555081692, 1996064986, 2554220882, 2821834349, 2952996808, 3210313671, 3336571891, 3584528711, 113926993, 338241895, 666307205, 773529912, 1294757372, 1396182291, 1695183700, 1986661051, 2177026350, 2456956037, 2730485921, 2820302411, 3259730800, 3345764771, 3516065817, 3600352804, 4094571909, 275423344, 430227734, 506948616, 659060556, 883997877, 958139571, 1322822218, 1537002063, 1747873779, 1955562222, 2024104815, 2227730452, 2361852424, 2428436474, 2756734187, 3204031479, 3329325298]
theorem kw_length : kw.length = 64 := rfl
/-- The first words, of a block's bytes. -/
def wd (b : List UInt8) (i : Nat) : UInt32 :=
  ((((b.getD (4 * i) 0).toUInt32 <<< UInt32.ofNat (Int.toNat 24)) ||| ((b.getD (4 * i + 1) 0).toUInt32 <<< UInt32.ofNat (Int.toNat 16))) ||| ((b.getD (4 * i + 2) 0).toUInt32 <<< UInt32.ofNat (Int.toNat 8))) ||| (b.getD (4 * i + 3) 0).toUInt32
/-- One word more. -/
def nxt (l : List UInt32) : UInt32 := l.getD (l.length - 16) 0 + ss0 (l.getD (l.length - 15) 0) + l.getD (l.length - 7) 0 + ss1 (l.getD (l.length - 2) 0)
def sched (b : List UInt8) : Nat → List UInt32
  | 0 => (List.range 16).map (wd b)
  | n + 1 => sched b n ++ [nxt (sched b n)]
theorem sched_length (b : List UInt8) : ∀ n, (sched b n).length = 16 + n
  | 0 => by simp [sched]
  | n + 1 => by simp [sched, sched_length b n]; omega
def rnds (s : S8) (ws : List UInt32) : Nat → S8
  | 0 => s
  | n + 1 => rnd (rnds s ws n) (kw.getD n 0) (ws.getD n 0)
def S8.add (s t : S8) : S8 := ⟨s.a + t.a, s.b + t.b, s.c + t.c, s.d + t.d, s.e + t.e, s.f + t.f, s.g + t.g, s.h + t.h⟩
def blockP (h : S8) (b : List UInt8) : S8 := h.add (rnds h (sched b 48) 64)
def foldB (h : S8) (l : List UInt8) : S8 := if h0 : l.length < 64 then h else foldB (blockP h (l.take 64)) (l.drop 64)
termination_by l.length
decreasing_by rw [List.length_drop]; omega
theorem foldB_end {h : S8} {l : List UInt8} (h0 : l.length < 64) : foldB h l = h := by rw [foldB, dif_pos h0]
theorem foldB_step {h : S8} {l : List UInt8} (h0 : 64 ≤ l.length) : foldB h l = foldB (blockP h (l.take 64)) (l.drop 64) := by
  rw [foldB, dif_neg (by omega)]
theorem foldB_block {h : S8} {b l : List UInt8} (h0 : b.length = 64) : foldB h (b ++ l) = foldB (blockP h b) l := by
  rw [foldB_step (by simp; omega), List.take_append_of_le_length (by omega), List.take_of_length_le (by omega), List.drop_append_of_le_length (by omega), List.drop_of_length_le (by omega), List.nil_append]
def h0P : S8 := ⟨1779033703, 3144134277, 1013904242, 2773480762, 1359893119, 2600822924, 528734635, 1541459225⟩
def zs (n : Nat) : Nat := (119 - n % 64) % 64
def len8 (n : Nat) : List UInt8 := be (n * 8) 8
def padT (n : Nat) : List UInt8 := 128 :: (List.replicate (zs n) 0 ++ len8 n)
theorem zs_eq (n : Nat) : (n + 1 + zs n) % 64 = 56 := by unfold zs; omega
theorem padT_length (n : Nat) : (padT n).length = 9 + zs n := by simp [padT, len8, be_length]; omega
def outW (x : UInt32) : List UInt8 := [(x >>> UInt32.ofNat (Int.toNat 24)).toUInt8, (x >>> UInt32.ofNat (Int.toNat 16)).toUInt8, (x >>> UInt32.ofNat (Int.toNat 8)).toUInt8, x.toUInt8]
def outP (s : S8) : List UInt8 := s.list.flatMap outW
/-- SHA-256. -/
def sha (b : List UInt8) : List UInt8 := outP (foldB h0P (b ++ padT b.length))
theorem sha_length (b : List UInt8) : (sha b).length = 32 := rfl
/-- A word, byte for byte. -/
theorem wd_step (c0 c1 c2 c3 : UInt8) :
    ((((((((0 : UInt32) <<< UInt32.ofNat (Int.toNat 8)) ||| c0.toUInt32) <<< UInt32.ofNat (Int.toNat 8)) ||| c1.toUInt32) <<< UInt32.ofNat (Int.toNat 8)) ||| c2.toUInt32) <<< UInt32.ofNat (Int.toNat 8)) ||| c3.toUInt32 =
      (((c0.toUInt32 <<< UInt32.ofNat (Int.toNat 24)) ||| (c1.toUInt32 <<< UInt32.ofNat (Int.toNat 16))) ||| (c2.toUInt32 <<< UInt32.ofNat (Int.toNat 8))) ||| c3.toUInt32 := by
  have e8 : UInt32.ofNat (Int.toNat 8) = 8 := rfl
  have e16 : UInt32.ofNat (Int.toNat 16) = 16 := rfl
  have e24 : UInt32.ofNat (Int.toNat 24) = 24 := rfl
  rw [e8, e16, e24]
  have z : (0 : UInt32) <<< 8 = 0 := rfl
  have s1 : ∀ x : UInt32, x <<< 8 <<< 8 = x <<< 16 := fun x => by
    apply UInt32.eq_of_toBitVec_eq
    simp [← BitVec.shiftLeft_add]
  have s2 : ∀ x : UInt32, x <<< 16 <<< 8 = x <<< 24 := fun x => by
    apply UInt32.eq_of_toBitVec_eq
    simp [← BitVec.shiftLeft_add]
  have d : ∀ x y : UInt32, (x ||| y) <<< 8 = x <<< 8 ||| y <<< 8 := fun x y => by
    apply UInt32.eq_of_toBitVec_eq
    simp [BitVec.shiftLeft_or_distrib]
  rw [z, UInt32.zero_or, d, d, s1, d, s1, s2]
end Go.Bs
