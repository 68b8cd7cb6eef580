/- Plain mathematics of a packet's bytes: words, lengths, fields, the rest, the whole. No program. -/
import Derived.Test.YtkphaihbdmjogaaDoorPlainPacket4
namespace Go.Proofs.YtkphaihbdmjogaaDoor

def byteN (n : Nat) : UInt8 := UInt8.ofNat n
def wordB (n : Nat) : Bs := [byteN (n / 256), byteN (n % 256)]
def dataB (s : ByteArray) : Bs := wordB s.size ++ bl s
def lenF : Nat → Nat → Bs
  | 0, n => [byteN n]
  | f + 1, n => if n < 128 then [byteN n] else byteN (n % 128 + 128) :: lenF f (n / 128)
/-- A length's bytes (of a length up to 268435455). -/
def lenB (n : Nat) : Bs := lenF 3 n
def lenS (n : Nat) : Nat := if n < 128 then 1 else if n < 16384 then 2 else if n < 2097152 then 3 else 4
theorem lenB_len (n : Nat) (h : n ≤ 268435455) : (lenB n).length = lenS n := by
  unfold lenB lenS lenF lenF lenF lenF
  by_cases h1 : n < 128
  · simp [h1]
  · by_cases h2 : n < 16384
    · have : n / 128 < 128 := by omega
      simp [h1, h2, this]
    · by_cases h3 : n < 2097152
      · have a1 : ¬ n / 128 < 128 := by omega
        have a2 : n / 128 / 128 < 128 := by omega
        simp [h1, h2, h3, a1, a2]
      · have a1 : ¬ n / 128 < 128 := by omega
        have a2 : ¬ n / 128 / 128 < 128 := by omega
        simp [h1, h2, h3, a1, a2]
def bitN (b : Bool) (v : Nat) : Nat := if b then v else 0
def flagsN (p : Pk) : Nat := if p.ty = 3 then bitN p.dup 8 + 2 * p.qos + bitN p.ret 1 else if p.ty = 6 ∨ p.ty = 8 ∨ p.ty = 10 then 2 else 0
def conFlags (p : Pk) : Nat := bitN p.hasUser 128 + bitN p.hasPass 64 + bitN p.wret 32 + 8 * p.wqos + bitN p.hasWill 4 + bitN p.clean 2
def mqtt : ByteArray := ⟨#[77, 81, 84, 84]⟩
def connectB (p : Pk) : Bs :=
  dataB mqtt ++ [byteN p.level, byteN (conFlags p)] ++ wordB p.keep ++ dataB p.client ++ (if p.hasWill then dataB p.wtopic ++ dataB p.wpayload else []) ++ (if p.hasUser then dataB p.user else []) ++ (if p.hasPass then dataB p.pass else [])
def subB (t : Nat) (x : Sb) : Bs := dataB x.1 ++ (if t = 8 then [byteN x.2] else [])
def otherB (p : Pk) : Bs := (if p.ty = 3 then dataB p.topic else []) ++ (if p.id = 0 then [] else wordB p.id) ++ p.subs.flatMap (subB p.ty) ++ bl p.codes ++ bl p.payload
def restB (p : Pk) : Bs := if p.ty = 1 then connectB p else if p.ty = 2 then [byteN (bitN p.present 1), byteN p.code] else otherB p
/-- A packet's bytes, its rest's length n. -/
def encB (p : Pk) : Bs := byteN (16 * p.ty + flagsN p) :: (lenB (restP p).toNat ++ restB p)
theorem dataB_len (s : ByteArray) : (dataB s).length = 2 + s.size := by
  unfold dataB wordB
  simp [blen]; omega
theorem connectB_len (p : Pk) : (connectB p).length = connectLen p := by
  have hm : mqtt.size = 4 := rfl
  unfold connectB connectLen
  cases p.hasWill <;> cases p.hasUser <;> cases p.hasPass <;> simp [dataB_len, wordB, hm] <;> omega
theorem subsB_len (t : Nat) (S : List Sb) : (S.flatMap (subB t)).length = subsLen (if t = 8 then 1 else 0) S := by
  unfold subsLen
  induction S with
  | nil => rfl
  | cons x r ih =>
    rw [List.flatMap_cons, List.length_append, ih, List.map_cons, List.sum_cons]
    unfold subB
    rw [List.length_append, dataB_len]
    by_cases h : t = 8
    · simp [h]
    · simp [h]
theorem restB_len (p : Pk) (hp : PkOk p) (h : 0 ≤ restP p) : ((restB p).length : Int) = restP p := by
  rw [(right_rest p hp).2 h]
  congr 1
  have hz := (zeros_iff p).1 (rest_bare h)
  unfold restB restR
  by_cases h1 : p.ty = 1
  · rw [if_pos h1, connectB_len]
    have a := hz.z3 (by omega)
    have b := hz.z9 (by omega)
    have c := hz.zi (by omega)
    have d := hz.zs (by omega) (by omega)
    simp [h1, a.2.2.2.2, b, c, d, e0_size, subsLen]
  · by_cases h2 : p.ty = 2
    · rw [if_neg h1, if_pos h2]
      have a := hz.z3 (by omega)
      have b := hz.z9 (by omega)
      have c := hz.zi (by omega)
      have d := hz.zs (by omega) (by omega)
      simp [h2, a.2.2.2.2, b, c, d, e0_size, subsLen]
    · rw [if_neg h1, if_neg h2]
      unfold otherB
      by_cases h3 : p.ty = 3
      · have d := hz.zs (by omega) (by omega)
        by_cases hi : p.id = 0 <;> simp [h3, hi, d, dataB_len, wordB, subsLen, blen] <;> omega
      · have a := hz.z3 h3
        have hs := subsB_len p.ty p.subs
        by_cases hi : p.id = 0 <;> simp [h1, h2, h3, hi, wordB, blen, hs, a.2.2.2.2, e0_size, e0_bl] <;> omega
theorem encB_len (p : Pk) (hp : PkOk p) (h : 0 ≤ restP p) : (encB p).length = 1 + lenS (restP p).toNat + (restP p).toNat := by
  have h1 := restB_len p hp h
  have h2 : restP p ≤ 268435455 := by unfold restP restOf; split <;> omega
  unfold encB
  rw [List.length_cons, List.length_append, lenB_len _ (by omega)]
  omega
end Go.Proofs.YtkphaihbdmjogaaDoor
