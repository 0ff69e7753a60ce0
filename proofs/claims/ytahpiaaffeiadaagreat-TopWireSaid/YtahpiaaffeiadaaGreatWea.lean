/- Rules and helpers: shifts, bits of natural numbers, bytes, texts as cells. -/
import Derived.Test.YtahpiaaffeiadaaGreatWko
import Derived.Test.YtahpiaaffeiadaaGreatWky
import Derived.Test.YtahpiaaffeiadaaGreatWkc
import Derived.Test.YtahpiaaffeiadaaGreatWkt
import Derived.Lib.IndexLaws
import Derived.Laws.MakeOwn
namespace Go.Proofs.YtahpiaaffeiadaaGreat
open Go Go.RowKit
section
variable {P : Program} {n : Fm} {fr : Fr} {w : World} {x y : Operand} {U U' T : TypeId}
theorem Yd.shr {k q : IntKind} {i j : Int} {s : Nat} (hb : s ≤ k.bits) (hx : Fr.ev fr x = some (.int k i)) (hy : Fr.ev fr y = some (.int q j)) (hj : j = (s : Int)) : Yd P n (.binOp .shr U x y U') T fr w (.int k (i / 2 ^ s)) w := by
  subst hj
  have hp : (0 : Int) ≤ 2 ^ s := Int.le_of_lt (Int.pow_pos (by decide))
  have hn : ¬ ((s : Int) < 0) := by omega
  exact .bin hx hy eqGuard_int (by
    simp [binOp, Op.shift, hn, Nat.min_eq_left hb, Int.fdiv_eq_ediv_of_nonneg _ hp])
theorem Yd.shl {k q : IntKind} {i j : Int} {s : Nat} (hb : s ≤ k.bits) (hx : Fr.ev fr x = some (.int k i)) (hy : Fr.ev fr y = some (.int q j)) (hj : j = (s : Int)) (hw : k.wrap (i * 2 ^ s) = i * 2 ^ s) : Yd P n (.binOp .shl U x y U') T fr w (.int k (i * 2 ^ s)) w := by
  subst hj
  have hn : ¬ ((s : Int) < 0) := by omega
  exact .bin hx hy eqGuard_int (by
    simp [binOp, Op.shift, hn, Nat.min_eq_left hb, hw])
theorem Yd.mulI {i j : Int} (hx : Fr.ev fr x = some (.int .i64 i)) (hy : Fr.ev fr y = some (.int .i64 j)) (h : -9223372036854775808 ≤ i * j ∧ i * j ≤ 9223372036854775807) : Yd P n (.binOp .mul U x y U') T fr w (.int .i64 (i * j)) w := by
  have := Yd.mul (P := P) (n := n) (w := w) (T := T) (U := U) (U' := U') hx hy
  rwa [IntWalk.i64_in _ h] at this
theorem Yd.quoP {i j : Int} (hx : Fr.ev fr x = some (.int .i64 i)) (hy : Fr.ev fr y = some (.int .i64 j)) (h0 : 0 ≤ i) (hj : 0 < j) (h1 : i ≤ 9223372036854775807) : Yd P n (.binOp .quo U x y U') T fr w (.int .i64 (i / j)) w := by
  have := Yd.quo (P := P) (n := n) (w := w) (T := T) (U := U) (U' := U') hx hy (by omega)
  rw [Int.tdiv_eq_ediv_of_nonneg h0] at this
  have hb : 0 ≤ i / j := Int.ediv_nonneg h0 (Int.le_of_lt hj)
  have hb2 : i / j ≤ i := Int.ediv_le_self _ h0
  rwa [IntWalk.i64_in _ ⟨by omega, by omega⟩] at this
theorem Yd.max2I {P : Program} [Tys P] {n : Fm} {fr : Fr} {w : World} {T : TypeId} {x y : Operand} {U U' : TypeId} {k k' : IntKind} {i j : Int} (hx : Fr.ev fr x = some (.int k i)) (hy : Fr.ev fr y = some (.int k' j)) : Yd P n (.call ⟨.builtin .max, #[x, y], #[U, U']⟩) T fr w (.int k (if i < j then j else i)) w :=
  .val fun a ha d pos aft g => by
    simp [execOp, resolve, invoke, builtin, ha.ev hx, ha.ev hy, Builtin.max_, Builtin.max2]
end
/-- An element of an array that is a value. -/
theorem Yd.indexV {P : Program} [Tys P] {n : Fm} {fr : Fr} {w : World} {x y : Operand} {U T : TypeId} {len e k : Nat} {q : IntKind} {i : Int} {cs : List Value} {v : Value} (hU : arOf P U = some (len, e, 1)) (hA : aggOf P e = some false) (hx : Fr.ev fr x = some (.agg cs.toArray)) (hy : Fr.ev fr y = some (.int q i)) (hk : NatOf i k) (h1 : k < len) (hv : cs[k]? = some v) :
    Yd P n (.index U x y) T fr w v w := .val fun a ha _ _ _ _ => by
  obtain ⟨h2, h3⟩ := und_ar hU
  unfold NatOf at hk
  subst hk
  simp [execOp, Instr.index, asIntOf, ha.ev hx, ha.ev hy, run_underlying h2, h3, h1, part, run_isAgg hA, hv]
theorem Seg.makeOwn {P : Program} [Tys P] {n : Fm} {ops : Array Oper} {Q : Exit → Act → World → Prop} {fr : Fr} {w : World} {T : TypeId} {d : Nat} {U e s by' m : Nat} {x y : Operand} {k1 k2 : IntKind} {pos : String} {aft : Array Edge} {g : Option (Nat × Bool)} {rest : List Oper} {z : Value}
    (hg : gd ops fr g = some true) (hd : Nat.blt d n.n = true) (hf : slOf P U = some (e, s + 1)) (hz : zerOf P e = some z) (hby : byOf P e = some by') (hsz : szOf P e = some (s + 1))
    (hx : Fr.ev fr x = some (.int k1 0)) (hy : Fr.ev fr y = some (.int k2 (m : Nat))) (hm : m ≤ 1000000 ∧ by' ≤ 1000000)
    (k : ∀ w1 b, w1.ownsRow w.heap.size e (s + 1) (.slice (some ⟨b, 0, none⟩) 0 m) 0 [] → Ext w w1 → b = w.heap.size → Seg P n ops Q rest ((d, .slice (some ⟨b, 0, none⟩) 0 m) :: fr) w1) :
    Seg P n ops Q (⟨some d, .makeSlice U x y, T, pos, aft, g⟩ :: rest) fr w := by
  obtain ⟨i, h1, h2, h3, h4⟩ := info_all hby hsz hz
  have hb : i.bytes * m ≤ 281474976710656 := by
    have h5 : i.bytes * m ≤ 1000000 * 1000000 := Nat.mul_le_mul (by omega) hm.1
    omega
  obtain ⟨w1, hr, ho, hgr⟩ := run_make_own (P := P) (w := w) w.heap.size U e i z (s + 1) (und_sl hf).1 h1 h4 h3 k1 k2 m hb (by unfold maxLen; omega) (Nat.le_refl _)
  have hE : Ext w w1 := Below.grown (Ext.refl w) hgr (Nat.le_refl _) (fun k hk => by cases hk)
  refine Seg.step (v := .slice (some ⟨w.heap.size, 0, none⟩) 0 m) (w' := w1) hg hd (.val fun a ha d pos aft g => ?_) (k _ _ ho hE rfl)
  simp only [execOp, ha.ev hx, ha.ev hy]
  rw [Sem.run_bind, hr]
  rfl
theorem own_cap {w : World} {base e k m : Nat} {v : Value} {cs : List Value} (h : w.ownsRow base e k v m cs) : ∀ a m' c, v = .slice a m' c → m' ≤ c := fun a m' c hv => by
  rcases h.2 with ⟨rfl, rfl⟩ | ⟨g, cap, cur, rfl, _, _, hn, _⟩
  · cases hv; exact Nat.le_refl _
  · cases hv; exact hn
theorem bitsOr_nat {k : IntKind} {a b : Nat} (ha : a < 2 ^ k.bits) (hb : b < 2 ^ k.bits) : bitsOr k a b = k.wrap ((a ||| b : Nat) : Int) := by
  unfold bitsOr
  rw [BitVec.ofInt_natCast, BitVec.ofInt_natCast, BitVec.toNat_or, BitVec.toNat_ofNat, BitVec.toNat_ofNat, Nat.mod_eq_of_lt ha, Nat.mod_eq_of_lt hb]
theorem bitsAnd_nat {k : IntKind} {a b : Nat} (ha : a < 2 ^ k.bits) (hb : b < 2 ^ k.bits) : bitsAnd k a b = k.wrap ((a &&& b : Nat) : Int) := by
  unfold bitsAnd
  rw [BitVec.ofInt_natCast, BitVec.ofInt_natCast, BitVec.toNat_and, BitVec.toNat_ofNat, BitVec.toNat_ofNat, Nat.mod_eq_of_lt ha, Nat.mod_eq_of_lt hb]
theorem or_low {a b m : Nat} (h : b < 2 ^ m) : a * 2 ^ m ||| b = a * 2 ^ m + b := by
  rw [Nat.mul_comm, Nat.two_pow_add_eq_or_of_lt h]
theorem u8_ne {a b : UInt8} : ((a.toNat : Int) = b.toNat) ↔ a = b := by
  constructor
  · intro h; exact UInt8.toNat_inj.1 (by omega)
  · rintro rfl; rfl
theorem u8_id {i : Int} (h : 0 ≤ i) (h' : i < 256) : IntKind.u8.wrap i = i := IntWalk.u8_in i ⟨h, by omega⟩
theorem byte_lt (b : UInt8) : b.toNat < 256 := b.toNat_lt
theorem u8_of (n : Nat) : (UInt8.ofNat n).toNat = n % 256 := by simp
theorem u8_wrapN (n : Nat) : IntKind.u8.wrap (n : Int) = ((UInt8.ofNat n).toNat : Int) := by
  rw [IntKind.wrap_u8, u8_of]; omega
/-- Texts as cells. -/
def strV (xs : List (List UInt8)) : List Value := xs.map fun l => .string ⟨l.toArray⟩
theorem strV_get {xs : List (List UInt8)} {i : Nat} (h : i < xs.length) : (strV xs)[i]? = some (.string ⟨(xs.getD i []).toArray⟩) := by simp [strV, h, List.getD]
theorem strV_at {xs : List (List UInt8)} {i : Nat} {l : List UInt8} (h : xs[i]? = some l) : (strV xs)[i]? = some (.string ⟨l.toArray⟩) := by simp [strV, h]
theorem strV_length (xs : List (List UInt8)) : (strV xs).length = xs.length := by simp [strV]
theorem strV_append (xs ys : List (List UInt8)) : strV (xs ++ ys) = strV xs ++ strV ys := by simp [strV]
theorem strV_one (xs : List (List UInt8)) : ∀ c ∈ strV xs, c.oneCell' = true := by
  intro c hc
  obtain ⟨x, _, rfl⟩ := List.mem_map.1 hc
  rfl
abbrev NameAt (w : World) (v : Value) (xs : List (List UInt8)) : Prop := Sl w 1 v xs.length (strV xs)
theorem take_get {l : List UInt8} {i : Nat} (h : i < l.length) : l.take (i + 1) = l.take i ++ [l.getD i 0] := by
  rw [List.take_add_one, List.getElem?_eq_getElem h]
  simp [List.getD, h]
theorem bytesV_length (l : List UInt8) : (bytesV l).length = l.length := by simp [bytesV]
theorem bytesV_append (l m : List UInt8) : bytesV (l ++ m) = bytesV l ++ bytesV m := by simp [bytesV]
theorem bytesV_one (l : List UInt8) : ∀ c ∈ bytesV l, c.oneCell' = true := by
  intro c hc
  obtain ⟨x, _, rfl⟩ := List.mem_map.1 hc
  rfl
theorem bytesV_at {l : List UInt8} {i : Nat} {b : UInt8} (h : l[i]? = some b) : (bytesV l)[i]? = some (.int .u8 b.toNat) := by simp [bytesV, h]
theorem getD_at {l : List UInt8} {i : Nat} (h : i < l.length) : l[i]? = some (l.getD i 0) := by simp [List.getD, h]
end Go.Proofs.YtahpiaaffeiadaaGreat
