/- What idna.Host accepts is accepted once more, as it is, and as it is read (plain). -/
import Derived.Test.YtahpiaaffeiadaaGreatDoorElu
namespace Go.Proofs.YtahpiaaffeiadaaGreatDoor
open Go Go.RowKit
/-- The bytes of points. -/
def encN (ps : List Nat) : List UInt8 := ps.flatMap encB
theorem encN_cons (c : Nat) (ps : List Nat) : encN (c :: ps) = encB c ++ encN ps := by simp [encN]
def allP (ps : List Nat) : Prop := ∀ c ∈ ps, pointI (c : Int)
theorem encN_pts (ps : List Nat) : encL (ptsN ps) = encN ps := by
  induction ps with
  | nil => rfl
  | cons c ps ih => rw [encN_cons, ← ih]; simp [encL, ptsN]
theorem runes_encN : ∀ (ps : List Nat) (r : List UInt8), allP ps → runesB (encN ps ++ r) = (runesB r).map (ps ++ ·)
  | [], r, _ => by cases h : runesB r <;> simp [encN, h]
  | c :: ps, r, h => by
    rw [encN_cons, List.append_assoc, runes_enc (h c List.mem_cons_self), runes_encN ps r fun x hx => h x (List.mem_cons_of_mem _ hx)]
    cases runesB r <;> simp
def nodotP (ps : List Nat) : Prop := ∀ c ∈ ps, ¬ isDot (c : Int)
theorem splF_enc : ∀ (ps : List Nat) (cur rest : List UInt8) (f : Nat), (encN ps ++ rest).length ≤ f → allP ps → nodotP ps → ∃ g, rest.length ≤ g ∧ splF f cur (encN ps ++ rest) = splF g (cur ++ encN ps) rest
  | [], cur, rest, f, hf, _, _ => ⟨f, by simpa [encN] using hf, by simp [encN]⟩
  | c :: ps, cur, rest, f, hf, hp, hd => by
    have hl := (encB_len c).1
    rw [encN_cons, List.append_assoc] at hf ⊢
    rw [List.length_append] at hf
    obtain ⟨f, rfl⟩ : ∃ g, f = g + 1 := ⟨f - 1, by omega⟩
    obtain ⟨g, h1, h2⟩ := splF_enc ps (cur ++ encB c) rest f (by omega) (fun x hx => hp x (List.mem_cons_of_mem _ hx)) (fun x hx => hd x (List.mem_cons_of_mem _ hx))
    refine ⟨g, h1, ?_⟩
    have hne : encB c ++ (encN ps ++ rest) ≠ [] := fun h => by
      have := congrArg List.length h
      rw [List.length_append] at this
      simp at this; rw [this.1] at hl; simp at hl
    conv => lhs; unfold splF
    rw [if_neg hne, next_enc (hp c List.mem_cons_self)]
    simp only
    rw [if_neg (hd c List.mem_cons_self), List.take_left, List.drop_left, h2, List.append_assoc]
/-- A text whose points are told, none of them a dot. -/
def RunesOk (u : List UInt8) : Prop := ∃ ps, u = encN ps ∧ allP ps ∧ nodotP ps
theorem enc46 : encB 46 = [46] := by decide
theorem pt46 : pointI ((46 : Nat) : Int) := ⟨by decide, by decide, .inl (by decide)⟩
theorem splF_txt : ∀ (us : List (List UInt8)) (f : Nat), us ≠ [] → (∀ u ∈ us, RunesOk u) → (txtN us false).length ≤ f → splF f [] (txtN us false) = us
  | [], _, h, _, _ => absurd rfl h
  | [u], f, _, hu, hf => by
    obtain ⟨ps, rfl, hp, hd⟩ := hu u List.mem_cons_self
    have e : txtN [encN ps] false = encN ps ++ [] := by simp [txtN]
    rw [e] at hf ⊢
    obtain ⟨g, _, h2⟩ := splF_enc ps [] [] f hf hp hd
    rw [h2]
    cases g with
    | zero => rfl
    | succ g => unfold splF; rw [if_pos rfl]; rfl
  | u :: v :: r, f, _, hu, hf => by
    obtain ⟨ps, rfl, hp, hd⟩ := hu u List.mem_cons_self
    have e : txtN (encN ps :: v :: r) false = encN ps ++ (encB 46 ++ txtN (v :: r) false) := by rw [enc46]; rfl
    rw [e] at hf ⊢
    obtain ⟨g, h1, h2⟩ := splF_enc ps [] _ f hf hp hd
    rw [h2]
    have hl := h1
    rw [enc46] at hl
    obtain ⟨g, rfl⟩ : ∃ k, g = k + 1 := ⟨g - 1, by simp at hl; omega⟩
    have hne : encB 46 ++ txtN (v :: r) false ≠ [] := by rw [enc46]; simp
    conv => lhs; unfold splF
    rw [if_neg hne, next_enc pt46]
    simp only
    rw [if_pos (show isDot ((46 : Nat) : Int) from Or.inl rfl), List.drop_left, splF_txt (v :: r) g (by simp) (fun x hx => hu x (List.mem_cons_of_mem _ hx)) (by simp at hl; omega)]
    rfl
theorem runes_txt : ∀ (us : List (List UInt8)), (∀ u ∈ us, RunesOk u) → ∃ ps, runesB (txtN us false) = some ps
  | [], _ => ⟨[], rfl⟩
  | [u], hu => by
    obtain ⟨ps, rfl, hp, hd⟩ := hu u List.mem_cons_self
    have e : txtN [encN ps] false = encN ps ++ [] := by simp [txtN]
    rw [e, runes_encN ps [] hp, runesB_nil]
    exact ⟨_, rfl⟩
  | u :: v :: r, hu => by
    obtain ⟨ps, rfl, hp, hd⟩ := hu u List.mem_cons_self
    obtain ⟨qs, hq⟩ := runes_txt (v :: r) fun x hx => hu x (List.mem_cons_of_mem _ hx)
    have e : txtN (encN ps :: v :: r) false = encN ps ++ (encB 46 ++ txtN (v :: r) false) := by rw [enc46]; rfl
    rw [e, runes_encN ps _ hp, runes_enc pt46, hq]
    exact ⟨_, rfl⟩
/-! ### labels -/
theorem low_idem (b : UInt8) : lowB (lowB b) = lowB b := by
  have h := lowB_nat b
  have hn : ¬ (65 ≤ (lowB b).toNat ∧ (lowB b).toNat ≤ 90) := by
    rw [h]
    split <;> omega
  generalize lowB b = x at hn
  unfold lowB
  rw [if_neg hn]
theorem lowS_idem (s : List UInt8) : lowS (lowS s) = lowS s := by simp [lowS, Function.comp_def, low_idem]
theorem low_plain {b : UInt8} (h : plainI (b.toNat : Int)) : plainI ((lowB b).toNat : Int) := by
  rw [lowB_nat]
  unfold plainI at *
  split <;> omega
theorem low_hyp {b : UInt8} (h : b.toNat ≠ 45) : (lowB b).toNat ≠ 45 := by
  rw [lowB_nat]
  split <;> omega
theorem lowS_getD (s : List UInt8) (i : Nat) : (lowS s).getD i 0 = lowB (s.getD i 0) := by
  unfold lowS
  rw [List.getD_eq_getElem?_getD, List.getD_eq_getElem?_getD, List.getElem?_map]
  cases s[i]? with
  | none => decide
  | some b => rfl
/-- A label that stays as it is. -/
def goodL (x : List UInt8) : Prop := hostL x ∧ lowS x = x
theorem good_of_basic {s : List UInt8} (h : hostL s) : goodL (lowS s) := by
  obtain ⟨h1, h2, h3, h4, h5⟩ := h
  refine ⟨⟨by rw [lowS_length]; exact h1, by rw [lowS_length]; exact h2, by rw [lowS_getD]; exact low_hyp h3, by rw [lowS_length, lowS_getD]; exact low_hyp h4, fun b hb => ?_⟩, lowS_idem s⟩
  obtain ⟨c, hc, rfl⟩ := List.mem_map.1 hb
  exact low_plain (h5 c hc)
theorem plain_lt {b : UInt8} (h : plainI (b.toNat : Int)) : b.toNat < 128 := by unfold plainI at h; omega
theorem good_ascii {x : List UInt8} (h : goodL x) : asciiL x := fun b hb => plain_lt (h.1.2.2.2.2 b hb)
theorem good_toA {x : List UInt8} (h : goodL x) : toA x = (x, 0) := by
  unfold toA
  rw [if_pos (good_ascii h), if_pos h.1, h.2]
theorem nextB_small {l : List UInt8} {c n : Nat} (h : nextB l = some (c, n)) : (c < 128 → n = 1 ∧ l.getD 0 0 = UInt8.ofNat c) ∧ (n = 1 → (l.getD 0 0).toNat = c ∧ c < 128) := by
  unfold nextB at h
  split at h
  · rename_i hh
    obtain ⟨h1, h2, h3, h4, h5, h6⟩ := hh
    cases h
    have hb := byte_lt (l.getD 0 0)
    have key : (shp (l.getD 0 0).toNat).1 = 1 → cpB l = (l.getD 0 0).toNat ∧ (l.getD 0 0).toNat < 128 := fun h => by
      obtain ⟨_, _, a, _⟩ := shp_bd (l.getD 0 0).toNat
      obtain ⟨a1, a2, a3⟩ := a h
      refine ⟨?_, a2⟩
      unfold cpB tailB
      rw [h, a1]
      rfl
    have key2 : (shp (l.getD 0 0).toNat).1 ≠ 1 → 128 ≤ (shp (l.getD 0 0).toNat).2.2 := fun h => by
      unfold shp at h h2 ⊢
      split at h <;> rename_i g1
      · exact absurd rfl h
      · rw [if_neg g1] at h2 ⊢
        split at h <;> rename_i g2
        · rw [if_pos g2] at h2; exact absurd rfl h2
        · rw [if_neg g2] at h2 ⊢
          split at h <;> rename_i g3
          · rw [if_pos g3]; exact Nat.le_refl _
          · rw [if_neg g3] at h2 ⊢
            split at h <;> rename_i g4
            · rw [if_pos g4]; show 128 ≤ 2048; decide
            · rw [if_neg g4] at h2 ⊢
              split at h <;> rename_i g5
              · rw [if_pos g5]; show 128 ≤ 65536; decide
              · rw [if_neg g5] at h2; exact absurd rfl h2
    refine ⟨fun hc => ?_, fun hn => ?_⟩
    · have h1' : (shp (l.getD 0 0).toNat).1 = 1 := by
        rcases Nat.decEq (shp (l.getD 0 0).toNat).1 1 with h | h
        · have := key2 h; omega
        · exact h
      refine ⟨h1', ?_⟩
      rw [(key h1').1]; simp
    · obtain ⟨k1, k2⟩ := key hn
      exact ⟨k1.symm, by omega⟩
  · cases h
theorem runes_bytes : ∀ (f : Nat) {l : List UInt8} {ps : List Nat}, runesF f l = some ps → (∀ c ∈ ps, c < 128 → UInt8.ofNat c ∈ l) ∧ ((∀ c ∈ ps, c < 128) → ∀ b ∈ l, b.toNat < 128)
  | 0, l, ps, h => by
    unfold runesF at h
    split at h
    · rename_i hl; cases h; subst hl; exact ⟨fun c hc => (by cases hc), fun _ b hb => (by cases hb)⟩
    · cases h
  | f + 1, l, ps, h => by
    unfold runesF at h
    split at h
    · rename_i hl; cases h; subst hl; exact ⟨fun c hc => (by cases hc), fun _ b hb => (by cases hb)⟩
    · rename_i hl
      cases hn : nextB l with
      | none => rw [hn] at h; cases h
      | some p =>
        obtain ⟨c, n⟩ := p
        rw [hn] at h
        obtain ⟨n1, n2⟩ := nextB_small hn
        cases hr : runesF f (l.drop n) with
        | none => simp only [hr] at h; cases h
        | some qs =>
          simp only [hr] at h
          cases h
          obtain ⟨i1, i2⟩ := runes_bytes f hr
          have h0 : l.getD 0 0 ∈ l := by
            cases l with
            | nil => exact absurd rfl hl
            | cons b r => exact List.mem_cons_self
          refine ⟨fun x hx hlt => ?_, fun hall b hb => ?_⟩
          · rcases List.mem_cons.1 hx with rfl | hx
            · rw [← (n1 hlt).2]; exact h0
            · exact List.mem_of_mem_drop (i1 x hx hlt)
          · obtain ⟨rfl, hc⟩ := n1 (hall c List.mem_cons_self)
            have := i2 fun x hx => hall x (List.mem_cons_of_mem _ hx)
            cases l with
            | nil => cases hb
            | cons b0 r =>
              rcases List.mem_cons.1 hb with rfl | hb
              · have := (n2 rfl); have e : ((b :: r).getD 0 0).toNat = b.toNat := rfl; omega
              · exact this b hb
theorem low_small {b : UInt8} (h : lowB b = b) : ¬ (65 ≤ b.toNat ∧ b.toNat ≤ 90) := fun hc => by
  have := lowB_nat b
  rw [h, if_pos hc] at this
  omega
theorem last_getD {l : List UInt8} {y : UInt8} (h : l.getLast? = some y) : l.getD (l.length - 1) 0 = y := by
  rw [List.getLast?_eq_getElem?] at h
  rw [List.getD_eq_getElem?_getD, h]; rfl
theorem toA_good {t x : List UInt8} (h : toA t = (x, 0)) : goodL x := by
  unfold toA at h
  split at h
  · split at h
    · rename_i hh; cases h; exact good_of_basic hh
    · cases h
  · rename_i hna
    cases hR : runesB (lowS t) with
    | none => rw [hR] at h; cases h
    | some l =>
      rw [hR] at h
      simp only at h
      split at h
      · rename_i hm
        split at h
        · rename_i h63
          cases h
          obtain ⟨hb1, hb2⟩ := runes_bytes _ hR
          have hpt := (runesB_len hR).2
          have hlow : ∀ b ∈ lowS t, lowB b = b := fun b hb => by
            obtain ⟨c, _, rfl⟩ := List.mem_map.1 hb
            exact low_idem c
          obtain ⟨g1, g2, g3⟩ := encP_good (l := l) (fun c hc => by have := (hpt c hc).2.1; omega) (fun c hc hlt => ⟨by
              have := (hm.1 c hc).1 hlt
              rw [u8_of, Nat.mod_eq_of_lt (by omega)]; exact this, hlow _ (hb1 c hc hlt)⟩)
          have hbig : ∃ c ∈ l, 128 ≤ c := by
            rcases Classical.em (∃ c ∈ l, 128 ≤ c) with h | h
            · exact h
            · exfalso
              refine hna fun b hb => ?_
              have := hb2 (fun c hc => by rcases Nat.lt_or_ge c 128 with h1 | h1; · exact h1
                                          · exact absurd ⟨c, hc, h1⟩ h) (lowB b) (List.mem_map_of_mem hb)
              rw [lowB_nat] at this
              split at this <;> omega
          obtain ⟨y, hy, hy45⟩ := g3 hbig
          have hxn : ∀ b ∈ xnB, goodB b := by
            intro b hb
            unfold xnB at hb
            simp only [List.mem_cons, List.not_mem_nil, or_false] at hb
            rcases hb with rfl | rfl | rfl | rfl
            · exact ⟨by unfold plainI; decide, by decide⟩
            · exact ⟨by unfold plainI; decide, by decide⟩
            · exact ⟨by unfold plainI; decide, by decide⟩
            · exact ⟨by unfold plainI; decide, by decide⟩
          have hall : ∀ b ∈ xnB ++ encP l, goodB b := fun b hb => by
            rcases List.mem_append.1 hb with h | h
            · exact hxn b h
            · exact g1 b h
          have hlast : (xnB ++ encP l).getLast? = some y := by rw [List.getLast?_append, hy]; rfl
          refine ⟨⟨by rw [List.length_append]; show 1 ≤ 4 + _; omega, h63, by show (120 : UInt8).toNat ≠ 45; decide, ?_, fun b hb => (hall b hb).1⟩, ?_⟩
          · rw [last_getD hlast]
            exact fun e => hy45 (UInt8.toNat.inj (by rw [e]; rfl))
          · unfold lowS
            conv => rhs; rw [← List.map_id (xnB ++ encP l)]
            exact List.map_congr_left fun b hb => (hall b hb).2
        · cases h
      · cases h
/-! ### points and small letters -/
def lowC (c : Nat) : Nat := if 65 ≤ c ∧ c ≤ 90 then c + 32 else c
theorem encB_big {c : Nat} (h : 128 ≤ c) (h2 : c < 2097152) : ∀ b ∈ encB c, 128 ≤ b.toNat := by
  intro b hb
  unfold encB at hb
  rw [if_neg (by omega)] at hb
  split at hb
  · simp only [List.mem_cons, List.not_mem_nil, or_false] at hb
    rcases hb with rfl | rfl <;> rw [u8_of] <;> omega
  · split at hb
    · simp only [List.mem_cons, List.not_mem_nil, or_false] at hb
      rcases hb with rfl | rfl | rfl <;> rw [u8_of] <;> omega
    · simp only [List.mem_cons, List.not_mem_nil, or_false] at hb
      rcases hb with rfl | rfl | rfl | rfl <;> rw [u8_of] <;> omega
theorem encB_small {c : Nat} (h : c < 128) : encB c = [UInt8.ofNat c] := by unfold encB; rw [if_pos h]
theorem low_big {b : UInt8} (h : 128 ≤ b.toNat) : lowB b = b := by unfold lowB; rw [if_neg (by omega)]
theorem low_encB {c : Nat} (hp : pointI (c : Int)) : lowS (encB c) = encB (lowC c) := by
  obtain ⟨_, h2, _⟩ := hp
  by_cases h : c < 128
  · have hl : lowC c < 128 := by unfold lowC; split <;> omega
    rw [encB_small h, encB_small hl]
    show [lowB (UInt8.ofNat c)] = _
    congr 1
    refine UInt8.toNat.inj ?_
    rw [lowB_nat, u8_of, u8_of, Nat.mod_eq_of_lt (by omega), Nat.mod_eq_of_lt (by omega)]
    rfl
  · have hl : lowC c = c := by unfold lowC; rw [if_neg (by omega)]
    rw [hl]
    unfold lowS
    conv => rhs; rw [← List.map_id (encB c)]
    exact List.map_congr_left fun b hb => low_big (encB_big (by omega) (by omega) b hb)
theorem low_encN : ∀ (ps : List Nat), allP ps → lowS (encN ps) = encN (ps.map lowC)
  | [], _ => rfl
  | c :: ps, h => by
    rw [encN_cons, List.map_cons, encN_cons, ← low_encB (h c List.mem_cons_self), ← low_encN ps fun x hx => h x (List.mem_cons_of_mem _ hx)]
    simp [lowS]
theorem lowC_pt {c : Nat} (h : pointI (c : Int)) : pointI ((lowC c : Nat) : Int) := by
  unfold lowC pointI at *
  split <;> omega
theorem mem_encN {ps : List Nat} {c : Nat} (hc : c ∈ ps) {b : UInt8} (hb : b ∈ encB c) : b ∈ encN ps := List.mem_flatMap.2 ⟨c, hc, hb⟩
/-- A text that ToASCII takes has no dot among its points. -/
theorem nodot_toA {ps : List Nat} {x : List UInt8} (hp : allP ps) (h : toA (encN ps) = (x, 0)) : nodotP ps := by
  intro c hc hd
  have hpt := hp c hc
  obtain ⟨_, hle, _⟩ := hpt
  unfold toA at h
  split at h
  · rename_i hasc
    split at h
    · rename_i hh
      have hc128 : c < 128 := by
        rcases Nat.lt_or_ge c 128 with h1 | h1
        · exact h1
        · exfalso
          have h2 := encB_len c
          obtain ⟨b, r, e⟩ : ∃ b r, encB c = b :: r := by
            cases he : encB c with
            | nil => rw [he] at h2; simp at h2
            | cons b r => exact ⟨b, r, rfl⟩
          have hb : b ∈ encB c := by rw [e]; exact List.mem_cons_self
          have := encB_big h1 (by omega) b hb
          have := hasc b (mem_encN hc hb)
          omega
      have hb : UInt8.ofNat c ∈ encN ps := mem_encN hc (by rw [encB_small hc128]; exact List.mem_cons_self)
      have := hh.2.2.2.2 _ hb
      rw [u8_of, Nat.mod_eq_of_lt (by omega)] at this
      unfold plainI at this
      unfold isDot at hd
      omega
    · cases h
  · have hlow := low_encN ps hp
    have hr := runes_encN (ps.map lowC) [] (fun x hx => by obtain ⟨y, hy, rfl⟩ := List.mem_map.1 hx; exact lowC_pt (hp y hy))
    rw [List.append_nil, runesB_nil] at hr
    rw [hlow, hr] at h
    simp only [Option.map_some, List.append_nil] at h
    split at h
    · rename_i hm
      obtain ⟨m1, m2⟩ := hm.1 (lowC c) (List.mem_map_of_mem hc)
      unfold isDot at hd
      have hl : lowC c = c := by unfold lowC; rw [if_neg (by omega)]
      rw [hl] at m1 m2
      unfold dotI at m2
      rcases hd with hd | hd | hd | hd
      · have := m1 (by omega)
        unfold plainI at this
        omega
      · exact m2 (.inl (by omega))
      · exact m2 (.inr (.inl (by omega)))
      · exact m2 (.inr (.inr (by omega)))
    · cases h
theorem good_runes {x : List UInt8} (h : goodL x) : RunesOk x := by
  have hp : ∀ b ∈ x, plainI (b.toNat : Int) := h.1.2.2.2.2
  refine ⟨x.map UInt8.toNat, ?_, fun c hc => ?_, fun c hc hd => ?_⟩
  · clear h
    induction x with
    | nil => rfl
    | cons b r ih =>
      rw [List.map_cons, encN_cons, ← ih fun c hc => hp c (List.mem_cons_of_mem _ hc), encB_small (plain_lt (hp b List.mem_cons_self))]
      simp
  · obtain ⟨b, hb, rfl⟩ := List.mem_map.1 hc
    have := hp b hb
    unfold plainI at this
    unfold pointI
    omega
  · obtain ⟨b, hb, rfl⟩ := List.mem_map.1 hc
    have := hp b hb
    unfold plainI at this
    unfold isDot at hd
    omega
/-- What a good label may be read as. -/
theorem read_good {t u : List UInt8} (ht : goodL t) (h : readA t u) : RunesOk u ∧ toA u = (t, 0) ∧ u ≠ [] := by
  have hne : u = [] → toA u ≠ (t, 0) := fun e => by
    subst e
    have h1 := ht.1.1
    intro hh
    have : toA [] = ([], 7) := by
      unfold toA
      rw [if_pos (show asciiL [] from fun b hb => (by cases hb)), if_neg (show ¬ hostL [] from fun h => absurd h.1 (Nat.not_succ_le_zero 0))]
    rw [this] at hh
    cases hh
  rcases h with rfl | ⟨ps, hp, _, rfl, ha⟩
  · exact ⟨good_runes ht, good_toA ht, fun e => hne e (good_toA ht)⟩
  · rw [ht.2] at ha
    have hpt : allP ps := fun c hc => hp (c : Int) (List.mem_map.2 ⟨c, hc, rfl⟩)
    rw [encN_pts] at ha hne ⊢
    exact ⟨⟨ps, rfl, hpt, nodot_toA hpt ha⟩, ha, fun e => hne e ha⟩
/-! ### names -/
def goodN (n : List (List UInt8)) : Prop := ∀ l ∈ n, goodL l
theorem asciiN_good : ∀ (l : List (List UInt8)), (asciiN l).2 = 0 → goodN (asciiN l).1 ∧ (asciiN l).1.length = l.length
  | [], _ => ⟨fun x hx => (by cases hx), rfl⟩
  | t :: r, h => by
    rw [asciiN_cons] at h ⊢
    split at h
    · cases h
    · rename_i h1
      rw [if_neg h1]
      split at h
      · rename_i h2; exact absurd h h2
      · rename_i h2
        rw [if_neg h2]
        have h2 : (toA t).2 = 0 := Classical.not_not.1 h2
        obtain ⟨i1, i2⟩ := asciiN_good r h
        refine ⟨fun x hx => ?_, by simp [i2]⟩
        rcases List.mem_cons.1 hx with rfl | hx
        · exact toA_good (t := t) (by rw [← h2])
        · exact i1 x hx
theorem trim_ne (l : List (List UInt8)) (h : 1 ≤ l.length) : 1 ≤ (trimN l).1.length := by
  unfold trimN
  split
  · rename_i h1; simp; omega
  · exact h
/-- What Host accepts. -/
theorem host_said {s a : List UInt8} (h : hostR s = (a, 0)) : ∃ n d, a = txtN n d ∧ n ≠ [] ∧ goodN n ∧ szN n ≤ 255 := by
  unfold hostR at h
  cases hR : runesB s with
  | none => rw [hR] at h; cases h
  | some ps =>
    rw [hR] at h
    simp only at h
    split at h
    · rename_i h1; injection h with _ h2; exact absurd h2 h1
    · rename_i h1
      split at h
      · cases h
      · rename_i h2
        injection h with h3 _
        obtain ⟨g1, g2⟩ := asciiN_good _ (Classical.not_not.1 h1)
        refine ⟨_, _, h3.symm, fun e => ?_, g1, by omega⟩
        have := trim_ne _ (splB_len s).1
        rw [e] at g2
        simp at g2
        omega
/-- Texts that are read as the labels of n. -/
def readsAs : List (List UInt8) → List (List UInt8) → Prop
  | [], [] => True
  | t :: ts, u :: us => (RunesOk u ∧ toA u = (t, 0) ∧ u ≠ []) ∧ readsAs ts us
  | _, _ => False
theorem readsAs_len : ∀ (n us : List (List UInt8)), readsAs n us → us.length = n.length
  | [], [], _ => rfl
  | t :: ts, u :: us, h => by simp [readsAs_len ts us h.2]
  | [], _ :: _, h => h.elim
  | _ :: _, [], h => h.elim
theorem readsAs_mem : ∀ (n us : List (List UInt8)), readsAs n us → ∀ u ∈ us, RunesOk u ∧ u ≠ []
  | [], [], _, u, hu => by cases hu
  | t :: ts, v :: us, h, u, hu => by
    rcases List.mem_cons.1 hu with rfl | hu
    · exact ⟨h.1.1, h.1.2.2⟩
    · exact readsAs_mem ts us h.2 u hu
  | [], _ :: _, h, _, _ => h.elim
  | _ :: _, [], h, _, _ => h.elim
theorem readsAs_ascii : ∀ (n us : List (List UInt8)), readsAs n us → asciiN us = (n, 0)
  | [], [], _ => rfl
  | t :: ts, u :: us, h => by
    rw [asciiN_cons, if_neg h.1.2.2, h.1.2.1, readsAs_ascii ts us h.2]
    rw [if_neg (by simp)]
  | [], _ :: _, h => h.elim
  | _ :: _, [], h => h.elim
theorem runesOk_nil : RunesOk [] := ⟨[], rfl, fun c hc => (by cases hc), fun c hc => (by cases hc)⟩
theorem trim_pcs (us : List (List UInt8)) (d : Bool) (h0 : us ≠ []) (hne : ∀ u ∈ us, u ≠ []) : trimN (pcs us d) = (us, d) := by
  have hl : 0 < us.length := List.length_pos_iff.2 h0
  cases d
  · have e : pcs us false = us := by simp [pcs]
    rw [e]
    unfold trimN
    rw [if_neg]
    rintro ⟨h1, h2⟩
    have h3 : us.length - 1 < us.length := by omega
    have h4 : us.getD (us.length - 1) [] ∈ us := by
      rw [List.getD_eq_getElem?_getD, List.getElem?_eq_getElem h3]
      exact List.getElem_mem h3
    exact hne _ h4 h2
  · have e : pcs us true = us ++ [[]] := by simp [pcs]
    rw [e]
    unfold trimN
    have hlen : (us ++ [([] : List UInt8)]).length = us.length + 1 := by simp
    rw [if_pos ⟨by omega, by rw [hlen, Nat.add_sub_cancel, List.getD_eq_getElem?_getD, List.getElem?_append_right (Nat.le_refl _)]; simp⟩, hlen, Nat.add_sub_cancel, List.take_left]
theorem host_reads {n us : List (List UInt8)} {d : Bool} (h0 : n ≠ []) (h : readsAs n us) (hz : szN n ≤ 255) : hostR (txtN (pcs us d) false) = (txtN n d, 0) := by
  have hlen := readsAs_len n us h
  have hus : us ≠ [] := fun e => by rw [e] at hlen; exact h0 (List.eq_nil_of_length_eq_zero hlen.symm)
  have hm := readsAs_mem n us h
  have hall : ∀ u ∈ pcs us d, RunesOk u := fun u hu => by
    unfold pcs at hu
    rcases List.mem_append.1 hu with h1 | h1
    · exact (hm u h1).1
    · cases d
      · cases h1
      · rw [if_pos rfl, List.mem_singleton] at h1; rw [h1]; exact runesOk_nil
  obtain ⟨ps, hr⟩ := runes_txt _ hall
  have hs : splB (txtN (pcs us d) false) = pcs us d := splF_txt _ _ (by unfold pcs; simp [hus]) hall (Nat.le_refl _)
  unfold hostR
  rw [hr, hs, trim_pcs us d hus fun u hu => (hm u hu).2, readsAs_ascii n us h]
  simp only
  rw [if_neg (by simp), if_neg (by omega)]
theorem pcs_txt : ∀ (n : List (List UInt8)) (d : Bool), n ≠ [] → txtN (pcs n d) false = txtN n d
  | [], _, h => absurd rfl h
  | [l], d, _ => by cases d <;> simp [pcs, txtN]
  | l :: m :: r, d, _ => by
    have h := pcs_txt (m :: r) d (by simp)
    have e : pcs (l :: m :: r) d = l :: pcs (m :: r) d := by simp [pcs]
    obtain ⟨x, y, e2⟩ : ∃ x y, pcs (m :: r) d = x :: y := ⟨m, _, rfl⟩
    rw [e, txtN, ← h, e2, txtN]
theorem reads_self : ∀ (n : List (List UInt8)), goodN n → readsAs n n
  | [], _ => trivial
  | t :: ts, h => ⟨⟨good_runes (h t List.mem_cons_self), good_toA (h t List.mem_cons_self), fun e => by have := (h t List.mem_cons_self).1.1; rw [e] at this; simp at this⟩, reads_self ts fun x hx => h x (List.mem_cons_of_mem _ hx)⟩
theorem readA_nil {u : List UInt8} (h : readA [] u) : u = [] := by
  rcases h with rfl | ⟨ps, hp, _, rfl, ha⟩
  · rfl
  · exfalso
    have := (toA_good ha).1.1
    simp [lowS] at this
theorem readN_pcs : ∀ (n : List (List UInt8)) (d : Bool) (us : List (List UInt8)), goodN n → readN (pcs n d) us → ∃ vs, us = pcs vs d ∧ readsAs n vs
  | [], d, us, _, h => by
    cases d
    · cases h; exact ⟨[], rfl, trivial⟩
    · obtain ⟨u, r, rfl, hu, hr⟩ := h
      cases hr
      rw [readA_nil hu]
      exact ⟨[], rfl, trivial⟩
  | t :: ts, d, us, hg, h => by
    obtain ⟨u, r, rfl, hu, hr⟩ := h
    obtain ⟨vs, rfl, hv⟩ := readN_pcs ts d r (fun x hx => hg x (List.mem_cons_of_mem _ hx)) hr
    exact ⟨u :: vs, rfl, read_good (hg t List.mem_cons_self) hu, hv⟩
/-- It is accepted once more, as it is .. -/
theorem host_again {n : List (List UInt8)} {d : Bool} (h0 : n ≠ []) (hg : goodN n) (hz : szN n ≤ 255) : hostR (txtN n d) = (txtN n d, 0) := by
  have := host_reads (d := d) h0 (reads_self n hg) hz
  rwa [pcs_txt n d h0] at this
/-- .. and as it is read. -/
theorem host_read {n us : List (List UInt8)} {d : Bool} (h0 : n ≠ []) (hg : goodN n) (hz : szN n ≤ 255) (h : readN (pcs n d) us) : hostR (txtN us false) = (txtN n d, 0) := by
  obtain ⟨vs, rfl, hv⟩ := readN_pcs n d us hg h
  exact host_reads h0 hv hz
end Go.Proofs.YtahpiaaffeiadaaGreatDoor
