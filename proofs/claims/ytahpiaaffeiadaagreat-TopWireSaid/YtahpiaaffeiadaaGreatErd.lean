/- What message.Encode writes of questions can be read as it was. -/
import Derived.Test.YtahpiaaffeiadaaGreatEmk
namespace Go.Proofs.YtahpiaaffeiadaaGreat
open Go Go.RowKit
theorem getD_app {X : List UInt8} (Y : List UInt8) {i : Nat} (h : i < X.length) : (X ++ Y).getD i 0 = X.getD i 0 := by simp [List.getD, List.getElem?_append_left h]
theorem getD_mid (X Y : List UInt8) (b : UInt8) : (X ++ b :: Y).getD X.length 0 = b := by simp [List.getD]
theorem Rdn.more {s : List UInt8} (Y : List UInt8) {f a bd b : Nat} {n : List (List UInt8)} (h : Rdn s f a bd n b) : Rdn (s ++ Y) f a bd n b := by
  induction h with
  | zero ha h => exact .zero (by rw [List.length_append]; omega) (by rw [getD_app Y ha]; exact h)
  | lab k ha h h1 h2 h3 _ ih =>
    rename_i f' a' bd' b' n' _
    have hd : ∀ x, x ≤ s.length → ((s ++ Y).drop x) = s.drop x ++ Y := fun x hx => by rw [List.drop_append_of_le_length hx]
    have he : (((s ++ Y).drop (a' + 1)).take k) = (s.drop (a' + 1)).take k := by
      rw [hd _ (by omega)]
      exact List.take_append_of_le_length (by rw [List.length_drop]; omega)
    rw [← he]
    exact .lab k (by rw [List.length_append]; omega) (by rw [getD_app Y ha]; exact h) h1 h2 (by rw [List.length_append]; omega) ih
  | ptr to ha h h1 h2 _ ih => exact .ptr to (by rw [List.length_append]; omega) (by rw [getD_app Y (by omega), getD_app Y ha]; exact h) (by rw [getD_app Y (by omega)]; exact h1) h2 ih
theorem Rdn.wide {s : List UInt8} {f a bd b : Nat} {n : List (List UInt8)} (h : Rdn s f a bd n b) {bd' : Nat} (hb : bd ≤ bd') : Rdn s f a bd' n b := by
  induction h with
  | zero ha h => exact .zero ha h
  | lab k ha h h1 h2 h3 _ ih => exact .lab k ha h h1 h2 h3 (ih hb)
  | ptr to ha h h1 h2 hr _ => exact .ptr to ha h h1 (by omega) hr
/-- Labels in front of what can be read. -/
theorem rd_labels : ∀ (n1 : List (List UInt8)) (A Y : List UInt8) (f bd b : Nat) (n2 : List (List UInt8)), labN n1 → Rdn (A ++ octN n1 ++ Y) f (A.length + (octN n1).length) bd n2 b → Rdn (A ++ octN n1 ++ Y) (f + n1.length) A.length bd (n1 ++ n2) b
  | [], A, Y, f, bd, b, n2, _, h => by simpa [octN] using h
  | l :: r, A, Y, f, bd, b, n2, hl, h => by
    have h1 := hl l List.mem_cons_self
    have ho : octN (l :: r) = UInt8.ofNat l.length :: (l ++ octN r) := by simp [octN]
    have hX : A ++ octN (l :: r) ++ Y = (A ++ (UInt8.ofNat l.length :: l)) ++ octN r ++ Y := by rw [ho]; simp
    have hX2 : A ++ octN (l :: r) ++ Y = A ++ UInt8.ofNat l.length :: (l ++ octN r ++ Y) := by rw [ho]; simp
    have hAl : (A ++ (UInt8.ofNat l.length :: l)).length = A.length + 1 + l.length := by simp; omega
    have hol : (octN (l :: r)).length = 1 + l.length + (octN r).length := by rw [ho]; simp; omega
    have ih := rd_labels r (A ++ (UInt8.ofNat l.length :: l)) Y f bd b n2 (fun m hm => hl m (List.mem_cons_of_mem _ hm)) (by
      rw [← hX, hAl]
      rw [hol] at h
      have : A.length + 1 + l.length + (octN r).length = A.length + (1 + l.length + (octN r).length) := by omega
      rw [this]; exact h)
    rw [← hX, hAl] at ih
    have hg : ((A ++ octN (l :: r) ++ Y).getD A.length 0).toNat = l.length := by
      rw [hX2, getD_mid, u8_of]; omega
    have hlen : A.length + 1 + l.length ≤ (A ++ octN (l :: r) ++ Y).length := by rw [List.length_append, List.length_append, hol]; omega
    have hd : ((A ++ octN (l :: r) ++ Y).drop (A.length + 1)).take l.length = l := by
      have e : A ++ octN (l :: r) ++ Y = (A ++ [UInt8.ofNat l.length]) ++ (l ++ (octN r ++ Y)) := by rw [ho]; simp
      rw [e, show A.length + 1 = (A ++ [UInt8.ofNat l.length]).length by simp, List.drop_left, List.take_left]
    have := Rdn.lab (n := r ++ n2) l.length (by omega) hg h1.1 h1.2 hlen ih
    rw [hd] at this
    exact this
theorem oct_inj : ∀ (m n : List (List UInt8)), labN m → labN n → octN m = octN n → m = n
  | [], [], _, _, _ => rfl
  | [], l :: r, _, _, h => by simp [octN] at h
  | l :: r, [], _, _, h => by simp [octN] at h
  | l :: r, k :: t, hm, hn, h => by
    have h1 := hm l List.mem_cons_self
    have h2 := hn k List.mem_cons_self
    have ho : ∀ (a : List UInt8) b, octN (a :: b) = UInt8.ofNat a.length :: (a ++ octN b) := fun a b => by simp [octN]
    rw [ho, ho] at h
    injection h with ha hb
    have hlen : l.length = k.length := by
      have := congrArg UInt8.toNat ha
      rw [u8_of, u8_of] at this; omega
    have hlk : l = k := by
      have := congrArg (List.take l.length) hb
      rw [List.take_left] at this
      rw [hlen, List.take_left] at this
      exact this
    subst hlk
    have hr := oct_inj r t (fun a ha => hm a (List.mem_cons_of_mem _ ha)) (fun a ha => hn a (List.mem_cons_of_mem _ ha)) (List.append_cancel_left hb)
    rw [hr]
/-- What the table tells can be read there. -/
def TabRd (X : List UInt8) (F : List UInt8 → Option Nat) : Prop := ∀ key v, F key = some v → ∃ n f b, octN n = key ∧ labN n ∧ v < X.length ∧ Rdn X f v v n b
theorem TabRd.more {X : List UInt8} {F : List UInt8 → Option Nat} (h : TabRd X F) (Y : List UInt8) : TabRd (X ++ Y) F := fun key v hv => by
  obtain ⟨n, f, b, h1, h2, h3, h4⟩ := h key v hv
  exact ⟨n, f, b, h1, h2, by rw [List.length_append]; omega, h4.more Y⟩
theorem be2 (n : Nat) : beB 2 n = [UInt8.ofNat (n / 256), UInt8.ofNat n] := by simp [beB]
theorem lab_drop {n : List (List UInt8)} (h : labN n) (k : Nat) : labN (n.drop k) := fun l hl => h l (List.mem_of_mem_drop hl)
theorem lab_tk {n : List (List UInt8)} (h : labN n) (k : Nat) : labN (n.take k) := fun l hl => h l (List.mem_of_mem_take hl)
/-- A name that Put writes behind X can be read there, and so can each of its tails that is new. -/
theorem put_rd {X : List UInt8} {F : List UInt8 → Option Nat} (hok : okF F) (hT : TabRd X F) (n : List (List UInt8)) (hl : labN n) (Y : List UInt8) (j : Nat) (hj : j ≤ hitK F n) :
    ∃ f, Rdn (X ++ outK F n ++ Y) f (X.length + (octN (n.take j)).length) X.length (n.drop j) (X.length + (outK F n).length) := by
  have hk := hit_le F n
  have hsp := out_spec hok n
  have hsplit : octN (n.take (hitK F n)) = octN (n.take j) ++ octN ((n.take (hitK F n)).drop j) := by
    conv => lhs; rw [← List.take_append_drop j (n.take (hitK F n))]
    unfold octN
    rw [List.flatMap_append, List.take_take, Nat.min_eq_left hj]
  have hnd : (n.take (hitK F n)).drop j ++ n.drop (hitK F n) = n.drop j := by
    conv => rhs; rw [← List.take_append_drop (hitK F n) n]
    rw [List.drop_append_of_le_length (by rw [List.length_take]; omega)]
  have hlab := lab_drop (lab_tk hl (hitK F n)) j
  rcases hsp with ⟨to, hlt, hF, hto, hout⟩ | ⟨hkn, hout⟩
  · obtain ⟨n', f, b, h1, h2, h3, h4⟩ := hT _ _ hF
    have hn' : n' = n.drop (hitK F n) := oct_inj _ _ h2 (lab_drop hl _) h1
    subst hn'
    have e : X ++ outK F n ++ Y = (X ++ octN (n.take j)) ++ octN ((n.take (hitK F n)).drop j) ++ (beB 2 (49152 + to) ++ Y) := by rw [hout, hsplit]; simp
    have hpl : (X ++ octN (n.take j)).length + (octN ((n.take (hitK F n)).drop j)).length = X.length + (octN (n.take (hitK F n))).length := by rw [List.length_append, hsplit, List.length_append]; omega
    have e2 : X ++ outK F n ++ Y = (X ++ octN (n.take (hitK F n))) ++ UInt8.ofNat ((49152 + to) / 256) :: (UInt8.ofNat (49152 + to) :: Y) := by rw [hout, be2]; simp
    have e3 : X ++ outK F n ++ Y = (X ++ octN (n.take (hitK F n)) ++ [UInt8.ofNat ((49152 + to) / 256)]) ++ UInt8.ofNat (49152 + to) :: Y := by rw [e2]; simp
    have hq : X.length + (octN (n.take (hitK F n))).length = (X ++ octN (n.take (hitK F n))).length := by rw [List.length_append]
    have g0 : (X ++ outK F n ++ Y).getD (X.length + (octN (n.take (hitK F n))).length) 0 = UInt8.ofNat ((49152 + to) / 256) := by rw [e2, hq, getD_mid]
    have g1 : (X ++ outK F n ++ Y).getD (X.length + (octN (n.take (hitK F n))).length + 1) 0 = UInt8.ofNat (49152 + to) := by
      have : X.length + (octN (n.take (hitK F n))).length + 1 = (X ++ octN (n.take (hitK F n)) ++ [UInt8.ofNat ((49152 + to) / 256)]).length := by rw [List.length_append, List.length_append]; rfl
      rw [e3, this, getD_mid]
    have hol : (outK F n).length = (octN (n.take (hitK F n))).length + 2 := by rw [hout, List.length_append, beB_len]
    have hp : Rdn (X ++ outK F n ++ Y) (f + 1) (X.length + (octN (n.take (hitK F n))).length) X.length (n.drop (hitK F n)) (X.length + (octN (n.take (hitK F n))).length + 2) :=
      .ptr to (by rw [List.length_append, List.length_append]; omega) (by rw [g0, g1, u8_of, u8_of]; omega) (by rw [g0, u8_of]; omega) h3 (by rw [List.append_assoc]; exact h4.more _)
    have := rd_labels ((n.take (hitK F n)).drop j) (X ++ octN (n.take j)) (beB 2 (49152 + to) ++ Y) (f + 1) X.length _ _ hlab (by rw [← e, hpl]; exact hp)
    rw [← e, hnd, List.length_append] at this
    rw [hol, ← Nat.add_assoc]
    exact ⟨_, this⟩
  · have hdn : n.drop (hitK F n) = [] := List.drop_of_length_le (by omega)
    have htn : n.take (hitK F n) = n := List.take_of_length_le (by omega)
    rw [htn] at hsplit hlab hnd
    rw [hdn, List.append_nil] at hnd
    have e : X ++ outK F n ++ Y = (X ++ octN (n.take j)) ++ octN (n.drop j) ++ (0 :: Y) := by rw [hout, hsplit]; simp
    have e2 : X ++ outK F n ++ Y = (X ++ octN n) ++ (0 : UInt8) :: Y := by rw [hout]; simp
    have hpl : (X ++ octN (n.take j)).length + (octN (n.drop j)).length = (X ++ octN n).length := by rw [List.length_append, List.length_append, hsplit, List.length_append]; omega
    have hol : (outK F n).length = (octN n).length + 1 := by rw [hout, List.length_append]; rfl
    have hp : Rdn (X ++ outK F n ++ Y) 0 (X ++ octN n).length X.length [] ((X ++ octN n).length + 1) :=
      .zero (by rw [e2, List.length_append]; simp) (by rw [e2, getD_mid]; rfl)
    have := rd_labels (n.drop j) (X ++ octN (n.take j)) (0 :: Y) 0 X.length _ [] hlab (by rw [← e, hpl]; exact hp)
    rw [← e, List.append_nil, List.length_append] at this
    rw [hol]
    have e4 : X.length + ((octN n).length + 1) = (X ++ octN n).length + 1 := by rw [List.length_append]; omega
    rw [e4]; exact ⟨_, this⟩
theorem oct_tk_le (n : List (List UInt8)) {j k : Nat} (h : j ≤ k) : (octN (n.take j)).length ≤ (octN (n.take k)).length := by
  have : n.take j = (n.take k).take j := by rw [List.take_take, Nat.min_eq_left h]
  rw [this]
  exact oct_tl (n.take k) j
theorem out_pos {F : List UInt8 → Option Nat} (hok : okF F) (n : List (List UInt8)) : (octN (n.take (hitK F n))).length < (outK F n).length := by
  rcases out_spec hok n with ⟨to, _, _, _, hout⟩ | ⟨hkn, hout⟩
  · rw [hout, List.length_append, beB_len]; omega
  · rw [hout, List.length_append, List.take_of_length_le (by omega)]; show _ < _ + 1; omega
theorem tab_put {X : List UInt8} {F : List UInt8 → Option Nat} (hok : okF F) (hT : TabRd X F) (n : List (List UInt8)) (hl : labN n) (Y : List UInt8) : ∀ i, i ≤ hitK F n → TabRd (X ++ outK F n ++ Y) (addF' F n X.length i)
  | 0, _ => by rw [List.append_assoc]; exact hT.more _
  | i + 1, hi => by
    have ih := tab_put hok hT n hl Y i (by omega)
    unfold addF'
    by_cases h : X.length + (octN (n.take i)).length < 16384
    · rw [if_pos h]
      intro key v hv
      unfold setF at hv
      by_cases hk : key = octN (n.drop i)
      · rw [if_pos hk] at hv
        cases hv
        obtain ⟨f, hr⟩ := put_rd hok hT n hl Y i (by omega)
        have h1 := oct_tk_le n (show i ≤ hitK F n by omega)
        have h2 := out_pos hok n
        exact ⟨n.drop i, f, _, hk.symm, lab_drop hl i, by rw [List.length_append, List.length_append]; omega, hr.wide (Nat.le_add_right _ _)⟩
      · rw [if_neg hk] at hv
        exact ih key v hv
    · rw [if_neg h]; exact ih
/-- A question that is written, as it is read. -/
def toDQ (q : Qn) : DQ := ⟨q.n, q.kind, q.cls⟩
theorem QsRd.more {s : List UInt8} (Y : List UInt8) : ∀ {qs : List DQ} {a b : Nat}, QsRd s a qs b → QsRd (s ++ Y) a qs b
  | [], _, _, h => h
  | q :: r, a, b, ⟨f, e, h1, h2, h3, h4, h5, h6⟩ => by
    have hd : ∀ x, x + 2 ≤ s.length → (((s ++ Y).drop x).take 2) = (s.drop x).take 2 := fun x hx => by
      rw [List.drop_append_of_le_length (by omega)]
      exact List.take_append_of_le_length (by rw [List.length_drop]; omega)
    exact ⟨f, e, h1.more Y, h2, by rw [List.length_append]; omega, by rw [hd _ (by omega)]; exact h4, by rw [hd _ (by omega)]; exact h5, h6.more Y⟩
theorem QsRd.snoc {s : List UInt8} : ∀ {qs : List DQ} {a b : Nat} {q : DQ} {f e : Nat}, QsRd s a qs b → Rdn s f b b q.n e → szN q.n ≤ 255 → e + 4 ≤ s.length → q.kind = deB ((s.drop e).take 2) → q.cls = deB ((s.drop (e + 2)).take 2) → QsRd s a (qs ++ [q]) (e + 4)
  | [], a, b, q, f, e, h, h1, h2, h3, h4, h5 => by
    have h : a = b := h
    subst h
    exact ⟨f, e, h1, h2, h3, h4, h5, rfl⟩
  | p :: r, a, b, q, f, e, ⟨f', e', g1, g2, g3, g4, g5, g6⟩, h1, h2, h3, h4, h5 => ⟨f', e', g1, g2, g3, g4, g5, QsRd.snoc g6 h1 h2 h3 h4 h5⟩
theorem encT_rd (h : Hd) (qs : List Qn) (hq : ∀ q ∈ qs, QnOk q) : ∀ i, i ≤ qs.length → QsRd (encT h qs i).1 12 ((qs.take i).map toDQ) (encT h qs i).1.length ∧ TabRd (encT h qs i).1 (encT h qs i).2
  | 0, _ => by
    have := hdB_len h [qs.length, 0, 0, 0]
    refine ⟨?_, fun key v hv => by cases hv⟩
    show 12 = (hdB h [qs.length, 0, 0, 0]).length
    rw [this]; rfl
  | i + 1, hi => by
    obtain ⟨q, hqi⟩ : ∃ q, qs[i]? = some q := ⟨_, List.getElem?_eq_getElem (by omega)⟩
    obtain ⟨ih1, ih2⟩ := encT_rd h qs hq i (by omega)
    obtain ⟨g1, g2, g3, g4⟩ := hq q (List.mem_of_getElem? hqi)
    have hok := encT_ok h qs i
    have htk : (qs.take (i + 1)).map toDQ = (qs.take i).map toDQ ++ [toDQ q] := by rw [List.take_add_one, hqi, List.map_append]; rfl
    rw [encT_succ hqi, htk]
    generalize encT h qs i = S at ih1 ih2 hok
    obtain ⟨X, F⟩ := S
    simp only at ih1 ih2 hok
    have hkk := hit_le F q.n
    have ht := tab_put hok ih2 q.n g1 (beB 2 q.kind ++ beB 2 q.cls) (hitK F q.n) (Nat.le_refl _)
    obtain ⟨f, hr⟩ := put_rd hok ih2 q.n g1 (beB 2 q.kind ++ beB 2 q.cls) 0 (Nat.zero_le _)
    have e0 : stepQ (X, F) q = (X ++ outK F q.n ++ (beB 2 q.kind ++ beB 2 q.cls), addF' F q.n X.length (hitK F q.n)) := by unfold stepQ; simp
    rw [e0]
    refine ⟨?_, ht⟩
    have hz0 : (octN (q.n.take 0)).length = 0 := rfl
    rw [hz0, Nat.add_zero, List.drop_zero] at hr
    have hlen : (X ++ outK F q.n ++ (beB 2 q.kind ++ beB 2 q.cls)).length = X.length + (outK F q.n).length + 4 := by rw [List.length_append, List.length_append, List.length_append, beB_len, beB_len]
    have hd1 : ((X ++ outK F q.n ++ (beB 2 q.kind ++ beB 2 q.cls)).drop (X.length + (outK F q.n).length)).take 2 = beB 2 q.kind := by
      rw [show X.length + (outK F q.n).length = (X ++ outK F q.n).length by rw [List.length_append], List.drop_left]
      exact List.take_left' (beB_len 2 q.kind)
    have hd2 : ((X ++ outK F q.n ++ (beB 2 q.kind ++ beB 2 q.cls)).drop (X.length + (outK F q.n).length + 2)).take 2 = beB 2 q.cls := by
      have e1 : X ++ outK F q.n ++ (beB 2 q.kind ++ beB 2 q.cls) = (X ++ outK F q.n ++ beB 2 q.kind) ++ beB 2 q.cls := by simp
      have e2 : X.length + (outK F q.n).length + 2 = (X ++ outK F q.n ++ beB 2 q.kind).length := by rw [List.length_append, List.length_append, beB_len]
      rw [e1, e2, List.drop_left]
      exact List.take_of_length_le (by rw [beB_len]; exact Nat.le_refl _)
    have hk1 : (toDQ q).kind = deB (beB 2 q.kind) := by rw [deB_beB]; show q.kind = q.kind % 65536; omega
    have hk2 : (toDQ q).cls = deB (beB 2 q.cls) := by rw [deB_beB]; show q.cls = q.cls % 65536; omega
    have ih1' := ih1.more (outK F q.n ++ (beB 2 q.kind ++ beB 2 q.cls))
    rw [← List.append_assoc] at ih1'
    show QsRd (X ++ outK F q.n ++ (beB 2 q.kind ++ beB 2 q.cls)) 12 _ (X ++ outK F q.n ++ (beB 2 q.kind ++ beB 2 q.cls)).length
    rw [hlen]
    exact QsRd.snoc (q := toDQ q) ih1' hr g2 (by rw [hlen]; exact Nat.le_refl _) (by rw [hd1]; exact hk1) (by rw [hd2]; exact hk2)
theorem encT_head (h : Hd) (qs : List Qn) : ∀ i, i ≤ qs.length → ∃ Y, (encT h qs i).1 = hdB h [qs.length, 0, 0, 0] ++ Y
  | 0, _ => ⟨[], by rw [List.append_nil]; rfl⟩
  | i + 1, hi => by
    obtain ⟨q, hqi⟩ : ∃ q, qs[i]? = some q := ⟨_, List.getElem?_eq_getElem (by omega)⟩
    obtain ⟨Y, hY⟩ := encT_head h qs i (by omega)
    refine ⟨Y ++ outK (encT h qs i).2 q.n ++ beB 2 q.kind ++ beB 2 q.cls, ?_⟩
    rw [encT_succ hqi]
    unfold stepQ
    simp only [hY, List.append_assoc]
end Go.Proofs.YtahpiaaffeiadaaGreat
