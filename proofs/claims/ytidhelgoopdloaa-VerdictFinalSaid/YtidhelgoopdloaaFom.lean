/- chain.Follow's answer: what it holds; what another record changes. No program. -/
import Derived.Test.YtidhelgoopdloaaFow
namespace Go.Proofs.Ytidhelgoopdloaa
open Go Go.RowKit
section
variable {qt qc : Int} {rs : List Rec} {n : Name} {c : Bool} {t : Int}
/-- The first link. -/
def lk (qt qc : Int) (n : Name) (rs : List Rec) : Option Rec := rs.find? (fun r => decide (Links qt qc n r))
theorem find_snoc {α : Type} (p : α → Bool) (l : List α) (a : α) : (l ++ [a]).find? p = (l.find? p).or (if p a then some a else none) := by
  rw [List.find?_append]
  congr 1
  by_cases h : p a <;> simp [h]
theorem link_find (qt qc : Int) (n : Name) (rs : List Rec) : ∀ i, i ≤ rs.length →
    (linkTo qt qc n rs i < 0 ∧ (rs.take i).find? (fun r => decide (Links qt qc n r)) = none) ∨ (∃ j r, linkTo qt qc n rs i = (j : Nat) ∧ j < i ∧ rs[j]? = some r ∧ (rs.take i).find? (fun r => decide (Links qt qc n r)) = some r)
  | 0, _ => by simp [linkTo]
  | i + 1, h => by
    obtain ⟨r, hr⟩ : ∃ r, rs[i]? = some r := ⟨_, List.getElem?_eq_getElem (by omega)⟩
    have ht : rs.take (i + 1) = rs.take i ++ [r] := by
      obtain ⟨h1, h2⟩ := List.getElem?_eq_some_iff.1 hr
      rw [List.take_succ_eq_append_getElem h1, h2]
    rw [linkTo, hr, ht, find_snoc]
    simp only
    rcases link_find qt qc n rs i (by omega) with ⟨h1, h2⟩ | ⟨j, r', h1, h2, h3, h4⟩
    · rw [h2]
      by_cases hL : Links qt qc n r
      · rw [if_pos ⟨hL, h1⟩]
        exact .inr ⟨i, r, rfl, by omega, hr, by simp [hL]⟩
      · rw [if_neg (fun e => hL e.1)]
        exact .inl ⟨h1, by simp [hL]⟩
    · rw [h4, if_neg (fun e => by have := e.2; omega)]
      exact .inr ⟨j, r', h1, by omega, h3, by simp⟩
theorem lk_none (h : linkTo qt qc n rs rs.length < 0) : lk qt qc n rs = none := by
  rcases link_find qt qc n rs rs.length (Nat.le_refl _) with ⟨_, h2⟩ | ⟨j, r', h1, _⟩
  · rwa [List.take_length] at h2
  · omega
theorem lk_some (h : ¬ linkTo qt qc n rs rs.length < 0) : ∃ r, lk qt qc n rs = some r ∧ rs[(linkTo qt qc n rs rs.length).toNat]? = some r := by
  rcases link_find qt qc n rs rs.length (Nat.le_refl _) with ⟨h1, _⟩ | ⟨j, r', h1, _, h3, h4⟩
  · exact absurd h1 h
  · rw [List.take_length] at h4
    exact ⟨r', h4, by rw [h1]; simpa using h3⟩
/-- The same answer, by the records of a name and its first link alone. -/
def fo (R : Name → List Rec) (K : Name → Option Rec) : Nat → Name → Bool → Int → Out
  | k, n, c, t => if R n ≠ [] then ⟨n, R n, leastAll c t (R n), 16 - k, 0⟩ else match K n with
    | none => ⟨n, [], 0, 16 - k, 11⟩
    | some r => match k with
      | 0 => ⟨[], [], 0, 0, 15⟩
      | k + 1 => fo R K k r.tg true (leastOf c t r.ttl)
theorem fol_fo (k : Nat) : ∀ n c t, fol qt qc rs k n c t = fo (recsOf qt qc · rs) (lk qt qc · rs) k n c t := by
  induction k with
  | zero =>
    intro n c t
    rw [fol, fo]
    split
    · rfl
    · rename_i hR
      split
      · rename_i h; rw [lk_none h]
      · rename_i h
        obtain ⟨r, h1, h2⟩ := lk_some h
        rw [h1]
  | succ k ih =>
    intro n c t
    rw [fol, fo]
    split
    · rfl
    · rename_i hR
      split
      · rename_i h; rw [lk_none h]
      · rename_i h
        obtain ⟨r, h1, h2⟩ := lk_some h
        rw [h1]
        simp only [h2, ih]
/-- The names of a chain. -/
def nms (R : Name → List Rec) (K : Name → Option Rec) : Nat → Name → List Name
  | 0, n => [n]
  | k + 1, n => n :: (if R n ≠ [] then [] else match K n with
    | none => []
    | some r => nms R K k r.tg)
theorem nms_ne (R : Name → List Rec) (K : Name → Option Rec) (k : Nat) (n : Name) : nms R K k n ≠ [] := by cases k <;> simp [nms]
theorem mem_nms (R : Name → List Rec) (K : Name → Option Rec) (k : Nat) (n : Name) : n ∈ nms R K k n := by cases k <;> simp [nms]
/-- What is asked of the names of the chain alone. -/
theorem fo_congr {R R' : Name → List Rec} {K K' : Name → Option Rec} : ∀ (k : Nat) (n : Name) (c : Bool) (t : Int), (∀ m ∈ nms R K (k + 1) n, R m = R' m ∧ K m = K' m) → fo R K k n c t = fo R' K' k n c t
  | 0, n, c, t, h => by
    obtain ⟨h1, h2⟩ := h n (mem_nms _ _ _ _)
    rw [fo, fo, h1, h2]
  | k + 1, n, c, t, h => by
    obtain ⟨h1, h2⟩ := h n (mem_nms _ _ _ _)
    rw [fo, fo, h1, h2]
    split
    · rfl
    · rename_i hR
      cases hK : K' n with
      | none => rfl
      | some r =>
        refine fo_congr k r.tg true _ fun m hm => h m ?_
        rw [nms, h1, h2, if_neg hR, hK]
        exact List.mem_cons_of_mem _ hm
theorem le_leastAll : ∀ (rs : List Rec) (c : Bool) (t : Int), (c = true → leastAll c t rs ≤ t) ∧ ∀ r ∈ rs, leastAll c t rs ≤ r.ttl
  | [], c, t => ⟨fun _ => Int.le_refl _, fun _ h => by cases h⟩
  | r :: rs, c, t => by
    obtain ⟨h1, h2⟩ := le_leastAll rs true (leastOf c t r.ttl)
    have h3 : leastAll c t (r :: rs) = leastAll true (leastOf c t r.ttl) rs := rfl
    have h1' := h1 rfl
    rw [h3]
    refine ⟨fun hc => ?_, fun r' hr' => ?_⟩
    · unfold leastOf at h1' ⊢
      subst hc
      split at h1' <;> rename_i h4
      · simp at h4
        rw [if_pos (.inr h4)]; omega
      · rw [if_neg h4]; exact h1'
    · rcases List.mem_cons.1 hr' with rfl | hr'
      · unfold leastOf at h1' ⊢
        split at h1' <;> rename_i h4
        · rw [if_pos h4]; exact h1'
        · rw [if_neg h4]
          have : ¬ (c = false ∨ r'.ttl < t) := h4
          have : ¬ r'.ttl < t := fun e => this (.inr e)
          omega
      · exact h2 r' hr'
/-- What may be found. -/
def Fine (R : Name → List Rec) (k : Nat) (n : Name) (o : Out) : Prop :=
  (o.e = 15 ∧ o = ⟨[], [], 0, 0, 15⟩) ∨ ((o.e = 0 ∧ o.rs ≠ [] ∨ o.e = 11 ∧ o.rs = []) ∧ 16 - k ≤ o.links ∧ o.links ≤ 16 ∧ (o.links = 16 - k → o.nm = n) ∧ (∀ r ∈ o.rs, o.ttl ≤ r.ttl) ∧ o.rs = R o.nm)
theorem fo_fine {R : Name → List Rec} {K : Name → Option Rec} : ∀ (k : Nat) (n : Name) (c : Bool) (t : Int), Fine R k n (fo R K k n c t)
  | k, n, c, t => by
    by_cases hR : R n ≠ []
    · rw [fo, if_pos hR]
      exact .inr ⟨.inl ⟨rfl, hR⟩, Int.le_refl _, by show (16 : Int) - k ≤ 16; omega, fun _ => rfl, (le_leastAll _ _ _).2, rfl⟩
    · have hR' : R n = [] := Classical.not_not.1 hR
      cases hK : K n with
      | none =>
        rw [fo, if_neg hR, hK]
        exact .inr ⟨.inr ⟨rfl, rfl⟩, Int.le_refl _, by show (16 : Int) - k ≤ 16; omega, fun _ => rfl, fun _ h => (by cases h), hR'.symm⟩
      | some r =>
        cases k with
        | zero =>
          rw [fo, if_neg hR, hK]
          exact .inl ⟨rfl, rfl⟩
        | succ k =>
          have he : fo R K (k + 1) n c t = fo R K k r.tg true (leastOf c t r.ttl) := by
            rw [fo, if_neg hR, hK]
          rw [he]
          rcases fo_fine k r.tg true (leastOf c t r.ttl) with h | ⟨h1, h2, h3, h4, h5⟩
          · exact .inl h
          · exact .inr ⟨h1, by omega, h3, fun e => by omega, h5⟩
/-- The records of a name, another one put in that is not its own. -/
theorem recs_put {a b : List Rec} {o : Rec} (h : lowN o.nm ≠ lowN n) : recsOf qt qc n (a ++ [o] ++ b) = recsOf qt qc n (a ++ b) := by
  unfold recsOf
  rw [List.filter_append, List.filter_append, List.filter_append]
  have : [o].filter (fun r => decide (Picks qt qc n r)) = [] := by
    simp [Picks, h]
  rw [this, List.append_nil]
theorem lk_put {a b : List Rec} {o : Rec} (h : lowN o.nm ≠ lowN n) : lk qt qc n (a ++ [o] ++ b) = lk qt qc n (a ++ b) := by
  unfold lk
  rw [List.find?_append, List.find?_append, List.find?_append]
  have : [o].find? (fun r => decide (Links qt qc n r)) = none := by
    simp [Links, h]
  rw [this, Option.or_none]
def folR (qt qc : Int) (rs : List Rec) (n : Name) : Out := fol qt qc rs 16 n false 0
def namesOf (qt qc : Int) (rs : List Rec) (k : Nat) (n : Name) : List Name := nms (recsOf qt qc · rs) (lk qt qc · rs) k n
theorem fol_put {a b : List Rec} {o : Rec} (h : ∀ m ∈ namesOf qt qc (a ++ b) 17 n, lowN m ≠ lowN o.nm) : folR qt qc (a ++ [o] ++ b) n = folR qt qc (a ++ b) n := by
  unfold folR
  rw [fol_fo, fol_fo]
  exact (fo_congr 16 n false 0 fun m hm => ⟨(recs_put (fun e => h m hm e.symm)).symm, (lk_put (fun e => h m hm e.symm)).symm⟩).symm
theorem fol_fine : Fine (recsOf qt qc · rs) 16 n (folR qt qc rs n) := by
  unfold folR
  rw [fol_fo]
  exact fo_fine _ _ _ _
theorem find_congr {α : Type} {p q : α → Bool} : ∀ {l : List α}, (∀ a ∈ l, p a = q a) → l.find? p = l.find? q
  | [], _ => rfl
  | a :: l, h => by
    rw [List.find?_cons, List.find?_cons, h a (by simp), find_congr (fun b hb => h b (by simp [hb]))]
/-- Without records of its own, a name's first link is its first record of type 5. -/
theorem lk_head (h : recsOf qt qc n rs = []) : lk qt qc n rs = (recsOf 5 qc n rs).head? := by
  unfold lk recsOf
  rw [List.head?_filter]
  refine find_congr fun r hr => ?_
  have h1 : ¬ Picks qt qc n r := fun hp => by
    have : r ∈ recsOf qt qc n rs := List.mem_filter.2 ⟨hr, by simpa using hp⟩
    rw [h] at this
    cases this
  rw [decide_eq_decide]
  unfold Links Picks at *
  constructor
  · rintro ⟨_, h2, h3, h4⟩; exact ⟨h2, h3, h4⟩
  · rintro ⟨h2, h3, h4⟩; exact ⟨fun e => h1 ⟨e, h3, h4⟩, h2, h3, h4⟩
/-- The names of a chain tell how it ends. -/
theorem nms_fo {R : Name → List Rec} {K : Name → Option Rec} : ∀ (k : Nat) (n : Name) (c : Bool) (t : Int),
    ((nms R K (k + 1) n).length = k + 2 ∧ (fo R K k n c t).e = 15) ∨ ((nms R K (k + 1) n).length ≤ k + 1 ∧ (fo R K k n c t).e ≠ 15 ∧ (nms R K (k + 1) n).getLast? = some (fo R K k n c t).nm)
  | k, n, c, t => by
    rw [nms, fo]
    split
    · exact .inr ⟨by simp, by simp, by simp⟩
    · rename_i hR
      cases hK : K n with
      | none => exact .inr ⟨by simp, by simp, by simp⟩
      | some r =>
        cases k with
        | zero => exact .inl ⟨by simp [nms], rfl⟩
        | succ k =>
          simp only
          rcases nms_fo k r.tg true (leastOf c t r.ttl) with ⟨h1, h2⟩ | ⟨h1, h2, h3⟩
          · exact .inl ⟨by simp [h1], h2⟩
          · refine .inr ⟨by simp; omega, h2, ?_⟩
            rw [List.getLast?_cons, h3]
            rfl
/-- From each name of a chain but the last one a link leads on. -/
theorem nms_link {R : Name → List Rec} {K : Name → Option Rec} : ∀ (k : Nat) (n : Name) (i : Nat), i + 1 < (nms R K k n).length → ∃ m, (nms R K k n)[i]? = some m ∧ R m = [] ∧ K m ≠ none
  | 0, n, i, h => by simp [nms] at h
  | k + 1, n, i, h => by
    rw [nms] at h ⊢
    by_cases hR : R n ≠ []
    · rw [if_pos hR] at h; simp at h
    · rw [if_neg hR] at h ⊢
      cases hK : K n with
      | none => rw [hK] at h; simp at h
      | some r =>
        rw [hK] at h
        simp only at h ⊢
        cases i with
        | zero => exact ⟨n, rfl, Classical.not_not.1 hR, by rw [hK]; simp⟩
        | succ i => simpa using nms_link k r.tg i (by simpa using h)
end
end Go.Proofs.Ytidhelgoopdloaa
