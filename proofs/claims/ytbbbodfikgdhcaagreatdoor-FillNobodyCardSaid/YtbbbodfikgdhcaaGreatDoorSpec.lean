/- The plain functions: jobs, nodes, the profile of free nodes, and what requests and choices do to them. No Go and no memory in sight. -/
namespace Go.Proofs.YtbbbodfikgdhcaaGreatDoor

structure Step where
  at_ : Int
  free : Int
deriving DecidableEq, Inhabited

/-- Rising times. -/
def Asc (S : List Step) : Prop := ∀ (i j : Nat) (x y : Step), i < j → S[i]? = some x → S[j]? = some y → x.at_ < y.at_

/-- How many steps lie ahead of a time. -/
def low (S : List Step) (t : Int) : Nat := (S.takeWhile fun s => decide (s.at_ < t)).length

theorem low_le (S : List Step) (t : Int) : low S t ≤ S.length := by
  unfold low
  induction S with
  | nil => simp
  | cons a l ih => simp only [List.takeWhile_cons]; split <;> simp; exact ih

theorem low_lt {S : List Step} {t : Int} {k : Nat} {s : Step} (hk : S[k]? = some s) (h : k < low S t) : s.at_ < t := by
  unfold low at h
  induction S generalizing k with
  | nil => simp at hk
  | cons a l ih =>
    simp only [List.takeWhile_cons] at h
    by_cases ha : a.at_ < t
    · simp only [ha, decide_true, if_true, List.length_cons] at h
      cases k with
      | zero => simp at hk; subst hk; exact ha
      | succ k => simp only [List.getElem?_cons_succ] at hk; exact ih hk (by omega)
    · simp [ha] at h

theorem low_at {S : List Step} {t : Int} {s : Step} (hk : S[low S t]? = some s) : t ≤ s.at_ := by
  unfold low at hk
  induction S with
  | nil => simp at hk
  | cons a l ih =>
    simp only [List.takeWhile_cons] at hk
    by_cases ha : a.at_ < t
    · simp only [ha, decide_true, if_true, List.length_cons, List.getElem?_cons_succ] at hk
      exact ih hk
    · simp [ha] at hk; subst hk; omega

theorem low_ge {S : List Step} (ha : Asc S) {t : Int} {k : Nat} {s : Step} (hk : S[k]? = some s) (h : low S t ≤ k) : t ≤ s.at_ := by
  rcases Nat.lt_or_ge (low S t) k with hlt | hge
  · have hl : low S t < S.length := by
      have := (List.getElem?_eq_some_iff.1 hk).1; omega
    have h0 : S[low S t]? = some S[low S t] := List.getElem?_eq_getElem hl
    have h1 := low_at h0
    have h2 := ha _ _ _ _ hlt h0 hk
    omega
  · have : k = low S t := by omega
    subst this
    exact low_at hk

/-- What ends with just the steps ahead of a time below it is how many those are. -/
theorem low_eq {S : List Step} {t : Int} {i : Nat} (hi : i ≤ S.length) (hlo : ∀ k s, S[k]? = some s → k < i → s.at_ < t) (hhi : ∀ k s, S[k]? = some s → i ≤ k → t ≤ s.at_) : low S t = i := by
  have hle := low_le S t
  rcases Nat.lt_trichotomy (low S t) i with h | h | h
  · have hl : low S t < S.length := by omega
    have h0 : S[low S t]? = some S[low S t] := List.getElem?_eq_getElem hl
    have := low_at h0
    have := hlo _ _ h0 h
    omega
  · exact h
  · have hl : i < S.length := by omega
    have h0 : S[i]? = some S[i] := List.getElem?_eq_getElem hl
    have := low_lt h0 h
    have := hhi _ _ h0 (Nat.le_refl _)
    omega

/-- Does a step begin at a time? -/
def hits (S : List Step) (t : Int) : Bool := match S[low S t]? with
  | some s => s.at_ == t
  | none => false

/-- The step in which a time lies. -/
def idx (S : List Step) (t : Int) : Nat := if hits S t then low S t else low S t - 1

/-- A list of steps that a profile may have, as far as its numbers go. -/
structure POk (S : List Step) : Prop where
  asc : Asc S
  ne : 0 < S.length
  len : S.length ≤ 1048576
  val : ∀ (i : Nat) (s : Step), S[i]? = some s → 0 ≤ s.at_ ∧ s.at_ ≤ 1152921504606846976 ∧ 0 ≤ s.free ∧ s.free ≤ 64

theorem idx_lt {S : List Step} (h : 0 < S.length) (t : Int) : idx S t < S.length := by
  unfold idx
  have h1 := low_le S t
  split
  · rename_i hh
    unfold hits at hh
    split at hh
    · rename_i hs; exact (List.getElem?_eq_some_iff.1 hs).1
    · cases hh
  · omega

def freeAt (S : List Step) (t : Int) : Int := (S.getD (idx S t) default).free

/-- The least of what is free, of steps that begin ahead of a time. -/
def lst (to : Int) : List Step → Int → Int
  | [], n => n
  | s :: l, n => if to ≤ s.at_ then n else lst to l (min n s.free)
def most (to : Int) : List Step → Int → Int
  | [], n => n
  | s :: l, n => if to ≤ s.at_ then n else most to l (max n s.free)
def nowOf (S : List Step) : Int := (S.headD default).at_
def least (S : List Step) (fr to : Int) : Int := if to ≤ max fr (nowOf S) then 64 else lst to (S.drop (idx S (max fr (nowOf S)))) 64

theorem nowOf_eq {S : List Step} {s : Step} (h : S[0]? = some s) : nowOf S = s.at_ := by
  cases S with
  | nil => simp at h
  | cons a l => simp at h; subst h; rfl

theorem lst_stop {to : Int} {l : List Step} {n : Int} {k : Nat} {s : Step} (hs : l[k]? = some s) (h : to ≤ s.at_) : lst to (l.drop k) n = n := by
  rw [List.drop_eq_getElem_cons (List.getElem?_eq_some_iff.1 hs).1, (List.getElem?_eq_some_iff.1 hs).2]
  exact if_pos h
theorem lst_go {to : Int} {l : List Step} {n : Int} {k : Nat} {s : Step} (hs : l[k]? = some s) (h : ¬ to ≤ s.at_) : lst to (l.drop k) n = lst to (l.drop (k + 1)) (min n s.free) := by
  rw [List.drop_eq_getElem_cons (List.getElem?_eq_some_iff.1 hs).1, (List.getElem?_eq_some_iff.1 hs).2]
  exact if_neg h
theorem most_stop {to : Int} {l : List Step} {n : Int} {k : Nat} {s : Step} (hs : l[k]? = some s) (h : to ≤ s.at_) : most to (l.drop k) n = n := by
  rw [List.drop_eq_getElem_cons (List.getElem?_eq_some_iff.1 hs).1, (List.getElem?_eq_some_iff.1 hs).2]
  exact if_pos h
theorem most_go {to : Int} {l : List Step} {n : Int} {k : Nat} {s : Step} (hs : l[k]? = some s) (h : ¬ to ≤ s.at_) : most to (l.drop k) n = most to (l.drop (k + 1)) (max n s.free) := by
  rw [List.drop_eq_getElem_cons (List.getElem?_eq_some_iff.1 hs).1, (List.getElem?_eq_some_iff.1 hs).2]
  exact if_neg h

end Go.Proofs.YtbbbodfikgdhcaaGreatDoor
