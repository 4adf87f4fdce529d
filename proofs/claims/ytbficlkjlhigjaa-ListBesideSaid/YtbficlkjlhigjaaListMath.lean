/- Lists of texts: what goes, from either end on. No program in sight. -/
namespace Go.Proofs.Ytbficlkjlhigjaa.Dq
set_option linter.unusedVariables false
section
variable {α : Type} [DecidableEq α]
/-- What goes of a list, and how many: at most so many, where there is a limit. -/
def dropF (s : α) : Option Nat → List α → List α × Nat
  | _, [] => ([], 0)
  | lim, x :: xs => if x = s ∧ lim ≠ some 0 then ((dropF s (lim.map (· - 1)) xs).1, (dropF s (lim.map (· - 1)) xs).2 + 1) else (x :: (dropF s lim xs).1, (dropF s lim xs).2)
theorem dropF_zero (s : α) (l : List α) : dropF s (some 0) l = (l, 0) := by
  induction l with
  | nil => rfl
  | cons x xs ih =>
    unfold dropF
    rw [if_neg (by simp), ih]
theorem dropF_hit (s : α) (lim : Option Nat) (xs : List α) (h : lim ≠ some 0) : dropF s lim (s :: xs) = ((dropF s (lim.map (· - 1)) xs).1, (dropF s (lim.map (· - 1)) xs).2 + 1) := by
  show (if s = s ∧ lim ≠ some 0 then _ else _) = _
  rw [if_pos ⟨rfl, h⟩]
theorem dropF_miss (s x : α) (lim : Option Nat) (xs : List α) (h : x ≠ s) : dropF s lim (x :: xs) = (x :: (dropF s lim xs).1, (dropF s lim xs).2) := by
  show (if x = s ∧ lim ≠ some 0 then _ else _) = _
  rw [if_neg (fun e => h e.1)]
theorem dropF_len (s : α) (lim : Option Nat) (l : List α) : (dropF s lim l).1.length + (dropF s lim l).2 = l.length := by
  induction l generalizing lim with
  | nil => rfl
  | cons x xs ih =>
    unfold dropF
    split
    · have := ih (lim.map (· - 1))
      simp only [List.length_cons]
      omega
    · have := ih lim
      simp only [List.length_cons]
      omega
end
section
variable {α : Type}
/-- A list from the end that is meant. -/
def tl (neg : Bool) (l : List α) : List α := if neg then l.reverse else l
def tidx (neg : Bool) (n i : Nat) : Nat := if neg then n - 1 - i else i
theorem tl_tl (neg : Bool) (l : List α) : tl neg (tl neg l) = l := by cases neg <;> simp [tl]
theorem tl_len (neg : Bool) (l : List α) : (tl neg l).length = l.length := by cases neg <;> simp [tl]
theorem tl_get (neg : Bool) (l : List α) (i : Nat) (h : i < l.length) : (tl neg l)[i]? = l[tidx neg l.length i]? := by
  cases neg with
  | false => rfl
  | true => exact List.getElem?_reverse h
theorem tidx_lt (neg : Bool) (n i : Nat) (h : i < n) : tidx neg n i < n := by cases neg <;> simp [tidx] <;> omega
theorem tl_remove (neg : Bool) (l : List α) (i : Nat) (h : i < l.length) : tl neg (l.take (tidx neg l.length i) ++ l.drop (tidx neg l.length i + 1)) = (tl neg l).take i ++ (tl neg l).drop (i + 1) := by
  cases neg with
  | false => rfl
  | true =>
    show (l.take (l.length - 1 - i) ++ l.drop (l.length - 1 - i + 1)).reverse = l.reverse.take i ++ l.reverse.drop (i + 1)
    rw [List.reverse_append, List.take_reverse, List.drop_reverse]
    congr 2
    · congr 1
      omega
    · congr 1
      omega
end
section
variable {α : Type} [DecidableEq α]
/-- What Drop leaves, and how many go. -/
def dropL (l : List α) (count : Int) (s : α) : List α × Nat :=
  (tl (decide (count < 0)) (dropF s (if count = 0 then none else some count.natAbs) (tl (decide (count < 0)) l)).1, (dropF s (if count = 0 then none else some count.natAbs) (tl (decide (count < 0)) l)).2)
end
end Go.Proofs.Ytbficlkjlhigjaa.Dq
