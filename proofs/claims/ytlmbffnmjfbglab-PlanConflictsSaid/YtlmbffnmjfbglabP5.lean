/- Claims, and the search in plain words. -/
import Derived.Test.YtlmbffnmjfbglabP2
namespace Go.Proofs.Ytlmbffnmjfbglab

inductive Claim where
  | mk (frm to wth : Int) (sub : List Claim)
  deriving Inhabited
def Claim.frm : Claim → Int | .mk f _ _ _ => f
def Claim.to : Claim → Int | .mk _ t _ _ => t
def Claim.wth : Claim → Int | .mk _ _ w _ => w
def Claim.sub : Claim → List Claim | .mk _ _ _ s => s
/-- how the search of a partition ends: with claims and the number of tries, or for good, with offsets and an error. -/
inductive Res where
  | claims (l : List Claim) (t : Nat)
  | stop (os : List Int) (e : Int)
/-- an offset that conflicts with j: the last claim goes on, or a new one begins. -/
def extend (cl : List Claim) (o j : Int) : List Claim := match cl.getLast? with
  | some (.mk f _ w s) => if w = j then cl.dropLast ++ [.mk f o w s] else cl ++ [.mk o o j []]
  | none => [.mk o o j []]
/-- one offset. -/
def oneR (ps : List Part) (rec : List Int → Nat → Res) (os : List Int) (o : Int) (cl : List Claim) (t : Nat) : Res :=
  if 65536 < t + 1 then .stop [] 5
  else if conflP ps os o < 0 then (match rec (os ++ [o]) (t + 1) with
    | .stop a e => .stop a e
    | .claims sub t' => .claims (cl ++ [.mk o o (-1) sub]) t')
  else .claims (extend cl o (conflP ps os o)) (t + 1)
/-- the first k offsets. -/
def prefR (ps : List Part) (rec : List Int → Nat → Res) (os : List Int) (t : Nat) : Nat → Res
  | 0 => .claims [] t
  | k + 1 => match prefR ps rec os t k with
    | .stop a e => .stop a e
    | .claims cl t' => oneR ps rec os k cl t'
/-- how many offsets partition k has. -/
def nOff (ps : List Part) (k : Nat) : Nat := ((ps.getD k default).period - (ps.getD k default).length + 1).toNat
/-- the search, where r partitions have no offset yet. -/
def tryR (ps : List Part) : Nat → List Int → Nat → Res
  | 0, os, _ => .stop os 0
  | r + 1, os, t => prefR ps (tryR ps r) os t (nOff ps os.length)

theorem extend_len (cl : List Claim) (o j : Int) : (extend cl o j).length ≤ cl.length + 1 := by
  unfold extend
  split
  · split <;> simp <;> omega
  · simp
theorem prefR_len (ps : List Part) (rec : List Int → Nat → Res) (os : List Int) (t : Nat) : ∀ (k : Nat) (cl : List Claim) (t' : Nat), prefR ps rec os t k = .claims cl t' → cl.length ≤ k
  | 0, cl, t', h => by
    simp only [prefR] at h
    injection h with h _
    subst h; simp
  | k + 1, cl, t', h => by
    simp only [prefR] at h
    cases hp : prefR ps rec os t k with
    | stop a e => rw [hp] at h; cases h
    | claims cl0 t0 =>
      rw [hp] at h
      have ih := prefR_len ps rec os t k cl0 t0 hp
      simp only [oneR] at h
      split at h
      · cases h
      · split at h
        · split at h
          · cases h
          · injection h with h _
            subst h; simp; omega
        · injection h with h _
          subst h
          have := extend_len cl0 k (conflP ps os k)
          omega
/-- no more tries than allowed. -/
theorem prefR_tries (ps : List Part) (rec : List Int → Nat → Res) (hrec : ∀ os t l t', t ≤ 65536 → rec os t = .claims l t' → t' ≤ 65536) (os : List Int) (t : Nat) (ht : t ≤ 65536) : ∀ (k : Nat) (cl : List Claim) (t' : Nat), prefR ps rec os t k = .claims cl t' → t' ≤ 65536
  | 0, cl, t', h => by
    simp only [prefR] at h
    injection h with _ h
    omega
  | k + 1, cl, t', h => by
    simp only [prefR] at h
    cases hp : prefR ps rec os t k with
    | stop a e => rw [hp] at h; cases h
    | claims cl0 t0 =>
      rw [hp] at h
      have ih := prefR_tries ps rec hrec os t ht k cl0 t0 hp
      simp only [oneR] at h
      split at h
      · cases h
      · split at h
        · split at h
          · cases h
          · rename_i sub t1 hr
            injection h with _ h
            subst h
            exact hrec _ _ _ _ (by omega) hr
        · injection h with _ h
          omega
theorem tryR_tries (ps : List Part) : ∀ (r : Nat) (os : List Int) (t : Nat) (l : List Claim) (t' : Nat), t ≤ 65536 → tryR ps r os t = .claims l t' → t' ≤ 65536
  | 0, _, _, _, _, _, h => by simp [tryR] at h
  | r + 1, os, t, l, t', ht, h => prefR_tries ps (tryR ps r) (tryR_tries ps r) os t ht _ l t' (by simpa only [tryR] using h)
/-- a stop at some offset is the search's stop. -/
theorem prefR_stop (ps : List Part) (rec : List Int → Nat → Res) (os : List Int) (t : Nat) {a : List Int} {e : Int} : ∀ (n k : Nat), k ≤ n → prefR ps rec os t k = .stop a e → prefR ps rec os t n = .stop a e
  | 0, k, h, hk => by obtain rfl : k = 0 := by omega
                      exact hk
  | n + 1, k, h, hk => by
    by_cases c : k = n + 1
    · subst c; exact hk
    · simp only [prefR]
      rw [prefR_stop ps rec os t n k (by omega) hk]
end Go.Proofs.Ytlmbffnmjfbglab
