/- Arguments of any types of structs and slices, opened. -/
import Derived.Test.YtlmbffnmjfbglabD0
set_option linter.unusedSimpArgs false
set_option linter.unusedVariables false
namespace Go.Proofs.Ytlmbffnmjfbglab
open Go.ChangeShapes Go.WideShapes Go.ChangeAt Go.RowKit Go.Deep

theorem cfE_of {S : Nat → List K} {N : Nat → Nat} : ∀ {ks : List K} {e : List G}, e.length = ks.length → (∀ j (h : j < ks.length) (h' : j < e.length), G.cf S N ks[j] e[j]) → cfE S N ks e
  | [], [], _, _ => by simp only [cfE]
  | k :: ks, x :: r, hl, h => by
    simp only [cfE]
    exact ⟨h 0 (by simp) (by simp), cfE_of (by simpa using hl) fun j hj hj' => h (j + 1) (by simpa using hj) (by simpa using hj')⟩
  | [], _ :: _, hl, _ => by simp at hl
  | _ :: _, [], hl, _ => by simp at hl
theorem cfR_of {S : Nat → List K} {N : Nat → Nat} {ks : List K} : ∀ {l : List (List G)}, (∀ i (h : i < l.length), cfE S N ks l[i]) → cfR S N ks l
  | [], _ => by simp only [cfR]
  | e :: r, h => by
    simp only [cfR]
    exact ⟨h 0 (by simp), cfR_of fun i hi => h (i + 1) (by simpa using hi)⟩
theorem rdE_of {w : World} {Q : Nat → Prop} {b : Nat} : ∀ {e : List G} {o : Nat}, (∀ j (h : j < e.length), ∃ v, w.cell? ⟨b, o + j, none⟩ = some v ∧ G.rd w Q v e[j]) → rdE w Q b o e
  | [], _, _ => by simp only [rdE]
  | x :: r, o, h => by
    simp only [rdE]
    refine ⟨by have := h 0 (by simp); simpa using this, rdE_of fun j hj => ?_⟩
    obtain ⟨v, h1, h2⟩ := h (j + 1) (by simpa using hj)
    exact ⟨v, by rw [show o + 1 + j = o + (j + 1) by omega]; exact h1, by simpa using h2⟩
theorem rdR_of {w : World} {Q : Nat → Prop} {b n : Nat} : ∀ {l : List (List G)} {o : Nat}, (∀ j (hj : j < l.length), l[j].length = n) → (∀ i (hi : i < l.length), rdE w Q b (o + i * n) l[i]) → rdR w Q b o l
  | [], _, _, _ => by simp only [rdR]
  | e :: r, o, hn, h => by
    simp only [rdR]
    have h0 : e.length = n := hn 0 (by simp)
    refine ⟨by have := h 0 (by simp); simpa using this, rdR_of (n := n) (fun j hj => hn (j + 1) (by simpa using hj)) fun i hi => ?_⟩
    have := h (i + 1) (by simpa using hi)
    rw [h0, show o + n + i * n = o + (i + 1) * n by rw [Nat.add_mul]; omega]
    simpa using this
/-- a kind that a table below T knows. -/
def K.known (T : Nat) : K → Prop | .sl t => t < T | _ => True
/-- types of kinds. -/
structure Tab (P : Program) (S : Nat → List K) (N : Nat → Nat) (KT : K → TypeId) (T : Nat) : Prop where
  int : P.underlying (KT .int) = some (.int .i64)
  byte : P.underlying (KT .byte) = some (.int .u8)
  bool : P.underlying (KT .bool) = some .bool
  str : P.underlying (KT .str) = some .string
  row : ∀ t, t < T → 0 < (S t).length ∧ ∃ e, P.underlying (KT (.sl t)) = some (.slice e) ∧ reachBytes < (N t + 1) * P.bytesOf e ∧ (∀ k ∈ S t, k.known T) ∧
    ((∃ fs : Array Field, P.underlying e = some (.struct fs) ∧ oneCellFields P fs = true ∧ P.cellsOf e = fs.size ∧ fs.toList.map (·.type) = (S t).map KT) ∨ (∃ k, S t = [k] ∧ e = KT k ∧ P.cellsOf e = 1))
theorem open_g {H : Type} {enc : TypeId × Value → H} {P : Program} {S : Nat → List K} {N : Nat → Nat} {KT : K → TypeId} {T : Nat} (tab : Tab P S N KT T) {W : World} : ∀ (fuel : Nat) (k : K) (v : Value) (y : DataW H × List MemPlace), k.known T → DataW.trod enc P W 0 (fun _ => true) true fuel (KT k) [v] = some y → (∀ n ∈ y.1.weights P (KT k), n ≤ reachBytes) →
    ∃ x : G, G.cf S N k x ∧ G.rdW W v x := by
  intro fuel
  induction fuel using Nat.strongRecOn with
  | ind fuel ih =>
  intro k v y hk h hz
  cases k with
  | int =>
    obtain ⟨n, hn, _, _⟩ := DataW.trod_int tab.int h
    injection hn with hn
    exact ⟨.one v, by simp only [G.cf]; exact ⟨n, hn⟩, by simp only [G.rdW, G.rd]⟩
  | byte =>
    obtain ⟨n, hn, _, _⟩ := DataW.trod_int tab.byte h
    injection hn with hn
    exact ⟨.one v, by simp only [G.cf]; exact ⟨n, hn⟩, by simp only [G.rdW, G.rd]⟩
  | bool =>
    obtain ⟨n, hn, _⟩ := DataW.trod_bool tab.bool h
    injection hn with hn
    exact ⟨.one v, by simp only [G.cf]; exact ⟨n, hn⟩, by simp only [G.rdW, G.rd]⟩
  | str =>
    obtain ⟨n, hn, _, _⟩ := DataW.trod_string tab.str h
    injection hn with hn
    exact ⟨.one v, by simp only [G.cf]; exact ⟨n, hn⟩, by simp only [G.rdW, G.rd]⟩
  | sl t =>
    have htT : t < T := hk
    obtain ⟨hS, e, hsl, hbytes, hkn, hkind⟩ := tab.row t htT
    -- what one element needs
    have fin : ∀ (a : Addr) (len cap : Nat) (el re : List (DataW H)), v = .slice (some a) len cap → len ≤ cap → cap ≤ maxLen → y.1 = .slice el re → el.length = len →
        (∀ i, i < len → ∃ e' : List G, e'.length = (S t).length ∧ cfE S N (S t) e' ∧ ∀ j (h : j < e'.length), ∃ u, W.cell? (a.add (i * (S t).length + j)) = some u ∧ G.rdW W u e'[j]) → 0 < (S t).length → ∃ x : G, G.cf S N (.sl t) x ∧ G.rdW W v x := by
      intro a len cap el re hv hl hm hy hel hex hS
      have hN : len ≤ N t := by
        rw [hy] at hz
        simp only [DataW.weights, hsl] at hz
        have := hz ((el.length + re.length) * P.bytesOf e) (by simp)
        rw [hel] at this
        rcases Nat.lt_or_ge (N t) len with hlt | hge
        · have h2 : (N t + 1) * P.bytesOf e ≤ (len + re.length) * P.bytesOf e := Nat.mul_le_mul_right _ (by omega)
          omega
        · exact hge
      obtain ⟨l, hll, hlp⟩ := list_of len _ hex
      subst hll
      refine ⟨.row t l, by simp only [G.cf]; exact ⟨trivial, hN, cfR_of fun i hi => (hlp i hi).2.1⟩, ?_⟩
      simp only [G.rdW, G.rd]
      refine ⟨some a, cap, hv, hl, hm, fun hn => ?_⟩
      obtain ⟨h1, _, h3⟩ := hlp 0 hn
      obtain ⟨u, hu, _⟩ := h3 0 (by omega)
      have h0 : a.add (0 * (S t).length + 0) = a := by simp [Addr.add]
      rw [h0] at hu
      have ea := addr_of_cell hu
      refine ⟨a.block, a.off, by rw [← ea], World.block_lt_of_cell? W _ hu, rdR_of (n := (S t).length) (fun j hj => (hlp j hj).1) fun i hi => rdE_of fun j hj => ?_⟩
      obtain ⟨u, hu, hr⟩ := (hlp i hi).2.2 j hj
      rw [ea, add_none, ← Nat.add_assoc] at hu
      exact ⟨u, hu, hr⟩
    rcases hkind with ⟨fs, hst, hone, hC, hfs⟩ | ⟨k, hSk, rfl, hC⟩
    · rcases slice_less2 hsl hst hone hC h with hcs | ⟨a, len, cap, n, el, re, hcs, hl, hm, hn, hy, hel, hi⟩
      · injection hcs with hcs
        subst hcs
        exact ⟨.row t [], by simp only [G.cf, cfR]; simp, by simp only [G.rdW, G.rd]; exact ⟨none, 0, rfl, Nat.le_refl _, by simp [maxLen], fun h => absurd h (by simp)⟩⟩
      · injection hcs with hcs
        have hfl : fs.size = (S t).length := by
          have := congrArg List.length hfs
          simpa using this
        refine fin a len cap el re hcs hl hm hy hel (fun i hil => ?_) hS
        obtain ⟨ys, hagg, hf⟩ := hi i (by omega)
        have hj : ∀ j, j < (S t).length → ∃ x : G, ∀ h : j < (S t).length, G.cf S N (S t)[j] x ∧ ∃ u, W.cell? (a.add (i * (S t).length + j)) = some u ∧ G.rdW W u x := by
          intro j hj
          have hjf : j < fs.size := by omega
          obtain ⟨u, y', hc, hy', ht⟩ := hf j fs[j] (Array.getElem?_eq_getElem hjf)
          have hty : fs[j].type = KT (S t)[j] := by
            have h1 := congrArg (fun l => l[j]?) hfs
            simp only [List.getElem?_map, Array.getElem?_toList, Array.getElem?_eq_getElem hjf, List.getElem?_eq_getElem hj, Option.map_some] at h1
            injection h1
          rw [hty] at ht
          obtain ⟨x, h1, h2⟩ := ih n hn (S t)[j] u y' (hkn _ (List.getElem_mem _)) ht (fun m hm => hz m (by
            rw [hy]
            simp only [DataW.weights, hsl]
            refine List.mem_cons_of_mem _ (List.mem_append_left _ (weightsAll_mem (List.getElem_mem (show i < el.length by omega)) ?_))
            rw [hagg]
            simp only [DataW.weights, hst]
            exact DataW.weights_mem_each (j := j) (t := KT (S t)[j]) (d := y'.1) (by rw [← hty]; simp [hjf]) (by simp [hy']) m hm))
          rw [hfl] at hc
          exact ⟨x, fun _ => ⟨h1, u, hc, h2⟩⟩
        obtain ⟨e', he', hp⟩ := list_of (S t).length _ hj
        exact ⟨e', he', cfE_of he' fun j h1 h2 => (hp j h2 h1).1, fun j hj => (hp j hj (by omega)).2⟩
    · rcases DataW.trod_slice hsl h with hcs | ⟨a, len, cap, elems, rest, n, hn, hcs, hx, _, hl, hm, hlen, hel, _, _⟩
      · have hcs := hcs.1
        injection hcs with hcs
        subst hcs
        exact ⟨.row t [], by simp only [G.cf, cfR]; simp, by simp only [G.rdW, G.rd]; exact ⟨none, 0, rfl, Nat.le_refl _, by simp [maxLen], fun h => absurd h (by simp)⟩⟩
      · injection hcs with hcs
        refine fin a len cap (elems.map (·.1)) (rest.map (·.1)) hcs hl hm (by rw [hx]) (by simpa using hlen) (fun i hil => ?_) (by rw [hSk]; simp)
        have key := hel i hil
        rw [List.getElem?_eq_getElem (by omega)] at key
        obtain ⟨cs', hc, ht'⟩ := Option.bind_eq_some_iff.1 key
        rw [hC] at hc
        obtain ⟨_, hcl, hat⟩ := World.cells?_some hc
        have h0 := hat 0 (by omega)
        obtain ⟨u, hu⟩ : ∃ u, cs' = [u] := by
          match cs', hcl with
          | [u], _ => exact ⟨u, rfl⟩
        subst hu
        obtain ⟨x, h1, h2⟩ := ih n (by omega) k u elems[i] (hkn k (by rw [hSk]; simp)) ht' (fun m hm => hz m (by
          rw [hx]
          simp only [DataW.weights, hsl]
          exact List.mem_cons_of_mem _ (List.mem_append_left _ (weightsAll_mem (List.mem_map.2 ⟨elems[i], List.getElem_mem _, rfl⟩) hm))))
        rw [hSk]
        refine ⟨[x], rfl, by simp only [cfE]; exact ⟨h1, trivial⟩, fun j hj => ?_⟩
        match j, hj with
        | 0, _ =>
          refine ⟨u, ?_, by simpa using h2⟩
          rw [← Go.Deep.add_add]
          simpa using h0
end Go.Proofs.Ytlmbffnmjfbglab
