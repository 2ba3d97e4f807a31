/- Laws of the typed texts that FileReads reaches, in plain Lean. No condition but what each theorem names. -/
import Derived.Test.YtihfgpfofmjbaaaPsFileReads1
import Derived.Laws.Strings
import Derived.Test.YtihfgpfofmjbaaaFsFileReads2
import Derived.Test.YtihfgpfofmjbaaaFsFileReads3
import Derived.Test.YtihfgpfofmjbaaaEvS
set_option linter.unusedVariables false
set_option linter.unusedSimpArgs false
set_option linter.unusedVariables false
set_option linter.unusedSimpArgs false
namespace Go.Proofs.Ytihfgpfofmjbaaa.Seg
open Go Ev Bm

/-! ### What is referred to -/
def chain (n : Int) : Int → List Int → Prop
  | _, [] => True
  | lo, r :: t => lo < r ∧ r < n ∧ chain n r t
theorem chain_iff {n : Int} : ∀ (refs : List Int) (lo : Int), chain n lo refs ↔ ∀ i, i < refs.length → (if i = 0 then lo else refs.getD (i - 1) 0) < refs.getD i 0 ∧ refs.getD i 0 < n
  | [], lo => by simp [chain]
  | r :: t, lo => by
    simp only [chain, chain_iff t r]
    constructor
    · rintro ⟨h1, h2, h3⟩ i hi
      match i, hi with
      | 0, _ => exact ⟨h1, h2⟩
      | 1, hi => have := h3 0 (by simpa using hi); simpa using this
      | i + 2, hi => have := h3 (i + 1) (by simp at hi; omega); simpa using this
    · intro h
      have h0 := h 0 (by simp)
      refine ⟨h0.1, h0.2, fun i hi => ?_⟩
      have := h (i + 1) (by simpa using hi)
      match i, hi with
      | 0, _ => simpa using this
      | i + 1, hi => simpa using this
theorem asc_chain {n : Int} {refs : List Int} : asc refs n ↔ chain n (-1) refs := by
  rw [chain_iff]
  have e : ∀ i, lastOf refs i = if i = 0 then -1 else refs.getD (i - 1) 0 := by
    intro i
    cases i with
    | zero => rfl
    | succ i => rw [if_neg (by omega)]; rfl
  unfold asc
  simp only [e]
theorem refB_cons (n r : Int) (t : List Int) : refB n (r :: t) = sz (n - r) ++ refB n t := rfl
theorem refsGo_of {b : List Int} {n : Int} (hn : n ≤ 100000) : ∀ (refs : List Int) {lo : Int} {p : Nat} (out : List Int), -1 ≤ lo → chain n lo refs → Has b p (refB n refs) →
    refsGo b n refs.length (p : Int) (n - lo) out = .ok (out ++ refs) ((p + (refB n refs).length : Nat) : Int)
  | [], lo, p, out, hlo, hc, h => by simp [refsGo, refB]
  | r :: t, lo, p, out, hlo, hc, h => by
    obtain ⟨h1, h2, h3⟩ := hc
    rw [refB_cons] at h ⊢
    simp only [List.length_cons, refsGo]
    rw [numR_of (v := n - r) (by omega) (by omega) (by omega) h.left]
    dsimp only
    rw [if_neg (by omega), if_neg (by omega), refsGo_of hn t (lo := r) (out ++ [n - (n - r)]) (by omega) h3 h.right, show n - (n - r) = r by omega, List.append_assoc, List.length_append, Nat.add_assoc]
    rfl
theorem has_nil {b : List Int} {p : Nat} (h : p ≤ b.length) : Has b p [] := has_of (by simpa using h) (by simp)
theorem refsGo_inv {b : List Int} (hb : Bytes b) {n : Int} : ∀ (f : Nat) {lo x : Int} {p : Nat} {out r : List Int}, p ≤ b.length → refsGo b n f (p : Int) (n - lo) out = .ok r x →
    ∃ refs, r = out ++ refs ∧ refs.length = f ∧ chain n lo refs ∧ Has b p (refB n refs) ∧ x = ((p + (refB n refs).length : Nat) : Int)
  | 0, lo, x, p, out, r, hp, h => by
    simp only [refsGo] at h
    cases h
    exact ⟨[], by simp, rfl, trivial, has_nil hp, by simp [refB]⟩
  | f + 1, lo, x, p, out, r, hp, h => by
    simp only [refsGo] at h
    split at h
    · cases h
    · rename_i d q hd
      obtain ⟨a1, a2, a3, a4⟩ := numR_inv hb hd
      split at h
      · cases h
      · split at h
        · cases h
        · rename_i h1 h2
          subst a2
          have e : d = n - (n - d) := by omega
          have h' : refsGo b n f ((p + (sz d).length : Nat) : Int) (n - (n - d)) (out ++ [n - d]) = .ok r x := by rw [← e]; exact h
          obtain ⟨refs, b1, b2, b3, b4, b5⟩ := refsGo_inv hb f a1.len h'
          refine ⟨(n - d) :: refs, by rw [b1]; simp, by simp [b2], ⟨by omega, by omega, b3⟩, ?_, ?_⟩
          · rw [refB_cons, ← e]
            exact a1.join b4
          · rw [b5, refB_cons, ← e, List.length_append, Nat.add_assoc]

/-! ### What is kept -/
theorem bit_B8 : ∀ (t : Fin 8) (b0 b1 b2 b3 b4 b5 b6 b7 : Bool), bit8 (B8 b0 b1 b2 b3 b4 b5 b6 b7) t.val = (([b0, b1, b2, b3, b4, b5, b6, b7].getD t.val false).toNat : Int) := by decide +kernel
theorem B8_bit : ∀ (c : Fin 256), B8 (decide (bit8 (c.val : Int) 0 = 1)) (decide (bit8 (c.val : Int) 1 = 1)) (decide (bit8 (c.val : Int) 2 = 1)) (decide (bit8 (c.val : Int) 3 = 1)) (decide (bit8 (c.val : Int) 4 = 1)) (decide (bit8 (c.val : Int) 5 = 1)) (decide (bit8 (c.val : Int) 6 = 1)) (decide (bit8 (c.val : Int) 7 = 1)) = (c.val : Int) := by decide +kernel
theorem get8' (g : Nat → Bool) : ∀ t, t < 8 → [g 0, g 1, g 2, g 3, g 4, g 5, g 6, g 7].getD t false = g t := by
  intro t ht
  match t, ht with
  | 0, _ => rfl
  | 1, _ => rfl
  | 2, _ => rfl
  | 3, _ => rfl
  | 4, _ => rfl
  | 5, _ => rfl
  | 6, _ => rfl
  | 7, _ => rfl
theorem bitA_packed {b : List Int} {p : Nat} {l : List Bool} (h : Has b p (packed l)) {i : Nat} (hi : i < 8 * ((l.length + 7) / 8)) : bitA b p i = ((l.getD i false && decide (i < l.length)).toNat : Int) := by
  unfold bitA
  have hg := h.get (i := i / 8) (by rw [packed_len]; omega)
  unfold packed at hg
  rw [pk_get (by omega)] at hg
  rw [hg]
  unfold by8
  have := bit_B8 ⟨i % 8, by omega⟩ (l.getD (8 * (i / 8) + 0) false && decide (8 * (i / 8) + 0 < l.length)) (l.getD (8 * (i / 8) + 1) false && decide (8 * (i / 8) + 1 < l.length)) (l.getD (8 * (i / 8) + 2) false && decide (8 * (i / 8) + 2 < l.length)) (l.getD (8 * (i / 8) + 3) false && decide (8 * (i / 8) + 3 < l.length)) (l.getD (8 * (i / 8) + 4) false && decide (8 * (i / 8) + 4 < l.length)) (l.getD (8 * (i / 8) + 5) false && decide (8 * (i / 8) + 5 < l.length)) (l.getD (8 * (i / 8) + 6) false && decide (8 * (i / 8) + 6 < l.length)) (l.getD (8 * (i / 8) + 7) false && decide (8 * (i / 8) + 7 < l.length))
  simp only at this
  refine this.trans ?_
  rw [get8' (fun t => l.getD (8 * (i / 8) + t) false && decide (8 * (i / 8) + t < l.length)) (i % 8) (by omega), show 8 * (i / 8) + i % 8 = i by omega]
theorem keepsR_of {b : List Int} {p : Nat} {l : List Bool} (h : Has b p (packed l)) : keepsR b (p : Int) l.length = .ok l ((p + (packed l).length : Nat) : Int) := by
  have hlen := h.len
  rw [packed_len] at hlen ⊢
  have hB : ∀ i, i < 8 * ((l.length + 7) / 8) → bitA b p i = ((l.getD i false && decide (i < l.length)).toNat : Int) := fun i hi => bitA_packed h hi
  unfold keepsR
  rw [if_neg (by omega), Int.toNat_natCast, if_pos]
  · have e : keepL b p l.length = l := by
      apply List.ext_getElem (by simp [keepL])
      intro i h1 h2
      simp only [keepL, List.getElem_map, List.getElem_range]
      rw [hB i (by omega), getD_lt h2, decide_eq_true h2]
      cases l[i] <;> rfl
    rw [e]
    rfl
  · intro i hi
    by_cases hl : i < l.length
    · exact .inl hl
    · right
      rw [hB i hi, decide_eq_false hl, Bool.and_false]
      rfl
theorem keepsR_inv {b : List Int} (hb : Bytes b) {p many : Nat} {l : List Bool} {x : Int} (h : keepsR b (p : Int) many = .ok l x) : Has b p (packed l) ∧ l.length = many ∧ x = ((p + (packed l).length : Nat) : Int) := by
  unfold keepsR at h
  rw [Int.toNat_natCast] at h
  split at h
  · cases h
  · rename_i hend
    split at h
    · rename_i hr
      cases h
      have hl : (keepL b p many).length = many := by simp [keepL]
      refine ⟨has_of (by rw [packed_len, hl]; omega) fun j hj => ?_, hl, by rw [packed_len, hl]; rfl⟩
      rw [packed_len, hl] at hj
      unfold packed
      rw [hl, pk_get hj]
      unfold by8
      have hg : ∀ t, t < 8 → ((keepL b p many).getD (8 * j + t) false && decide (8 * j + t < many)) = decide (bit8 (b.getD (p + j) 0) t = 1) := by
        intro t ht
        have ea : bitA b p (8 * j + t) = bit8 (b.getD (p + j) 0) t := by
          unfold bitA
          rw [show (8 * j + t) / 8 = j by omega, show (8 * j + t) % 8 = t by omega]
        rw [← ea]
        by_cases hm : 8 * j + t < many
        · rw [decide_eq_true hm, Bool.and_true]
          unfold keepL
          rw [range_getD _ hm]
        · rw [decide_eq_false hm, Bool.and_false]
          rcases hr (8 * j + t) (by omega) with h | h
          · omega
          · rw [h]; rfl
      have hc := hb.get (p + j)
      have := B8_bit ⟨(b.getD (p + j) 0).toNat, by omega⟩
      simp only [Int.toNat_of_nonneg hc.1] at this
      dsimp only
      rw [hg 0 (by omega), hg 1 (by omega), hg 2 (by omega), hg 3 (by omega), hg 4 (by omega), hg 5 (by omega), hg 6 (by omega), hg 7 (by omega)]
      exact this.symm
    · cases h

/-! ### Headers -/
theorem keepG_of {b : List Int} {p : Nat} {n k pg : Int} {refs : List Int} {keep : List Bool} {dl : Nat} (hk : keep.length = refs.length + 1) (h0 : 0 ≤ pg) (h1 : pg ≤ 1000) (h2 : dl ≤ 20000) (h : Has b p (packed keep ++ (sz pg ++ sz dl))) :
    keepG b n k refs (p : Int) = .ok (n, k, pg, (dl : Int), refs, keep) ((p + (packed keep ++ (sz pg ++ sz dl)).length : Nat) : Int) := by
  unfold keepG tailG
  rw [← hk, keepsR_of h.left]
  dsimp only
  rw [numR_of h0 h1 (by omega) h.right.left]
  dsimp only
  rw [numR_of (by omega) (by omega) (by omega) h.right.right]
  simp only [List.length_append, Nat.add_assoc]
theorem keepG_inv {b : List Int} (hb : Bytes b) {p : Nat} {n k x : Int} {refs : List Int} {hd : HdT} (h : keepG b n k refs (p : Int) = .ok hd x) :
    ∃ (pg : Int) (dl : Nat) (keep : List Bool), hd = (n, k, pg, (dl : Int), refs, keep) ∧ keep.length = refs.length + 1 ∧ 0 ≤ pg ∧ pg ≤ 1000 ∧ dl ≤ 20000 ∧ Has b p (packed keep ++ (sz pg ++ sz dl)) ∧ x = ((p + (packed keep ++ (sz pg ++ sz dl)).length : Nat) : Int) := by
  unfold keepG tailG at h
  split at h
  · cases h
  · rename_i keep q hq
    obtain ⟨a1, a2, a3⟩ := keepsR_inv hb hq
    subst a3
    split at h
    · cases h
    · rename_i pg r hr
      obtain ⟨b1, b2, b3, b4⟩ := numR_inv hb hr
      subst b2
      split at h
      · cases h
      · rename_i ln s hs
        obtain ⟨c1, c2, c3, c4⟩ := numR_inv hb hs
        cases h
        obtain ⟨dl, rfl⟩ : ∃ d : Nat, ln = d := ⟨ln.toNat, by omega⟩
        refine ⟨pg, dl, keep, rfl, a2, b3, b4, by omega, a1.join (b1.join c1), ?_⟩
        rw [c2]
        simp only [List.length_append, Nat.add_assoc]
theorem headG_of {b : List Int} (hb : Bytes b) {p : Nat} {n k pg : Int} {refs : List Int} {keep : List Bool} {data : List Int} (hv : valS n k pg refs keep data = true) (h : Has b p (hdr n k pg refs keep data.length)) :
    headG b (p : Int) = .ok (n, k, pg, (data.length : Int), refs, keep) ((p + (hdr n k pg refs keep data.length).length : Nat) : Int) := by
  obtain ⟨⟨v1, v2, v3, v4, v5, v6, v7, v8, v9⟩, va⟩ := valS_iff.1 hv
  unfold hdr at h ⊢
  unfold headG
  rw [numR_of v1 v2 (by omega) h.left]
  dsimp only
  have hr := h.right
  rw [Int.toNat_natCast]
  by_cases h0 : refs.length = 0
  · rw [if_pos h0] at hr ⊢
    have hq := hr.left.len
    have hg := hr.left.get (i := 0) (by simp)
    rw [Nat.add_zero] at hg
    rw [hg]
    simp only [List.length_singleton] at hq
    have hr2 := hr.right
    simp only [List.length_singleton] at hr2
    have e0 : refs = [] := List.eq_nil_of_length_eq_zero h0
    subst e0
    have ek : ([k] : List Int).getD 0 0 = k := rfl
    rw [ek, if_neg (by omega), if_neg (by omega), if_neg (by omega), show k % 16 = k by omega]
    have := keepG_of (n := n) (k := k) (refs := []) v8 v5 v6 v9 hr2
    refine Eq.trans (by rfl) (this.trans ?_)
    simp only [List.length_append, List.length_singleton, Nat.add_assoc]
  · rw [if_neg h0] at hr ⊢
    have hq := hr.left.len
    have hg := hr.left.get (i := 0) (by simp)
    rw [Nat.add_zero] at hg
    rw [hg]
    have ek : ((k + 16) :: (sz refs.length ++ refB n refs)).getD 0 0 = k + 16 := rfl
    simp only [List.length_cons] at hq
    rw [ek, if_neg (by omega), if_neg (by omega), if_pos (by omega), show (k + 16) % 16 = k by omega]
    have hh : Has b (p + (sz n).length + 1) (sz refs.length ++ refB n refs) := by
      have := hr.left
      rw [show (k + 16) :: (sz (refs.length : Int) ++ refB n refs) = [k + 16] ++ (sz (refs.length : Int) ++ refB n refs) from rfl] at this
      exact this.right
    have e1 : ((p + (sz n).length : Nat) : Int) + 1 = ((p + (sz n).length + 1 : Nat) : Int) := rfl
    have hR : refsR b (((p + (sz n).length : Nat) : Int) + 1) n = .ok refs ((p + (sz n).length + 1 + (sz (refs.length : Int) ++ refB n refs).length : Nat) : Int) := by
      rw [e1]
      unfold refsR
      rw [numR_of (by omega) (by omega) (by omega) hh.left]
      dsimp only
      rw [if_neg (by omega), Int.toNat_natCast]
      have := refsGo_of (b := b) (n := n) (by omega) refs (lo := -1) [] (by omega) (asc_chain.1 va) hh.right
      rw [show n - -1 = n + 1 by omega] at this
      rw [this]
      simp only [List.length_append, List.nil_append, Nat.add_assoc]
    rw [hR]
    dsimp only
    have hr2 := hr.right
    have el : p + (sz n).length + ((k + 16) :: (sz (refs.length : Int) ++ refB n refs)).length = p + (sz n).length + 1 + (sz (refs.length : Int) ++ refB n refs).length := by
      simp only [List.length_cons]
      omega
    rw [el] at hr2
    rw [keepG_of (n := n) (k := k) v8 v5 v6 v9 hr2]
    congr 2
    simp only [List.length_append, List.length_cons]
    omega
theorem headG_inv {b : List Int} (hb : Bytes b) {p : Nat} {x : Int} {hd : HdT} (h : headG b (p : Int) = .ok hd x) :
    ∃ (n k pg : Int) (dl : Nat) (refs : List Int) (keep : List Bool), hd = (n, k, pg, (dl : Int), refs, keep) ∧ valS n k pg refs keep (List.replicate dl 0) = true ∧ Has b p (hdr n k pg refs keep dl) ∧ x = ((p + (hdr n k pg refs keep dl).length : Nat) : Int) := by
  unfold headG at h
  split at h
  · cases h
  · rename_i n q hq
    obtain ⟨a1, a2, a3, a4⟩ := numR_inv hb hq
    subst a2
    rw [Int.toNat_natCast] at h
    have hc := hb.get (p + (sz n).length)
    split at h
    · cases h
    · rename_i hend
      split at h
      · cases h
      · rename_i h31
        have hone : ∀ k : Int, b.getD (p + (sz n).length) 0 = k → Has b (p + (sz n).length) [k] := fun k e => has_of (by simp; omega) fun j hj => by
          have : j = 0 := by simpa using hj
          subst this
          rw [Nat.add_zero, e]
          rfl
        generalize b.getD (p + (sz n).length) 0 = c at *
        have h1 := hone c rfl
        have e1 : ((p + (sz n).length : Nat) : Int) + 1 = ((p + (sz n).length + 1 : Nat) : Int) := rfl
        rw [e1] at h
        split at h
        · rename_i h16
          split at h
          · cases h
          · rename_i refs r hr
            unfold refsR at hr
            split at hr
            · cases hr
            · rename_i many s hs
              obtain ⟨b1, b2, b3, b4⟩ := numR_inv hb hs
              subst b2
              split at hr
              · cases hr
              · rename_i hm0
                have hr' : refsGo b n many.toNat ((p + (sz n).length + 1 + (sz many).length : Nat) : Int) (n - -1) [] = .ok refs r := by
                  rw [show n - -1 = n + 1 by omega]
                  exact hr
                obtain ⟨rs, c1, c2, c3, c4, c5⟩ := refsGo_inv hb many.toNat b1.len hr'
                rw [List.nil_append] at c1
                subst c1 c5
                have em : many = (refs.length : Int) := by omega
                subst em
                obtain ⟨pg, dl, keep, d1, d2, d3, d4, d5, d6, d7⟩ := keepG_inv hb h
                have hH : hdr n (c % 16) pg refs keep dl = sz n ++ ((c :: (sz refs.length ++ refB n refs)) ++ (packed keep ++ (sz pg ++ sz dl))) := by
                  unfold hdr
                  rw [if_neg (by omega), show c % 16 + 16 = c by omega]
                have hA : Has b (p + (sz n).length) (c :: (sz (refs.length : Int) ++ refB n refs)) := h1.join (l := [c]) (b1.join c4)
                have el : p + (sz n).length + (c :: (sz (refs.length : Int) ++ refB n refs)).length = p + (sz n).length + 1 + (sz (refs.length : Int)).length + (refB n refs).length := by
                  simp only [List.length_cons, List.length_append]
                  omega
                refine ⟨n, c % 16, pg, dl, refs, keep, d1, valS_iff.2 ⟨⟨a3, a4, by omega, by omega, d3, d4, by omega, d2, by simp; omega⟩, asc_chain.2 c3⟩, ?_, ?_⟩
                · rw [hH]
                  exact a1.join (hA.join (by rw [el]; exact d6))
                · rw [hH, d7]
                  simp only [List.length_append, List.length_cons]
                  omega
        · rename_i h16
          obtain ⟨pg, dl, keep, d1, d2, d3, d4, d5, d6, d7⟩ := keepG_inv hb h
          have hH : hdr n (c % 16) pg [] keep dl = sz n ++ ([c] ++ (packed keep ++ (sz pg ++ sz dl))) := by
            unfold hdr
            rw [if_pos (by simp), show c % 16 = c by omega]
          refine ⟨n, c % 16, pg, dl, [], keep, d1, valS_iff.2 ⟨⟨a3, a4, by omega, by omega, d3, d4, by simp, d2, by simp; omega⟩, asc_chain.2 trivial⟩, ?_, ?_⟩
          · rw [hH]
            exact a1.join (h1.join d6)
          · rw [hH, d7]
            simp only [List.length_append, List.length_singleton]
            omega
end Go.Proofs.Ytihfgpfofmjbaaa.Seg

set_option linter.unusedVariables false
set_option linter.unusedSimpArgs false
namespace Go.Proofs.Ytihfgpfofmjbaaa.Fr
open Go Ev Bm Seg

def catS : List SegT → List Int
  | [] => []
  | s :: r => (hd s ++ dat s) ++ catS r
def catH : List SegT → List Int
  | [] => []
  | s :: r => hd s ++ catH r
def catD : List SegT → List Int
  | [] => []
  | s :: r => dat s ++ catD r
theorem catS_app : ∀ (l m : List SegT), catS (l ++ m) = catS l ++ catS m
  | [], m => rfl
  | s :: r, m => by simp only [List.cons_append, catS, catS_app r m, List.append_assoc]
theorem catH_app : ∀ (l m : List SegT), catH (l ++ m) = catH l ++ catH m
  | [], m => rfl
  | s :: r, m => by simp only [List.cons_append, catH, catH_app r m, List.append_assoc]
theorem catD_app : ∀ (l m : List SegT), catD (l ++ m) = catD l ++ catD m
  | [], m => rfl
  | s :: r, m => by simp only [List.cons_append, catD, catD_app r m, List.append_assoc]
theorem take_next {l : List SegT} {i : Nat} (h : i < l.length) : l.take (i + 1) = l.take i ++ [l.getD i dseg] := by
  rw [List.take_succ_eq_append_getElem h, getD_lt h]
theorem outS_cat (way : Int) (lead : List Int) (l : List SegT) : ∀ i, i ≤ l.length → outS way lead l i = if way = 1 then (lead ++ catH (l.take i), catD (l.take i)) else (lead ++ catS (l.take i), [])
  | 0, _ => by by_cases h : way = 1 <;> simp [outS, h, catH, catD, catS]
  | i + 1, hi => by
    rw [outS, outS_cat way lead l i (by omega), take_next (by omega)]
    by_cases h : way = 1
    · simp only [if_pos h, catH_app, catD_app, catH, catD, List.append_nil, List.append_assoc]
    · simp only [if_neg h, catS_app, catS, List.append_nil, List.append_assoc]
theorem szL_cat (l : List SegT) : szL l l.length = (catS l).length := by
  have := outS_len 0 [] l l.length
  rw [outS_cat 0 [] l l.length (Nat.le_refl _), if_neg (by decide), List.take_length] at this
  simp at this
  omega
theorem catS_len : ∀ (l : List SegT), (catS l).length = (catH l).length + (catD l).length
  | [] => rfl
  | s :: r => by simp only [catS, catH, catD, List.length_append, catS_len r]; omega
/-- The bytes of a file. -/
def wb (way : Int) (l : List SegT) : List Int := leadOf way ++ (if way = 1 then catH l ++ catD l else catS l)
theorem wb_len {way : Int} {l : List SegT} : (wb way l).length = (leadOf way).length + (catS l).length := by
  unfold wb
  split
  · rw [catS_len]; simp
  · simp
theorem writeR_ok {way : Int} {l : List SegT} (h0 : 0 ≤ way) (h2 : way ≤ 2) (hv : ∀ s ∈ l, vS s = true) (ho : ordered l) (he : endOk way l = true) (hz : (leadOf way).length + (catS l).length ≤ 40000) (hl : l.length ≤ 100) : writeR way l = (0, wb way l) := by
  unfold writeR
  rw [if_neg (by intro h; rcases h with h | h | h; omega; omega; exact h hv), if_neg (fun h => h ho), if_neg (by simp [he]), szL_cat, if_neg (by omega), outS_cat _ _ _ _ (Nat.le_refl _), List.take_length]
  unfold wb
  by_cases h : way = 1
  · simp only [if_pos h, List.append_assoc]
  · simp only [if_neg h, List.append_nil]
theorem writeR_inv {way : Int} {l : List SegT} {c : List Int} (h : writeR way l = (0, c)) : 0 ≤ way ∧ way ≤ 2 ∧ (∀ s ∈ l, vS s = true) ∧ ordered l ∧ endOk way l = true ∧ (leadOf way).length + (catS l).length ≤ 40000 ∧ l.length ≤ 100 ∧ c = wb way l := by
  have h' := h
  unfold writeR at h'
  split at h'
  · exact absurd (congrArg Prod.fst h') (by simp)
  · rename_i h1
    split at h'
    · exact absurd (congrArg Prod.fst h') (by simp)
    · rename_i h2
      split at h'
      · exact absurd (congrArg Prod.fst h') (by simp)
      · rename_i h3
        split at h'
        · exact absurd (congrArg Prod.fst h') (by simp)
        · rename_i h4
          rw [szL_cat] at h4
          have hv : ∀ s ∈ l, vS s = true := Decidable.byContradiction fun hn => h1 (.inr (.inr hn))
          have ho : ordered l := Decidable.byContradiction fun hn => h2 hn
          have he : endOk way l = true := by cases hh : endOk way l with | true => rfl | false => exact absurd hh h3
          have hw := writeR_ok (way := way) (l := l) (by omega) (by omega) hv ho he (by omega) (by omega)
          rw [hw] at h
          exact ⟨by omega, by omega, hv, ho, he, by omega, by omega, (congrArg Prod.snd h).symm⟩
/-- The end stands where it is to. -/
def E9 : List SegT → Prop
  | [] => False
  | s :: r => if s.2.1 = 9 then r = [] else E9 r
theorem e9_iff : ∀ (l : List SegT), (0 < l.length ∧ kd9 l (l.length - 1) ∧ ∀ i, i < l.length - 1 → ¬ kd9 l i) ↔ E9 l
  | [] => by simp [E9]
  | s :: r => by
    have ih := e9_iff r
    unfold E9
    by_cases h9 : s.2.1 = 9
    · rw [if_pos h9]
      constructor
      · rintro ⟨_, _, h⟩
        cases r with
        | nil => rfl
        | cons t r => exact absurd h9 (h 0 (by simp))
      · rintro rfl
        exact ⟨by simp, h9, fun i hi => by simp at hi⟩
    · rw [if_neg h9, ← ih]
      cases r with
      | nil =>
        constructor
        · rintro ⟨_, h, _⟩
          exact absurd h h9
        · rintro ⟨h, _⟩
          simp at h
      | cons t r =>
        constructor
        · rintro ⟨_, h1, h2⟩
          exact ⟨by simp, h1, fun i hi => h2 (i + 1) (by simp at hi ⊢; omega)⟩
        · rintro ⟨_, h1, h2⟩
          refine ⟨by simp, h1, fun i hi => ?_⟩
          cases i with
          | zero => exact h9
          | succ i => exact h2 i (by simp at hi ⊢; omega)
theorem endOk_e9 {way : Int} (hw : way ≠ 2) {l : List SegT} : endOk way l = true ↔ E9 l := by
  unfold endOk
  rw [if_neg hw, decide_eq_true_iff, e9_iff]
theorem sz_ne (v : Int) : (sz v).length ≠ 0 := by rw [sz_hi]; simp
theorem hd_pos (s : SegT) : 0 < (hd s).length := by
  have := sz_ne s.1
  unfold hd hdr
  rw [List.length_append]
  omega
theorem vS_data {n k pg : Int} {refs : List Int} {keep : List Bool} {data data' : List Int} (h : valS n k pg refs keep data = true) (hl : data'.length = data.length) : valS n k pg refs keep data' = true := by
  rw [valS_iff] at h ⊢
  unfold nums at h ⊢
  rw [hl]
  exact h
section
variable {b : List Int}
theorem getH_of (hb : Bytes b) {a : Nat} {s : SegT} (hv : vS s = true) (h : Has b a (hd s)) : getH b (a : Int) = (s.1, s.2.1, s.2.2.1, ((dat s).length : Int), ((a + (hd s).length : Nat) : Int), 0, s.2.2.2.1, s.2.2.2.2.1, []) := by
  have := h.len
  unfold getH
  rw [if_neg (by omega), headG_of hb hv h]
  rfl
theorem getH_inv (hb : Bytes b) {a : Nat} (ha : a ≤ b.length) {n k pg ln q e : Int} {refs : List Int} {keep : List Bool} {data : List Int} (hg : getH b (a : Int) = (n, k, pg, ln, q, e, refs, keep, data)) (he : e = 0) : ∃ dl : Nat, ln = dl ∧ valS n k pg refs keep (List.replicate dl 0) = true ∧ Has b a (hdr n k pg refs keep dl) ∧ q = ((a + (hdr n k pg refs keep dl).length : Nat) : Int) ∧ data = [] := by
  unfold getH at hg
  rw [if_neg (by omega)] at hg
  cases hh : headG b (a : Int) with
  | bad e' =>
    rw [hh] at hg
    have := headG_bad hh
    simp only [outG, Prod.mk.injEq] at hg
    omega
  | ok hd x =>
    rw [hh] at hg
    obtain ⟨n', k', pg', dl, refs', keep', rfl, c1, c2, c3⟩ := headG_inv hb hh
    simp only [outG, Prod.mk.injEq] at hg
    obtain ⟨rfl, rfl, rfl, rfl, rfl, _, rfl, rfl, rfl⟩ := hg
    exact ⟨dl, rfl, c1, c2, c3, rfl⟩
theorem sGo_of (hb : Bytes b) : ∀ (r : List SegT) (m a : Nat) (out : List SegT) (ps : List (Int × Int)), (∀ s ∈ r, vS s = true) → E9 r → Has b a (catS r) → out.length + r.length ≤ 100 → r.length ≤ m → ∃ ps', sGo b m (a : Int) out ps = .inr (((a + (catS r).length : Nat) : Int), out ++ r, ps')
  | [], _, _, _, _, _, h9, _, _, _ => by cases h9
  | s :: r, m, a, out, ps, hv, h9, hh, hl, hm => by
    obtain ⟨m, rfl⟩ : ∃ g, m = g + 1 := ⟨m - 1, by simp at hm; omega⟩
    simp only [List.length_cons] at hl hm
    have h1 : Has b a (hd s) := hh.left.left
    have h2 : Has b (a + (hd s).length) (dat s) := hh.left.right
    have h3 := hh.right
    have l1 := h1.len
    have l2 := h2.len
    have l0 := hd_pos s
    unfold sGo
    rw [if_neg (by omega), if_neg (by omega), getH_of hb (hv s (by simp)) h1]
    dsimp only
    have es : (s.1, s.2.1, s.2.2.1, s.2.2.2.1, s.2.2.2.2.1, ((b.drop ((a + (hd s).length : Nat) : Int).toNat).take ((dat s).length : Int).toNat)) = s := by
      rw [Int.toNat_natCast, Int.toNat_natCast, h2.slice]
    rw [if_neg (by simp), if_neg (by omega), es]
    have ea : (((a + (hd s).length : Nat) : Int) + ((dat s).length : Int)) = ((a + (hd s ++ dat s).length : Nat) : Int) := by rw [List.length_append]; omega
    rw [ea]
    unfold E9 at h9
    by_cases k9 : s.2.1 = 9
    · rw [if_pos k9] at h9 ⊢
      subst h9
      exact ⟨_, by simp [catS]; rfl⟩
    · rw [if_neg k9] at h9 ⊢
      obtain ⟨ps', e⟩ := sGo_of hb r m (a + (hd s ++ dat s).length) (out ++ [s]) (ps ++ [(((a + (hd s).length : Nat) : Int), ((dat s).length : Int))]) (fun t ht => hv t (by simp [ht])) h9 h3 (by rw [List.length_append, List.length_singleton]; omega) (by omega)
      refine ⟨ps', e.trans ?_⟩
      simp only [catS, List.length_append, List.append_assoc, List.singleton_append, Nat.add_assoc]
theorem sGo_inv (hb : Bytes b) : ∀ (m a : Nat) (out : List SegT) (ps : List (Int × Int)) {a' : Int} {l' : List SegT} {ps' : List (Int × Int)}, a ≤ b.length → out.length ≤ 100 → sGo b m (a : Int) out ps = .inr (a', l', ps') → ∃ r, l' = out ++ r ∧ (∀ s ∈ r, vS s = true) ∧ E9 r ∧ Has b a (catS r) ∧ a' = ((a + (catS r).length : Nat) : Int) ∧ l'.length ≤ 100
  | 0, _, _, _, _, _, _, _, _, h => by cases h
  | m + 1, a, out, ps, a', l', ps', ha, hl, h => by
    unfold sGo at h
    split at h
    · cases h
    rename_i hl'
    split at h
    · cases h
    generalize hg : getH b (a : Int) = g at h
    obtain ⟨n, k, pg, ln, q, e, refs, keep, data⟩ := g
    dsimp only at h
    split at h
    · cases h
    rename_i he
    obtain ⟨dl, rfl, c1, c2, rfl, rfl⟩ := getH_inv hb ha hg (by omega)
    split at h
    · cases h
    rename_i hln
    rw [Int.toNat_natCast, Int.toNat_natCast] at h
    have l2 := c2.len
    generalize hd0 : (b.drop (a + (hdr n k pg refs keep dl).length)).take dl = d at h
    have hdl : d.length = dl := by rw [← hd0, List.length_take, List.length_drop]; omega
    have c3 : Has b (a + (hdr n k pg refs keep dl).length) d := by
      refine has_of (by omega) fun i hi => ?_
      subst hd0
      rw [getD_lt hi, getD_lt (by omega)]
      simp
    have ehd : hd ((n, k, pg, refs, keep, d) : SegT) = hdr n k pg refs keep dl := by unfold hd; rw [← hdl]
    have c4 : Has b a (hd ((n, k, pg, refs, keep, d) : SegT) ++ dat ((n, k, pg, refs, keep, d) : SegT)) := by rw [ehd]; exact c2.join c3
    have c5 : vS ((n, k, pg, refs, keep, d) : SegT) = true := vS_data c1 (by simp [hdl])
    have ea : (((a + (hdr n k pg refs keep dl).length : Nat) : Int) + (dl : Int)) = ((a + (hd ((n, k, pg, refs, keep, d) : SegT) ++ dat ((n, k, pg, refs, keep, d) : SegT)).length : Nat) : Int) := by
      rw [List.length_append, ehd]
      simp only [hdl]
      omega
    rw [ea] at h
    split at h
    · rename_i k9
      injection h with h
      simp only [Prod.mk.injEq] at h
      obtain ⟨rfl, rfl, _⟩ := h
      refine ⟨[(n, k, pg, refs, keep, d)], rfl, fun s hs => ?_, ?_, by simpa [catS] using c4, by simp [catS], by simp; omega⟩
      · rw [List.mem_singleton] at hs
        rw [hs]
        exact c5
      · unfold E9
        rw [if_pos k9]
    · rename_i k9
      obtain ⟨r, d1, d2, d3, d4, d5, d6⟩ := sGo_inv hb m _ _ _ c4.len (by simp; omega) h
      refine ⟨(n, k, pg, refs, keep, d) :: r, by rw [d1]; simp, fun s hs => ?_, ?_, c4.join d4, by rw [d5]; simp only [catS, List.length_append]; omega, d6⟩
      · rcases List.mem_cons.1 hs with hs | hs
        · rw [hs]
          exact c5
        · exact d2 s hs
      · unfold E9
        rw [if_neg k9]
        exact d3
theorem eGo_of (hb : Bytes b) : ∀ (r : List SegT) (m a : Nat) (out : List SegT), (∀ s ∈ r, vS s = true) → (∀ s ∈ r, s.2.1 ≠ 9) → Has b a (catS r) → a + (catS r).length = b.length → out.length + r.length ≤ 100 → r.length + 1 ≤ m → eGo b m (a : Int) out = .inr (out ++ r)
  | [], m, a, out, hv, h9, hh, hz, hl, hm => by
    obtain ⟨m, rfl⟩ : ∃ g, m = g + 1 := ⟨m - 1, by simp at hm; omega⟩
    unfold eGo
    simp only [catS, List.length_nil] at hz
    rw [if_neg (by omega), List.append_nil]
  | s :: r, m, a, out, hv, h9, hh, hz, hl, hm => by
    obtain ⟨m, rfl⟩ : ∃ g, m = g + 1 := ⟨m - 1, by simp at hm; omega⟩
    simp only [List.length_cons] at hl hm
    have h1 : Has b a (hd s) := hh.left.left
    have h2 : Has b (a + (hd s).length) (dat s) := hh.left.right
    have h3 := hh.right
    have l1 := h1.len
    have l2 := h2.len
    have l0 := hd_pos s
    unfold eGo
    rw [if_pos (by omega), if_neg (by omega), getH_of hb (hv s (by simp)) h1]
    dsimp only
    have es : (s.1, s.2.1, s.2.2.1, s.2.2.2.1, s.2.2.2.2.1, ((b.drop ((a + (hd s).length : Nat) : Int).toNat).take ((dat s).length : Int).toNat)) = s := by
      rw [Int.toNat_natCast, Int.toNat_natCast, h2.slice]
    have ea : (((a + (hd s).length : Nat) : Int) + ((dat s).length : Int)) = ((a + (hd s ++ dat s).length : Nat) : Int) := by rw [List.length_append]; omega
    rw [if_neg (by simp), if_neg (h9 s (by simp)), if_neg (by omega), es, ea]
    have e := eGo_of hb r m (a + (hd s ++ dat s).length) (out ++ [s]) (fun t ht => hv t (by simp [ht])) (fun t ht => h9 t (by simp [ht])) h3 (by rw [← hz]; simp only [catS, List.length_append]; omega) (by rw [List.length_append, List.length_singleton]; omega) (by omega)
    rw [e]
    simp
/-! ### Headers first -/
def bare (s : SegT) : SegT := (s.1, s.2.1, s.2.2.1, s.2.2.2.1, s.2.2.2.2.1, [])
def lenD (s : SegT) : Int := ((dat s).length : Int)
theorem hGo_of (hb : Bytes b) : ∀ (r : List SegT) (m a : Nat) (out : List SegT) (ms : List Int), (∀ s ∈ r, vS s = true) → E9 r → Has b a (catH r) → out.length + r.length ≤ 100 → r.length ≤ m → hGo b m (a : Int) out ms = .inr (((a + (catH r).length : Nat) : Int), out ++ r.map bare, ms ++ r.map lenD)
  | [], _, _, _, _, _, h9, _, _, _ => by cases h9
  | s :: r, m, a, out, ms, hv, h9, hh, hl, hm => by
    obtain ⟨m, rfl⟩ : ∃ g, m = g + 1 := ⟨m - 1, by simp at hm; omega⟩
    simp only [List.length_cons] at hl hm
    have h1 : Has b a (hd s) := hh.left
    have h3 := hh.right
    have l1 := h1.len
    have l0 := hd_pos s
    unfold hGo
    rw [if_neg (by omega), if_neg (by omega), getH_of hb (hv s (by simp)) h1]
    dsimp only
    rw [if_neg (by simp)]
    unfold E9 at h9
    by_cases k9 : s.2.1 = 9
    · rw [if_pos k9] at h9 ⊢
      subst h9
      simp [catH, bare, lenD]
    · rw [if_neg k9] at h9 ⊢
      have e := hGo_of hb r m (a + (hd s).length) (out ++ [bare s]) (ms ++ [lenD s]) (fun t ht => hv t (by simp [ht])) h9 h3 (by rw [List.length_append, List.length_singleton]; omega) (by omega)
      refine e.trans ?_
      simp only [catH, List.length_append, List.append_assoc, List.singleton_append, Nat.add_assoc, List.map_cons]
theorem hGo_inv (hb : Bytes b) : ∀ (m a : Nat) (out : List SegT) (ms : List Int) {a' : Int} {l' : List SegT} {ms' : List Int}, a ≤ b.length → out.length ≤ 100 → hGo b m (a : Int) out ms = .inr (a', l', ms') → ∃ r, l' = out ++ r.map bare ∧ ms' = ms ++ r.map lenD ∧ (∀ s ∈ r, vS s = true) ∧ E9 r ∧ Has b a (catH r) ∧ a' = ((a + (catH r).length : Nat) : Int) ∧ out.length + r.length ≤ 100
  | 0, _, _, _, _, _, _, _, _, h => by cases h
  | m + 1, a, out, ms, a', l', ms', ha, hl, h => by
    unfold hGo at h
    split at h
    · cases h
    rename_i hl'
    split at h
    · cases h
    generalize hg : getH b (a : Int) = g at h
    obtain ⟨n, k, pg, ln, q, e, refs, keep, data⟩ := g
    dsimp only at h
    split at h
    · cases h
    rename_i he
    obtain ⟨dl, rfl, c1, c2, rfl, rfl⟩ := getH_inv hb ha hg (by omega)
    have ehd : hd ((n, k, pg, refs, keep, List.replicate dl 0) : SegT) = hdr n k pg refs keep dl := by unfold hd; simp
    have c5 : vS ((n, k, pg, refs, keep, List.replicate dl 0) : SegT) = true := c1
    rw [← ehd] at c2 h
    have el : lenD ((n, k, pg, refs, keep, List.replicate dl 0) : SegT) = (dl : Int) := by unfold lenD dat; simp only [List.length_replicate]
    split at h
    · rename_i k9
      injection h with h
      simp only [Prod.mk.injEq] at h
      obtain ⟨rfl, rfl, rfl⟩ := h
      refine ⟨[(n, k, pg, refs, keep, List.replicate dl 0)], rfl, by simp [el], fun s hs => ?_, ?_, by simpa [catH] using c2, by simp [catH], by simp; omega⟩
      · rw [List.mem_singleton] at hs
        rw [hs]
        exact c5
      · unfold E9
        rw [if_pos k9]
    · rename_i k9
      obtain ⟨r, d1, d2, d3, d4, d5, d6, d7⟩ := hGo_inv hb m _ _ _ c2.len (by simp; omega) h
      refine ⟨(n, k, pg, refs, keep, List.replicate dl 0) :: r, by rw [d1]; simp [bare], by rw [d2]; simp [el], fun s hs => ?_, ?_, c2.join d5, by rw [d6]; simp only [catH, List.length_append]; omega, by simp at d7 ⊢; omega⟩
      · rcases List.mem_cons.1 hs with hs | hs
        · rw [hs]
          exact c5
        · exact d3 s hs
      · unfold E9
        rw [if_neg k9]
        exact d4
theorem dGo_of : ∀ (r : List SegT) (a : Nat) (out : List SegT) (ps : List (Int × Int)), Has b a (catD r) → ∃ ps', dGo b ((r.map bare).zip (r.map lenD)) (a : Int) out ps = .inr (((a + (catD r).length : Nat) : Int), out ++ r, ps')
  | [], a, out, ps, h => ⟨ps, by simp [dGo, catD]⟩
  | s :: r, a, out, ps, h => by
    have h2 : Has b a (dat s) := h.left
    have l2 := h2.len
    have es : withD b (bare s) (a : Int) (lenD s) = s := by
      unfold withD bare lenD
      simp only
      rw [Int.toNat_natCast, Int.toNat_natCast, h2.slice]
    have ea : ((a : Int) + lenD s) = ((a + (dat s).length : Nat) : Int) := rfl
    simp only [List.map_cons, List.zip_cons_cons, dGo]
    rw [if_neg (by unfold lenD; omega), es, ea]
    obtain ⟨ps', e⟩ := dGo_of r (a + (dat s).length) (out ++ [s]) (ps ++ [((a : Int), lenD s)]) h.right
    refine ⟨ps', e.trans ?_⟩
    simp only [catD, List.length_append, List.append_assoc, List.singleton_append, Nat.add_assoc]
theorem dGo_inv : ∀ (r : List SegT) (a : Nat) (out : List SegT) (ps : List (Int × Int)) {a' : Int} {l' : List SegT} {ps' : List (Int × Int)}, a ≤ b.length → dGo b ((r.map bare).zip (r.map lenD)) (a : Int) out ps = .inr (a', l', ps') → ∃ r', l' = out ++ r' ∧ catH r' = catH r ∧ (E9 r → E9 r') ∧ ((∀ s ∈ r, vS s = true) → ∀ s ∈ r', vS s = true) ∧ r'.length = r.length ∧ Has b a (catD r') ∧ a' = ((a + (catD r').length : Nat) : Int)
  | [], a, out, ps, a', l', ps', ha, h => by
    simp only [List.map_nil, List.zip_nil_left, dGo] at h
    injection h with h
    simp only [Prod.mk.injEq] at h
    obtain ⟨rfl, rfl, rfl⟩ := h
    exact ⟨[], by simp, rfl, fun h => h, fun h => h, rfl, has_nil ha, by simp [catD]⟩
  | s :: r, a, out, ps, a', l', ps', ha, h => by
    simp only [List.map_cons, List.zip_cons_cons, dGo] at h
    split at h
    · cases h
    rename_i hln
    generalize hd0 : withD b (bare s) (a : Int) (lenD s) = t at h
    have ht : t = (s.1, s.2.1, s.2.2.1, s.2.2.2.1, s.2.2.2.2.1, (b.drop a).take (dat s).length) := by
      rw [← hd0]
      unfold withD bare lenD
      simp only
      rw [Int.toNat_natCast, Int.toNat_natCast]
    unfold lenD at hln
    have hdl : (dat t).length = (dat s).length := by rw [ht]; show ((b.drop a).take (dat s).length).length = _; rw [List.length_take, List.length_drop]; omega
    have c3 : Has b a (dat t) := by
      refine has_of (by rw [hdl]; omega) fun i hi => ?_
      rw [getD_lt hi, getD_lt (by omega)]
      have e : dat t = (b.drop a).take (dat s).length := by rw [ht]
      simp only [e, List.getElem_take, List.getElem_drop]
    have ehd : hd t = hd s := by unfold hd; rw [show t.2.2.2.2.2.length = s.2.2.2.2.2.length from hdl, ht]
    have ea : ((a : Int) + lenD s) = ((a + (dat t).length : Nat) : Int) := by rw [hdl]; rfl
    rw [ea] at h
    obtain ⟨r', d1, d2, d3, d4, d5, d6, d7⟩ := dGo_inv r _ _ _ c3.len h
    have k9 : t.2.1 = s.2.1 := by rw [ht]
    have hvt : vS s = true → vS t = true := fun hv => by
      have := vS_data hv (data' := dat t) hdl
      rw [ht] at this ⊢
      exact this
    refine ⟨t :: r', by rw [d1]; simp, by simp only [catH]; rw [ehd, d2], fun h9 => ?_, fun hv u hu => ?_, by simp [d5], c3.join d6, by rw [d7]; simp only [catD, List.length_append]; omega⟩
    · unfold E9 at h9 ⊢
      rw [k9]
      by_cases h : s.2.1 = 9
      · rw [if_pos h] at h9 ⊢
        subst h9
        exact List.eq_nil_of_length_eq_zero d5
      · rw [if_neg h] at h9 ⊢
        exact d3 h9
    · rcases List.mem_cons.1 hu with hu | hu
      · rw [hu]
        exact hvt (hv s (by simp))
      · exact d4 (fun x hx => hv x (by simp [hx])) u hu
theorem rGo_of (hb : Bytes b) {r : List SegT} (hv : ∀ s ∈ r, vS s = true) (h9 : E9 r) (hh : Has b 5 (catH r ++ catD r)) (hl : r.length ≤ 100) : ∃ ps', rGo b = .inr (((5 + (catS r).length : Nat) : Int), r, ps') := by
  unfold rGo
  have e := hGo_of hb r 101 5 [] [] hv h9 hh.left (by simpa using hl) (by omega)
  rw [show ((5 : Nat) : Int) = 5 from rfl] at e
  rw [e]
  simp only [List.nil_append]
  obtain ⟨ps', e2⟩ := dGo_of r (5 + (catH r).length) [] [] hh.right
  exact ⟨ps', e2.trans (by rw [catS_len]; simp only [List.nil_append, Nat.add_assoc])⟩
theorem rGo_inv (hb : Bytes b) (h5 : 5 ≤ b.length) {a' : Int} {l' : List SegT} {ps' : List (Int × Int)} (h : rGo b = .inr (a', l', ps')) : (∀ s ∈ l', vS s = true) ∧ E9 l' ∧ Has b 5 (catH l' ++ catD l') ∧ a' = ((5 + (catS l').length : Nat) : Int) ∧ l'.length ≤ 100 := by
  unfold rGo at h
  cases hg : hGo b 101 5 [] [] with
  | inl e => rw [hg] at h; cases h
  | inr v =>
    obtain ⟨a, l, ms⟩ := v
    rw [hg] at h
    obtain ⟨r, rfl, rfl, d3, d4, d5, rfl, d7⟩ := hGo_inv hb 101 5 [] [] h5 (by simp) hg
    simp only [List.nil_append] at h
    obtain ⟨r', e1, e2, e3, e4, e5, e6, e7⟩ := dGo_inv r _ _ _ d5.len h
    rw [List.nil_append] at e1
    subst e1
    rw [← e2] at d5 e6 e7
    refine ⟨e4 d3, e3 d4, d5.join e6, by rw [e7, catS_len]; omega, by simp at d7; omega⟩
end
/-! ### Files -/
def rd (b : List Int) : Int ⊕ (Int × List SegT × List (Int × Int)) :=
  if b.length > 40000 then .inl 4
  else if b.length < 5 ∨ b.take 4 ≠ [73, 78, 67, 49] ∨ b.getD 4 0 > 1 then .inl 3
  else match (if b.getD 4 0 = 1 then rGo b else sGo b 101 5 [] []) with
    | .inl e => .inl e
    | .inr (a, l, ps) => if a < b.length then .inl 60 else if ordered l then .inr (b.getD 4 0, l, ps) else .inl 40
theorem rd_of {way : Int} {l : List SegT} {c : List Int} (hb : Bytes c) (hw : way ≤ 1) (h : writeR way l = (0, c)) : ∃ ps, rd c = .inr (way, l, ps) := by
  obtain ⟨a1, a2, a3, a4, a5, a6, a7, rfl⟩ := writeR_inv h
  have h9 := (endOk_e9 (by omega)).1 a5
  have el : leadOf way = [73, 78, 67, 49, way] := if_neg (by omega)
  have hlen := wb_len (way := way) (l := l)
  rw [el] at a6 hlen
  simp only [List.length_cons, List.length_nil] at a6 hlen
  have hH : Has (wb way l) 5 (if way = 1 then catH l ++ catD l else catS l) := ⟨[73, 78, 67, 49, way], [], by unfold wb; rw [el, List.append_nil], rfl⟩
  have e4 : (wb way l).getD 4 0 = way := by unfold wb; rw [el]; rfl
  have e3 : (wb way l).take 4 = [73, 78, 67, 49] := by unfold wb; rw [el]; rfl
  unfold rd
  rw [if_neg (by omega), if_neg (by rw [e3, e4]; intro h; rcases h with h | h | h; omega; exact h rfl; omega), e4]
  by_cases h1 : way = 1
  · rw [if_pos h1] at hH ⊢
    obtain ⟨ps, e⟩ := rGo_of hb a3 h9 hH a7
    rw [e]
    dsimp only
    rw [if_neg (by omega), if_pos a4]
    exact ⟨ps, rfl⟩
  · rw [if_neg h1] at hH ⊢
    obtain ⟨ps, e⟩ := sGo_of hb l 101 5 [] [] a3 h9 hH (by simpa using a7) (by omega)
    rw [show ((5 : Nat) : Int) = 5 from rfl] at e
    rw [e]
    dsimp only
    rw [if_neg (by omega), List.nil_append, if_pos a4]
    exact ⟨ps, rfl⟩
theorem has_all {b x : List Int} {p : Nat} (h : Has b p x) (hl : p + x.length = b.length) : b = b.take p ++ x := by
  obtain ⟨pre, post, e, hp⟩ := h
  subst hp
  have : post = [] := List.eq_nil_of_length_eq_zero (by rw [e] at hl; simp only [List.length_append] at hl; omega)
  subst this
  rw [e]
  simp
theorem rd_inv {b : List Int} (hb : Bytes b) {way : Int} {l : List SegT} {ps : List (Int × Int)} (h : rd b = .inr (way, l, ps)) : (way = 0 ∨ way = 1) ∧ (∀ w, w = 0 ∨ w = 1 → writeR w l = (0, wb w l)) ∧ b = wb way l := by
  unfold rd at h
  split at h
  · cases h
  rename_i h1
  split at h
  · cases h
  rename_i h2
  have h4 := hb.get 4
  have e3 : b.take 4 = [73, 78, 67, 49] := Decidable.byContradiction fun hn => h2 (.inr (.inl hn))
  have e5 : b.take 5 = [73, 78, 67, 49, b.getD 4 0] := by
    rw [List.take_succ_eq_append_getElem (show 4 < b.length by omega), e3, getD_lt (show 4 < b.length by omega)]
    rfl
  have key : ∀ {a : Int} {l' : List SegT} {X : List Int}, (∀ s ∈ l', vS s = true) → E9 l' → Has b 5 X → X.length = (catS l').length → a = ((5 + (catS l').length : Nat) : Int) → l'.length ≤ 100 → ¬ a < b.length → ordered l' → (∀ w, w = 0 ∨ w = 1 → writeR w l' = (0, wb w l')) ∧ b = [73, 78, 67, 49, b.getD 4 0] ++ X := by
    intro a l' X k1 k2 k3 k4 k5 k6 k7 k8
    have k9 := k3.len
    refine ⟨fun w hw => writeR_ok (by omega) (by omega) k1 k8 ((endOk_e9 (by omega)).2 k2) ?_ k6, ?_⟩
    · rw [show leadOf w = [73, 78, 67, 49, w] from if_neg (by omega)]
      simp only [List.length_cons, List.length_nil]
      omega
    · rw [← e5]
      exact has_all k3 (by omega)
  have eq : ∀ w : Int, w = 0 ∨ w = 1 → leadOf w = [73, 78, 67, 49, w] := fun w hw => if_neg (by omega)
  by_cases hw : b.getD 4 0 = 1
  · rw [if_pos hw] at h
    cases hr : rGo b with
    | inl e => rw [hr] at h; cases h
    | inr v =>
      obtain ⟨a, l', ps'⟩ := v
      rw [hr] at h
      dsimp only at h
      split at h
      · cases h
      rename_i ha
      by_cases ho : ordered l'
      rotate_left
      · rw [if_neg ho] at h
        cases h
      rw [if_pos ho] at h
      injection h with h
      simp only [Prod.mk.injEq] at h
      obtain ⟨rfl, rfl, rfl⟩ := h
      obtain ⟨c1, c2, c3, c4, c5⟩ := rGo_inv hb (by omega) hr
      obtain ⟨k1, k2⟩ := key c1 c2 c3 (by rw [catS_len]; simp) c4 c5 ha ho
      refine ⟨.inr hw, k1, ?_⟩
      rw [wb, eq _ (.inr hw), if_pos hw]
      exact k2
  · rw [if_neg hw] at h
    cases hr : sGo b 101 5 [] [] with
    | inl e => rw [hr] at h; cases h
    | inr v =>
      obtain ⟨a, l', ps'⟩ := v
      rw [hr] at h
      dsimp only at h
      split at h
      · cases h
      rename_i ha
      by_cases ho : ordered l'
      rotate_left
      · rw [if_neg ho] at h
        cases h
      rw [if_pos ho] at h
      injection h with h
      simp only [Prod.mk.injEq] at h
      obtain ⟨rfl, rfl, rfl⟩ := h
      obtain ⟨r, c1, c2, c3, c4, c5, c6⟩ := sGo_inv hb 101 5 [] [] (by omega) (by simp) hr
      rw [List.nil_append] at c1
      subst c1
      have hw0 : b.getD 4 0 = 0 := by omega
      obtain ⟨k1, k2⟩ := key c2 c3 c4 rfl c5 c6 ha ho
      refine ⟨.inl hw0, k1, ?_⟩
      rw [wb, eq _ (.inl hw0), if_neg hw]
      exact k2
end Go.Proofs.Ytihfgpfofmjbaaa.Fr

set_option linter.unusedVariables false
set_option linter.unusedSimpArgs false
namespace Go.Proofs.Ytihfgpfofmjbaaa.Fr
open Go Ev Bm Seg

theorem nums_inj {a b : List Int} (ha : ∀ v ∈ a, 0 ≤ v ∧ v ≤ 255) (hb : ∀ v ∈ b, 0 ≤ v ∧ v ≤ 255) (h : ((strOfNums a).toList == (strOfNums b).toList) = true) : a = b := by
  have h := eq_of_beq h
  rw [ByteArray.toList_eq, ByteArray.toList_eq, strOfNums_data, strOfNums_data] at h
  have e : ∀ l : List Int, (∀ v ∈ l, 0 ≤ v ∧ v ≤ 255) → (l.map fun n => UInt8.ofNat n.toNat).map (fun u => (u.toNat : Int)) = l := by
    intro l hl
    rw [List.map_map]
    conv => rhs; rw [← List.map_id l]
    apply List.map_congr_left
    intro v hv
    have := hl v hv
    simp [UInt8.toNat_ofNat']
    omega
  rw [← e a ha, h, e b hb]
theorem loOf_none : loOf none = 0 := rfl
theorem lead_eq : ByteArray.mk #[(73 : UInt8), (78 : UInt8), (67 : UInt8), (49 : UInt8)] = strOfNums [73, 78, 67, 49] := by rfl
theorem lead_byte : ∀ v ∈ ([73, 78, 67, 49] : List Int), 0 ≤ v ∧ v ≤ 255 := by decide
theorem vS_short {s : SegT} (h : vS s = true) : Short s := by
  obtain ⟨⟨v1, v2, v3, v4, v5, v6, v7, v8, v9⟩, va⟩ := valS_iff.1 h
  exact ⟨by omega, by omega, by omega⟩
section
variable {fl : Nat} {b : List Int}
def PkOk (k0 : RK → Option Ans) (x : Option Ans) : Int ⊕ (Int × List SegT × List (Int × Int)) → Prop
  | .inl e => e ≠ 0 ∧ ∃ w a' l' h' p', x = k0 (w, e, a', l', h', p')
  | .inr (way, l, ps) => ∃ h', x = k0 (way, 0, 0, l, h', ps)
theorem rtail_ok (hfl : 9223372036854775808 ≤ fl) {w a : Int} {l : List SegT} (hv : ∀ s ∈ l, vS s = true) (hl : l.length ≤ 100) {hs : List Int} (hhs : hs.length = l.length) {ps : List (Int × Int)} {k0 : RK → Option Ans} :
    PkOk k0 (bif decide (a < (b.length : Int)) then F_ref14_Parsed_failed_6fe fl a 60 w 0 0 l hs ps k0 else F_ref14_Parsed_ordered_775 fl w 0 0 l hs ps k0) (if a < b.length then .inl 60 else if ordered l then .inr (w, l, ps) else .inl 40) := by
  unfold F_ref14_Parsed_ordered_775 Fg_ref14_Parsed_ordered_775 F_ref14_Parsed_failed_6fe
  have hsh : ∀ s ∈ l, Short s := fun s h => vS_short (hv s h)
  by_cases ha : a < b.length
  · rw [if_pos ha, dec_t ha]
    exact ⟨by decide, _, _, _, _, _, rfl⟩
  rw [if_neg ha, dec_f ha]
  by_cases ho : ordered l
  · rw [if_pos ho, (in_all hfl (by omega) hsh ho).2]
    exact ⟨hs, rfl⟩
  · rw [if_neg ho]
    obtain ⟨j, j1, _, _, j4⟩ := in_bad hfl (by omega) hsh ho
    rw [(j4 _).2]
    dsimp only
    rw [cond_t (b := (40 : Int) != 0) rfl, dec_t (by omega)]
    exact ⟨by decide, _, _, _, _, _, rfl⟩
theorem parse_ok (hfl : 9223372036854775808 ≤ fl) (hb : Bytes b) (hbl : b.length ≤ 100000) {k0 : RK → Option Ans} : PkOk k0 (F_ref14_Parse fl b k0) (rd b) := by
  unfold F_ref14_Parse Fg_ref14_Parse rd
  by_cases h1 : b.length > 40000
  · rw [if_pos h1, dec_t (by omega)]
    unfold F_ref14_Parsed_failed_6fe
    exact ⟨by decide, _, _, _, _, _, rfl⟩
  rw [if_neg h1, dec_f (by omega)]
  by_cases h2 : b.length < 5
  · rw [if_pos (.inl h2), dec_t (by omega)]
    unfold F_ref14_Parsed_failed_6fe
    exact ⟨by decide, _, _, _, _, _, rfl⟩
  rw [dec_f (by omega), dec_t (by simp only [loOf_none, hiOf_some]; omega)]
  have ecut : List.take (hiOf (some 4) (b.length : Int) - loOf none).toNat (List.drop (loOf none).toNat b) = b.take 4 := by
    simp only [loOf_none, hiOf_some]
    rfl
  rw [ecut, lead_eq]
  by_cases h3 : b.take 4 = [73, 78, 67, 49]
  rotate_left
  · rw [if_pos (.inr (.inl h3)), cond_t]
    · unfold F_ref14_Parsed_failed_6fe
      exact ⟨by decide, _, _, _, _, _, rfl⟩
    · cases hh : (strOfNums (b.take 4)).toList == (strOfNums [73, 78, 67, 49]).toList with
      | false => rfl
      | true => exact absurd (nums_inj (fun v hv => hb.2 v (List.mem_of_mem_take hv)) lead_byte hh) h3
  have h4 := hb.get 4
  rw [h3, cond_f (by simp), dec_t (by omega), show (4 : Int).toNat = 4 from rfl]
  by_cases h5 : b.getD 4 0 > 1
  · rw [if_pos (.inr (.inr h5)), dec_t h5]
    unfold F_ref14_Parsed_failed_6fe
    exact ⟨by decide, _, _, _, _, _, rfl⟩
  rw [if_neg (by intro h; rcases h with h | h | h; exact h2 h; exact h rfl; exact h5 h), dec_f h5, dec_t (by omega), wrap64 (by omega) (by omega)]
  unfold L_ref14_Parse_1 L_ref14_Parse_3
  by_cases hw : b.getD 4 0 = 1
  · rw [if_pos hw, hw]
    have U := fun bb : PB → Option Ans => uloop (fl := fl) (rt := fun v : RK => k0 v) (bb := bb) hfl hb 101 (a := 5) (l := []) (hs := []) (ms := []) (f := fl) (by simp) (by simp) rfl rfl (by simp) (by omega)
    unfold rGo
    generalize hh : hGo b 101 5 [] [] = H at U
    cases H with
    | inl e =>
      obtain ⟨he, w, a', l', h', p', hx⟩ := U _
      refine ⟨he, w, a', l', h', p', ?_⟩
      exact hx
    | inr v =>
      obtain ⟨a, l, ms⟩ := v
      obtain ⟨u1, u2, u3, u4, u5⟩ := hGo_ok hfl hb hh
      obtain ⟨_, _, _, _, _, h', v2, hx⟩ := U _
      refine Eq.mpr (congrArg (fun x => PkOk k0 x _) hx) ?_
      dsimp only
      have e1 : (l.zip ms).map (·.1) = l := List.map_fst_zip (by omega)
      have e2 : (l.zip ms).map (·.2) = ms := List.map_snd_zip (by omega)
      have e3 : (l.zip ms).map (fun x => ((0 : Int), x.2)) = ms.map fun ln => ((0 : Int), ln) := by
        conv => rhs; rw [← e2]
        rw [List.map_map]
        rfl
      have W := fun bb : PB → Option Ans => wloop (fl := fl) (rt := fun v : RK => k0 v) (bb := bb) (hs := h') hfl hbl (l.zip ms) (a := a) (out := []) (ps := []) (f := fl) rfl (by rw [List.length_zip]; simp; omega) u1 u2 (fun x hx => u5 x.2 (by rw [← e2]; exact List.mem_map_of_mem hx)) (by rw [List.length_zip]; omega)
      rw [List.nil_append, List.nil_append, e1, e3] at W
      generalize hd : dGo b (l.zip ms) a [] [] = R at W
      cases R with
      | inl e =>
        obtain ⟨he, w, a', l', h', p', hy⟩ := W _
        exact ⟨he, w, a', l', h', p', hy⟩
      | inr w =>
        obtain ⟨a', l', ps'⟩ := w
        have hr : rGo b = .inr (a', l', ps') := by
          unfold rGo
          rw [hh]
          exact hd
        obtain ⟨c1, c2, c3, c4, c5⟩ := rGo_inv hb (by omega) hr
        have hlen : h'.length = l'.length := by
          have := dGo_len _ hd
          rw [List.length_zip] at this
          simp at this
          omega
        refine Eq.mpr (congrArg (fun x => PkOk k0 x _) (W _)) ?_
        exact rtail_ok hfl c1 (by omega) hlen
  · have hw0 : b.getD 4 0 = 0 := by omega
    rw [if_neg hw, hw0]
    have T := fun bb : PB → Option Ans => tloop (fl := fl) (rt := fun v : RK => k0 v) (bb := bb) hfl hb hbl 101 (a := 5) (l := []) (hs := []) (ps := []) (f := fl) (by simp) (by simp) rfl rfl (by omega)
    generalize hh : sGo b 101 5 [] [] = H at T
    cases H with
    | inl e =>
      obtain ⟨he, w, a', l', h', p', hx⟩ := T _
      exact ⟨he, w, a', l', h', p', hx⟩
    | inr v =>
      obtain ⟨a, l, ps⟩ := v
      obtain ⟨h', v2, hx⟩ := T _
      obtain ⟨r, c1, c2, c3, c4, c5, c6⟩ := sGo_inv hb 101 5 [] [] (by omega) (by simp) hh
      rw [List.nil_append] at c1
      subst c1
      refine Eq.mpr (congrArg (fun x => PkOk k0 x _) hx) ?_
      dsimp only
      obtain ⟨f, hf⟩ : ∃ f, fl = f + 1 := ⟨fl - 1, by omega⟩
      have e3 : ∀ {rt : RK → Option Ans} {bb : PB → Option Ans}, iter (S_ref14_Parse_3 fl) fl (b, a, 0, 0, 0, 0, l, h', ps) (rt, bb) = bb (b, a, 0, 0, 0, l, h', ps) := by
        intro rt bb
        conv => lhs; arg 2; rw [hf]
        simp only [iter, S_ref14_Parse_3, Sg_ref14_Parse_3]
        rw [cond_f (b := (0 : Int) == 1) rfl]
      rw [e3]
      exact rtail_ok hfl c2 (by omega) v2
end
end Go.Proofs.Ytihfgpfofmjbaaa.Fr

set_option linter.unusedVariables false
set_option linter.unusedSimpArgs false
namespace Go.Proofs.Ytihfgpfofmjbaaa.Fr
open Go Ev Bm Seg
section
variable {b : List Int}
theorem sGo_ps (hb : Bytes b) : ∀ (m a : Nat) (out : List SegT) (ps : List (Int × Int)) {a' : Int} {l' : List SegT} {ps' : List (Int × Int)}, a ≤ b.length → ps.map (·.2) = out.map lenD → sGo b m (a : Int) out ps = .inr (a', l', ps') → ps'.map (·.2) = l'.map lenD
  | 0, _, _, _, _, _, _, _, _, h => by cases h
  | m + 1, a, out, ps, a', l', ps', ha, hp, h => by
    unfold sGo at h
    split at h
    · cases h
    split at h
    · cases h
    generalize hg : getH b (a : Int) = g at h
    obtain ⟨n, k, pg, ln, q, e, refs, keep, data⟩ := g
    dsimp only at h
    split at h
    · cases h
    rename_i he
    obtain ⟨dl, rfl, c1, c2, rfl, rfl⟩ := getH_inv hb ha hg (by omega)
    split at h
    · cases h
    rename_i hln
    rw [Int.toNat_natCast, Int.toNat_natCast] at h
    have l2 := c2.len
    generalize hd0 : (b.drop (a + (hdr n k pg refs keep dl).length)).take dl = d at h
    have hdl : d.length = dl := by rw [← hd0, List.length_take, List.length_drop]; omega
    have hp' : (ps ++ [(((a + (hdr n k pg refs keep dl).length : Nat) : Int), (dl : Int))]).map (·.2) = (out ++ [((n, k, pg, refs, keep, d) : SegT)]).map lenD := by
      rw [List.map_append, List.map_append, hp]
      simp only [List.map_cons, List.map_nil, lenD, dat, hdl]
    have ea : (((a + (hdr n k pg refs keep dl).length : Nat) : Int) + (dl : Int)) = ((a + (hdr n k pg refs keep dl).length + dl : Nat) : Int) := rfl
    rw [ea] at h
    split at h
    · injection h with h
      simp only [Prod.mk.injEq] at h
      obtain ⟨_, rfl, rfl⟩ := h
      exact hp'
    · exact sGo_ps hb m _ _ _ (by omega) hp' h
theorem dGo_ps : ∀ (r : List SegT) (a : Nat) (out : List SegT) (ps : List (Int × Int)) {a' : Int} {l' : List SegT} {ps' : List (Int × Int)}, a ≤ b.length → ps.map (·.2) = out.map lenD → dGo b ((r.map bare).zip (r.map lenD)) (a : Int) out ps = .inr (a', l', ps') → ps'.map (·.2) = l'.map lenD
  | [], a, out, ps, a', l', ps', ha, hp, h => by
    simp only [List.map_nil, List.zip_nil_left, dGo] at h
    injection h with h
    simp only [Prod.mk.injEq] at h
    obtain ⟨_, rfl, rfl⟩ := h
    exact hp
  | s :: r, a, out, ps, a', l', ps', ha, hp, h => by
    simp only [List.map_cons, List.zip_cons_cons, dGo] at h
    split at h
    · cases h
    rename_i hln
    unfold lenD at hln
    have hdl : (dat (withD b (bare s) (a : Int) (lenD s))).length = (dat s).length := by
      unfold withD bare lenD dat
      simp only
      rw [Int.toNat_natCast, Int.toNat_natCast, List.length_take, List.length_drop]
      unfold dat at hln
      omega
    have hp' : (ps ++ [((a : Int), lenD s)]).map (·.2) = (out ++ [withD b (bare s) (a : Int) (lenD s)]).map lenD := by
      rw [List.map_append, List.map_append, hp]
      simp only [List.map_cons, List.map_nil]
      congr 2
      unfold lenD
      unfold lenD at hdl
      rw [hdl]
    have ea : ((a : Int) + lenD s) = ((a + (dat s).length : Nat) : Int) := rfl
    rw [ea] at h
    exact dGo_ps r _ _ _ (by omega) hp' h
theorem rGo_ps (hb : Bytes b) (h5 : 5 ≤ b.length) {a' : Int} {l' : List SegT} {ps' : List (Int × Int)} (h : rGo b = .inr (a', l', ps')) : ps'.map (·.2) = l'.map lenD := by
  unfold rGo at h
  cases hg : hGo b 101 5 [] [] with
  | inl e => rw [hg] at h; cases h
  | inr v =>
    obtain ⟨a, l, ms⟩ := v
    rw [hg] at h
    obtain ⟨r, rfl, rfl, d3, d4, d5, rfl, d7⟩ := hGo_inv hb 101 5 [] [] h5 (by simp) hg
    simp only [List.nil_append] at h
    exact dGo_ps r _ _ _ d5.len rfl h
end
theorem rd_ps {b : List Int} (hb : Bytes b) {way : Int} {l : List SegT} {ps : List (Int × Int)} (h : rd b = .inr (way, l, ps)) : ps.map (·.2) = l.map lenD ∧ l.length ≤ 100 ∧ ∀ s ∈ l, Short s := by
  have hi := rd_inv hb h
  have hw := writeR_inv (hi.2.1 0 (.inl rfl))
  refine ⟨?_, hw.2.2.2.2.2.2.1, fun s hs => vS_short (hw.2.2.1 s hs)⟩
  unfold rd at h
  split at h
  · cases h
  split at h
  · cases h
  rename_i h2
  by_cases h1 : b.getD 4 0 = 1
  · rw [if_pos h1] at h
    cases hr : rGo b with
    | inl e => rw [hr] at h; cases h
    | inr v =>
      obtain ⟨a, l', ps'⟩ := v
      rw [hr] at h
      dsimp only at h
      split at h
      · cases h
      by_cases ho : ordered l'
      rotate_left
      · rw [if_neg ho] at h
        cases h
      rw [if_pos ho] at h
      injection h with h
      simp only [Prod.mk.injEq] at h
      obtain ⟨_, rfl, rfl⟩ := h
      exact rGo_ps hb (by omega) hr
  · rw [if_neg h1] at h
    cases hr : sGo b 101 5 [] [] with
    | inl e => rw [hr] at h; cases h
    | inr v =>
      obtain ⟨a, l', ps'⟩ := v
      rw [hr] at h
      dsimp only at h
      split at h
      · cases h
      by_cases ho : ordered l'
      rotate_left
      · rw [if_neg ho] at h
        cases h
      rw [if_pos ho] at h
      injection h with h
      simp only [Prod.mk.injEq] at h
      obtain ⟨_, rfl, rfl⟩ := h
      exact sGo_ps hb 101 5 [] [] (by omega) rfl hr
end Go.Proofs.Ytihfgpfofmjbaaa.Fr

set_option linter.unusedVariables false
set_option linter.unusedSimpArgs false
namespace Go.Proofs.Ytihfgpfofmjbaaa.Fr
open Go Ev Bm Seg

theorem ext_toList (s : ByteArray) (n : Nat) : (s.extract 0 n).toList = s.toList.take n := by
  rw [ByteArray.toList_eq, ByteArray.toList_eq, ByteArray.data_extract, Array.toList_extract]
  simp [List.extract]
theorem nums_size (l : List Int) : (strOfNums l).size = l.length := by
  have : (strOfNums l).data.toList.length = l.length := by rw [strOfNums_data, List.length_map]
  rw [← this]
  rfl
section
variable {fl : Nat} {b : List Int}
theorem prefix_ok (hb : Bytes b) (h5 : 5 ≤ b.length) {K : Bool → Option Ans} : F_strings_HasPrefix fl (strOfNums b) (ByteArray.mk #[(73 : UInt8), (78 : UInt8), (67 : UInt8), (49 : UInt8)]) K = K (decide (b.take 4 = [73, 78, 67, 49])) := by
  unfold F_strings_HasPrefix Fg_strings_HasPrefix F_internal_stringslite_HasPrefix
  have e4 : (ByteArray.mk #[(73 : UInt8), (78 : UInt8), (67 : UInt8), (49 : UInt8)]).size = 4 := rfl
  rw [nums_size, e4, dec_t (by omega), dec_t (by simp only [loOf_none, hiOf_some]; omega)]
  have e : ((strOfNums b).extract (loOf none).toNat (hiOf (some ((4 : Nat) : Int)) (b.length : Int)).toNat).toList = (strOfNums (b.take 4)).toList := by
    have := ext_toList (strOfNums b) 4
    refine Eq.trans (by rfl) (this.trans ?_)
    rw [ByteArray.toList_eq, ByteArray.toList_eq, strOfNums_data, strOfNums_data, List.map_take]
  rw [e, lead_eq]
  congr 1
  by_cases h : b.take 4 = [73, 78, 67, 49]
  · rw [h]; simp
  · rw [decide_eq_false h]
    cases hh : (strOfNums (b.take 4)).toList == (strOfNums [73, 78, 67, 49]).toList with
    | false => rfl
    | true => exact absurd (nums_inj (fun v hv => hb.2 v (List.mem_of_mem_take hv)) lead_byte hh) h
abbrev RDK := Int × List Int × Int × Int × Int × List SegT × List Int × List Int
def RdOk (k0 : RDK → Option Ans) (b : List Int) (x : Option Ans) : Int ⊕ (Int × List SegT × List (Int × Int)) → Prop
  | .inl e => e ≠ 0 ∧ ∃ w a' bd l' h' p', x = k0 (w, b, a', bd, e, l', h', p')
  | .inr (way, l, ps) => ∃ a' h', x = k0 (way, b, a', 0, 0, l, h', ps.map (·.1))
theorem fin_bad {a bd e : Int} (he : e ≠ 0) {l : List SegT} {hs ps : List Int} {k0} : F_file_reader_finish_f32 fl b a bd e l hs ps k0 = k0 (b, a, bd, e, l, hs, ps) := by
  unfold F_file_reader_finish_f32 Fg_file_reader_finish_f32
  rw [cond_t (by simpa using he)]
/-- What stands behind the loops. -/
theorem ptail_ok (hfl : 9223372036854775808 ≤ fl) {w a : Int} {l : List SegT} (hv : ∀ s ∈ l, vS s = true) (hl : l.length ≤ 100) {hs : List Int} (hhs : hs.length = l.length) {ps : List (Int × Int)} {k0 : RDK → Option Ans} :
    RdOk k0 b (bif decide (a < (b.length : Int)) then F_file_reader_fail_857 fl a 60 b a 0 0 l hs (ps.map (·.1)) (fun (y0, y1, y2, y3, y4, y5, y6) => F_file_reader_finish_f32 fl y0 y1 y2 y3 y4 y5 y6 (fun (z0, z1, z2, z3, z4, z5, z6) => k0 (w, z0, z1, z2, z3, z4, z5, z6))) else F_file_reader_finish_f32 fl b a 0 0 l hs (ps.map (·.1)) (fun (z0, z1, z2, z3, z4, z5, z6) => k0 (w, z0, z1, z2, z3, z4, z5, z6))) (if a < b.length then .inl 60 else if ordered l then .inr (w, l, ps) else .inl 40) := by
  have hsh : ∀ s ∈ l, Short s := fun s h => vS_short (hv s h)
  by_cases ha : a < b.length
  · rw [if_pos ha, dec_t ha]
    unfold F_file_reader_fail_857
    rw [cond_t (b := (0 : Int) == 0) rfl]
    dsimp only
    rw [fin_bad (by decide)]
    exact ⟨by decide, _, _, _, _, _, _, rfl⟩
  rw [if_neg ha, dec_f ha]
  unfold F_file_reader_finish_f32 Fg_file_reader_finish_f32
  rw [cond_f (b := (0 : Int) != 0) rfl]
  by_cases ho : ordered l
  · rw [if_pos ho, (in_all hfl (by omega) hsh ho).1]
    exact ⟨a, hs, rfl⟩
  · rw [if_neg ho]
    obtain ⟨j, j1, _, _, j4⟩ := in_bad hfl (by omega) hsh ho
    rw [(j4 _).1]
    dsimp only
    rw [cond_t (b := (40 : Int) != 0) rfl, dec_t (by omega)]
    unfold F_file_reader_fail_857
    rw [cond_t (b := (0 : Int) == 0) rfl]
    exact ⟨by decide, _, _, _, _, _, _, rfl⟩
theorem early {at_ e : Int} (he : e ≠ 0) {k0 : RDK → Option Ans} {X : (List Int × Int × Int × Int × List SegT × List Int × List Int) → Option Ans} (hX : X (b, 5, at_, e, [], [], []) = k0 (0, b, 5, at_, e, [], [], [])) : F_file_reader_fail_857 fl at_ e b 5 0 0 [] [] [] X = k0 (0, b, 5, at_, e, [], [], []) := by
  unfold F_file_reader_fail_857
  rw [cond_t (b := (0 : Int) == 0) rfl]
  exact hX
theorem read_ok (hfl : 9223372036854775808 ≤ fl) (hb : Bytes b) (hbl : b.length ≤ 100000) {k0 : RDK → Option Ans} : RdOk k0 b (F_file_read fl b k0) (rd b) := by
  unfold F_file_read Fg_file_read rd
  by_cases h1 : b.length > 40000
  · rw [if_pos h1, dec_t (by omega), early (by decide) (cond_t (b := (4 : Int) != 0) rfl)]
    exact ⟨by decide, _, _, _, _, _, _, rfl⟩
  rw [if_neg h1, dec_f (by omega)]
  by_cases h2 : b.length < 5
  · rw [if_pos (.inl h2), dec_t (by omega), early (by decide) (cond_t (b := (3 : Int) != 0) rfl)]
    exact ⟨by decide, _, _, _, _, _, _, rfl⟩
  rw [dec_f (by omega), prefix_ok hb (by omega)]
  by_cases h3 : b.take 4 = [73, 78, 67, 49]
  rotate_left
  · rw [if_pos (.inr (.inl h3)), decide_eq_false h3, cond_t (b := !false) rfl, early (by decide) (cond_t (b := (3 : Int) != 0) rfl)]
    exact ⟨by decide, _, _, _, _, _, _, rfl⟩
  have h4 := hb.get 4
  rw [decide_eq_true h3, cond_f (b := !true) rfl, dec_t (by omega), show (4 : Int).toNat = 4 from rfl]
  by_cases h5 : b.getD 4 0 > 1
  · rw [if_pos (.inr (.inr h5)), dec_t h5, early (by decide) (cond_t (b := (3 : Int) != 0) rfl)]
    exact ⟨by decide, _, _, _, _, _, _, rfl⟩
  rw [if_neg (by intro h; rcases h with h | h | h; exact h2 h; exact h h3; exact h5 h), dec_f h5, dec_t (by omega), wrap64 (by omega) (by omega)]
  by_cases hw : b.getD 4 0 = 1
  · rw [if_pos hw, hw, cond_t (b := (1 : Int) == 1) rfl]
    have R := fun k : LK → Option Ans => rand_ok (k0 := k) hfl hb hbl
    generalize hr : rGo b = r at R
    cases r with
    | inl e =>
      obtain ⟨he, a', bd, l', h', p', hx⟩ := R _
      refine Eq.mpr (congrArg (fun x => RdOk k0 b x _) hx) ?_
      dsimp only
      rw [cond_f (by simpa using he), fin_bad he]
      exact ⟨he, _, _, _, _, _, _, rfl⟩
    | inr v =>
      obtain ⟨a, l, ps⟩ := v
      obtain ⟨c1, c2, c3, c4, c5⟩ := rGo_inv hb (by omega) hr
      obtain ⟨h', hlen, hx⟩ := R _
      refine Eq.mpr (congrArg (fun x => RdOk k0 b x _) hx) ?_
      dsimp only
      rw [cond_t (b := (0 : Int) == 0) rfl]
      exact ptail_ok hfl c1 (by omega) hlen
  · have hw0 : b.getD 4 0 = 0 := by omega
    rw [if_neg hw, hw0, cond_f (b := (0 : Int) == 1) rfl]
    unfold F_file_reader_sequence_f32 Fg_file_reader_sequence_f32 L_file_reader_sequence_f32_0
    have S := fun k : LK → Option Ans => sloop (kk := k) hfl hb hbl 101 (a := 5) (l := []) (hs := []) (ps := []) (f := fl) (by simp) (by simp) rfl rfl (fun h => by simp at h) (by omega) (by omega) (by simp) (by omega)
    generalize hr : sGo b 101 5 [] [] = r at S
    cases r with
    | inl e =>
      obtain ⟨he, a', bd, l', h', p', hx⟩ := S _
      refine Eq.mpr (congrArg (fun x => RdOk k0 b x _) hx) ?_
      dsimp only
      rw [cond_f (by simpa using he), fin_bad he]
      exact ⟨he, _, _, _, _, _, _, rfl⟩
    | inr v =>
      obtain ⟨a, l, ps⟩ := v
      obtain ⟨r, c1, c2, c3, c4, c5, c6⟩ := sGo_inv hb 101 5 [] [] (by omega) (by simp) hr
      rw [List.nil_append] at c1
      subst c1
      obtain ⟨_, _, _, _, h', hlen, hx⟩ := S _
      refine Eq.mpr (congrArg (fun x => RdOk k0 b x _) hx) ?_
      dsimp only
      rw [cond_t (b := (0 : Int) == 0) rfl]
      exact ptail_ok hfl c2 (by omega) hlen
/-- What Read returns. -/
def readR (b : List Int) : Int × Int × List SegT := match rd b with
  | .inl e => (0, e, [])
  | .inr (way, l, _) => (way, 0, l)
def placesR (b : List Int) : Int × List (Int × Int) := match rd b with
  | .inl e => (e, [])
  | .inr (_, _, ps) => (0, ps)
theorem pread (hfl : 9223372036854775808 ≤ fl) (hb : Bytes b) (hbl : b.length ≤ 100000) {K : Int × Int × List SegT → Option Ans} : F_file_Read fl b K = K (readR b) := by
  unfold F_file_Read Fg_file_Read readR
  have R := fun k => read_ok (k0 := k) hfl hb hbl
  generalize rd b = r at R
  cases r with
  | inl e =>
    obtain ⟨he, w, a', bd, l', h', p', hx⟩ := R _
    rw [hx]
    dsimp only
    rw [cond_t (by simpa using he)]
  | inr v =>
    obtain ⟨w, l, ps⟩ := v
    obtain ⟨a', h', hx⟩ := R _
    rw [hx]
    rfl
theorem rread (hfl : 9223372036854775808 ≤ fl) (hb : Bytes b) (hbl : b.length ≤ 100000) {K : Int × Int × List SegT → Option Ans} : F_ref14_Read fl b K = K (readR b) := by
  unfold F_ref14_Read Fg_ref14_Read readR
  have R := fun k => parse_ok (k0 := k) hfl hb hbl
  generalize rd b = r at R
  cases r with
  | inl e =>
    obtain ⟨he, w, a', l', h', p', hx⟩ := R _
    rw [hx]
    dsimp only
    rw [cond_t (by simpa using he)]
  | inr v =>
    obtain ⟨w, l, ps⟩ := v
    obtain ⟨h', hx⟩ := R _
    rw [hx]
    rfl
theorem rplaces (hfl : 9223372036854775808 ≤ fl) (hb : Bytes b) (hbl : b.length ≤ 100000) {K : Int × List (Int × Int) → Option Ans} : F_ref14_Places fl b K = K (placesR b) := by
  unfold F_ref14_Places Fg_ref14_Places placesR
  have R := fun k => parse_ok (k0 := k) hfl hb hbl
  generalize rd b = r at R
  cases r with
  | inl e =>
    obtain ⟨he, w, a', l', h', p', hx⟩ := R _
    rw [hx]
    dsimp only
    rw [cond_t (by simpa using he)]
  | inr v =>
    obtain ⟨w, l, ps⟩ := v
    obtain ⟨h', hx⟩ := R _
    rw [hx]
    rfl
theorem pplaces (hfl : 9223372036854775808 ≤ fl) (hb : Bytes b) (hbl : b.length ≤ 100000) {K : Int × List (Int × Int) → Option Ans} : F_file_Places fl b K = K (placesR b) := by
  unfold F_file_Places Fg_file_Places placesR
  have R := fun k => read_ok (k0 := k) hfl hb hbl
  cases hr : rd b with
  | inl e =>
    rw [hr] at R
    obtain ⟨he, w, a', bd, l', h', p', hx⟩ := R _
    rw [hx]
    dsimp only
    rw [cond_t (by simpa using he)]
  | inr v =>
    rw [hr] at R
    obtain ⟨w, l, ps⟩ := v
    obtain ⟨q1, q2, q3⟩ := rd_ps hb hr
    obtain ⟨a', h', hx⟩ := R _
    rw [hx]
    dsimp only
    rw [cond_f (b := (0 : Int) != 0) rfl]
    unfold L_file_Places_0
    have hlen : ps.length = l.length := by simpa using congrArg List.length q1
    refine iter_seq (step := S_file_Places_0 fl) (fun i : Nat => ((l.length : Int), (i : Int), b, a', 0, 0, ps.take i, l, h', ps.map (·.1))) l.length rfl (fun i hi c => ?_) (fun c => ?_) (by omega)
    · simp only [S_file_Places_0, Sg_file_Places_0]
      have hg1 : (ps.map (·.1)).getD i 0 = (ps.getD i (0, 0)).1 := by
        rw [getD_lt (by rw [List.length_map]; omega), getD_lt (by omega), List.getElem_map]
      have hg2 : ((List.length (l.getD i (0, 0, 0, [], [], [])).2.2.2.2.2 : Nat) : Int) = (ps.getD i (0, 0)).2 := by
        have := congrArg (fun x => x.getD i 0) q1
        rw [getD_lt (by rw [List.length_map]; omega), getD_lt (by rw [List.length_map]; omega), List.getElem_map, List.getElem_map] at this
        rw [getD_lt (by omega), getD_lt (by omega), this]
        rfl
      rw [dec_t (by omega), dec_t (by omega), dec_t (by rw [List.length_map]; omega), Int.toNat_natCast, hg1, hg2, dec_t (by simp; omega), wrap64 (by omega) (by omega)]
      have e : ps.take (i + 1) = ps.take i ++ [((ps.getD i (0, 0)).1, (ps.getD i (0, 0)).2)] := by
        rw [List.take_succ_eq_append_getElem (by omega), getD_lt (by omega)]
      rw [e]
      rfl
    · simp only [S_file_Places_0, Sg_file_Places_0]
      rw [dec_f (by omega), ← hlen, List.take_length]
end
theorem readR_ok {b : List Int} (hb : Bytes b) {w e : Int} {l : List SegT} (h : readR b = (w, e, l)) : l.length ≤ 100 ∧ (∀ s ∈ l, Short s) ∧ (e = 0 → (w = 0 ∨ w = 1) ∧ (∀ v, v = 0 ∨ v = 1 → writeR v l = (0, wb v l)) ∧ b = wb w l ∧ b.length ≤ 40000) ∧ (e ≠ 0 → w = 0 ∧ l = []) := by
  unfold readR at h
  cases hr : rd b with
  | inl e' =>
    rw [hr] at h
    simp only [Prod.mk.injEq] at h
    obtain ⟨rfl, rfl, rfl⟩ := h
    refine ⟨by simp, by simp, fun he => ?_, fun _ => ⟨rfl, rfl⟩⟩
    subst he
    exfalso
    have := (parse_ok (fl := 9223372036854775808) (k0 := fun _ => none) (by omega) hb (by
      unfold rd at hr
      split at hr
      · injection hr with hr
        omega
      · omega))
    rw [hr] at this
    exact this.1 rfl
  | inr v =>
    obtain ⟨w', l', ps⟩ := v
    rw [hr] at h
    simp only [Prod.mk.injEq] at h
    obtain ⟨rfl, rfl, rfl⟩ := h
    obtain ⟨q1, q2, q3⟩ := rd_ps hb hr
    obtain ⟨c1, c2, c3⟩ := rd_inv hb hr
    refine ⟨q2, q3, fun _ => ⟨c1, c2, c3, ?_⟩, fun h => absurd rfl h⟩
    unfold rd at hr
    split at hr
    · cases hr
    · omega
end Go.Proofs.Ytihfgpfofmjbaaa.Fr

set_option linter.unusedVariables false
set_option linter.unusedSimpArgs false
namespace Go.Proofs.Ytihfgpfofmjbaaa.PureFileReads
open Go Ev Bm Seg Fr
theorem pure_fl {fl : Nat} (hfl : 9223372036854775808 ≤ fl) (b : List Int) (hb : Bytes b) (K : Bool → Option Ans) : F_law14_FileReads fl b K = K true := by
  unfold F_law14_FileReads Fg_law14_FileReads
  by_cases h1 : (b.length : Int) > 80000
  · rw [dec_t h1, awake14 hfl]
  have hbl : b.length ≤ 100000 := by omega
  rw [dec_f h1, pread hfl hb hbl]
  generalize hr : readR b = R
  obtain ⟨w, e, l⟩ := R
  obtain ⟨q1, q2, q3, q4⟩ := readR_ok hb hr
  dsimp only
  rw [rread hfl hb hbl, hr]
  dsimp only
  rw [pplaces hfl hb hbl]
  generalize hp : placesR b = P
  obtain ⟨pe, ps⟩ := P
  dsimp only
  rw [rplaces hfl hb hbl, hp]
  have hps : ps.length ≤ 100 := by
    unfold placesR at hp
    cases hd : rd b with
    | inl e => rw [hd] at hp; cases hp; simp
    | inr v =>
      obtain ⟨w', l', ps'⟩ := v
      rw [hd] at hp
      obtain ⟨c1, c2, _⟩ := rd_ps hb hd
      have := congrArg List.length c1
      simp only [List.length_map] at this
      cases hp
      omega
  dsimp only
  rw [cond_f (by simp), cond_f (by simp), sameL hfl (by omega) q2, cond_f (b := !true) rfl, cond_f (by simp), cond_f (by simp)]
  unfold L_law14_FileReads_0
  refine iter_seq (step := S_law14_FileReads_0 fl) (fun i : Nat => (b, w, e, (ps.length : Int), (i : Int), ps, ps)) ps.length rfl (fun i hi c => ?_) (fun c => ?_) (by omega)
  · simp only [S_law14_FileReads_0, Sg_law14_FileReads_0, both_same]
    rw [dec_t (by omega), dec_t (by omega), dec_t (by omega), cond_f (by simp), wrap64 (by omega) (by omega)]
    rfl
  · simp only [S_law14_FileReads_0, Sg_law14_FileReads_0]
    rw [dec_f (by omega)]
    unfold F_file_Way Fg_file_Way
    rw [pread hfl hb hbl, hr]
    dsimp only
    rw [cond_t (by simp), cond_t (by simp), awake14 hfl]
theorem pure (b : List Int) (K : Bool → Option Ans) (g : given (.sl (.int .u8)) b) : F_law14_FileReads fuel b K = K true := by
  obtain ⟨h1, h2⟩ := g
  have h1 : b.length * 1 ≤ 140737488351232 := h1
  refine pure_fl (by rw [fuel_eq]; omega) b ⟨by omega, fun v hv => ?_⟩ K
  have h : (Lit.int .u8 v).wf = true := h2 v hv
  simp [Lit.wf, IntKind.min, IntKind.max, IntKind.signed, IntKind.bits] at h
  omega
end Go.Proofs.Ytihfgpfofmjbaaa.PureFileReads

