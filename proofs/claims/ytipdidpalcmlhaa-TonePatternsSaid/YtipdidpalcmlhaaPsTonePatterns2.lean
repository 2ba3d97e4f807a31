/- Laws of the typed texts that TonePatterns reaches, in plain Lean. No condition but what each theorem names. -/
import Derived.Test.YtipdidpalcmlhaaPsTonePatterns1
import Derived.Laws.Strings
import Derived.Test.YtipdidpalcmlhaaFsTonePatterns5
import Derived.Test.YtipdidpalcmlhaaFsTonePatterns2
import Derived.Test.YtipdidpalcmlhaaFsTonePatterns1
import Derived.Test.YtipdidpalcmlhaaEvS
set_option linter.unusedVariables false
set_option linter.unusedSimpArgs false
set_option linter.unusedVariables false
set_option linter.unusedSimpArgs false
namespace Go.Proofs.Ytipdidpalcmlhaa.Gen
open Go Ev Bm Co

theorem strs_inj {a b : List Int} (ha : ∀ v ∈ a, 0 ≤ v ∧ v ≤ 255) (hb : ∀ v ∈ b, 0 ≤ v ∧ v ≤ 255) (h : ((strOfNums a).toList == (strOfNums b).toList) = true) : a = b := by
  have h := eq_of_beq h
  rw [ByteArray.toList_eq, ByteArray.toList_eq, strOfNums_data, strOfNums_data] at h
  have e : ∀ l : List Int, (∀ v ∈ l, 0 ≤ v ∧ v ≤ 255) → (l.map fun n => UInt8.ofNat n.toNat).map (fun u => (u.toNat : Int)) = l := by
    intro l hl
    rw [List.map_map]
    conv => rhs; rw [← List.map_id l]
    apply List.map_congr_left
    intro v hv
    have := hl v hv
    simp [UInt8.toNat_ofNat']
    omega
  rw [← e a ha, h, e b hb]
/-- The first i pixels; the others are white. -/
def upTo (p : List Int) (i : Nat) : List Int := p.take i ++ List.replicate (p.length - i) 0
theorem upTo_len (p : List Int) {i : Nat} (h : i ≤ p.length) : (upTo p i).length = p.length := by
  unfold upTo
  rw [List.length_append, List.length_take, List.length_replicate]
  omega
theorem upTo_getD (p : List Int) {i : Nat} (h : i ≤ p.length) (j : Nat) : (upTo p i).getD j 0 = if j < i then p.getD j 0 else 0 := by
  unfold upTo
  simp only [List.getD_eq_getElem?_getD, List.getElem?_append, List.length_take, List.getElem?_take, List.getElem?_replicate]
  rw [Nat.min_eq_left h]
  split
  · rfl
  · split <;> rfl
theorem upTo_set {p : List Int} {i : Nat} (h : i < p.length) : (upTo p i).set i (p.getD i 0) = upTo p (i + 1) := by
  apply list_ext_getD 0
  · rw [List.length_set, upTo_len _ (by omega), upTo_len _ (by omega)]
  · intro j hj
    rw [List.length_set, upTo_len _ (by omega)] at hj
    rw [upTo_getD _ (by omega), List.getD_eq_getElem?_getD, List.getElem?_set]
    by_cases hji : i = j
    · subst hji
      rw [if_pos rfl, if_pos (by rw [upTo_len _ (by omega)]; exact h), if_pos (by omega)]
      rfl
    · rw [if_neg hji, ← List.getD_eq_getElem?_getD, upTo_getD _ (by omega)]
      by_cases hlt : j < i
      · rw [if_pos hlt, if_pos (by omega)]
      · rw [if_neg hlt, if_neg (by omega)]
theorem upTo_zero (p : List Int) : upTo p 0 = List.replicate p.length 0 := by simp [upTo]
theorem upTo_all (p : List Int) : upTo p p.length = p := by simp [upTo]
theorem px_upTo {w h : Int} {p : List Int} {i : Nat} (hi : i ≤ p.length) {x y : Int} (hx : ins w h x y → (y * w + x).toNat < i) : px w h (upTo p i) x y = px w h p x y := by
  unfold px
  by_cases hin : ins w h x y
  · rw [if_pos hin, if_pos hin, upTo_getD _ hi, if_pos (hx hin)]
  · rw [if_neg hin, if_neg hin]
theorem ctxv_congr {w h : Int} {p p' : List Int} {x y : Int} {l : List (Int × Int)} (hd : ∀ d ∈ l, px w h p (x + d.1) (y + d.2) = px w h p' (x + d.1) (y + d.2)) : ctxv w h p x y l = ctxv w h p' x y l := by
  unfold ctxv
  generalize (0 : Int) = a
  induction l generalizing a with
  | nil => rfl
  | cons d l ih =>
    rw [List.foldl_cons, List.foldl_cons, hd d (by simp)]
    exact ih (fun e he => hd e (by simp [he])) _
theorem tpl_before (t : Int) : ∀ d ∈ tpl t, d.2 < 0 ∨ (d.2 = 0 ∧ d.1 < 0) := by
  unfold tpl
  repeat' split
  all_goals decide
theorem around_before {t ax ay kd : Int} (hv : vr t ax ay kd = true) : ∀ d ∈ around t ax ay, d.2 < 0 ∨ (d.2 = 0 ∧ d.1 < 0) := by
  obtain ⟨_, _, _, v1, v2, v3, v4, v5⟩ := vr_iff.1 hv
  intro d hd
  unfold around at hd
  rcases List.mem_append.1 hd with hd | hd
  · exact tpl_before t d hd
  · simp at hd; subst hd
    dsimp only
    omega
/-- A pixel of a row above lies before. -/
theorem idx_above {w h : Int} {y : Nat} {x' y' : Int} (hin : ins w h x' y') (hy : y' < (y : Int)) : (y' * w + x').toNat < y * w.toNat := by
  obtain ⟨i1, i2, i3, i4⟩ := hin
  have h1 : (y' + 1) * w ≤ (y : Int) * w := Int.mul_le_mul_of_nonneg_right (by omega) (by omega)
  rw [Int.add_mul, Int.one_mul] at h1
  have h2 : ((y * w.toNat : Nat) : Int) = (y : Int) * w := by rw [Int.natCast_mul]; congr 1; omega
  have h3 : 0 ≤ y' * w := Int.mul_nonneg i2 (by omega)
  omega
theorem ctx_upTo {t ax ay kd w h : Int} {p : List Int} (hv : vr t ax ay kd = true) {x y : Nat} (hi : y * w.toNat + x ≤ p.length) (hw : 0 ≤ w) : ctxv w h (upTo p (y * w.toNat + x)) (x : Int) (y : Int) (around t ax ay) = ctxv w h p (x : Int) (y : Int) (around t ax ay) := by
  refine ctxv_congr fun d hd => px_upTo hi fun hin => ?_
  rcases around_before hv d hd with hb | ⟨hb, hb2⟩
  · have := idx_above (y := y) hin (by omega)
    omega
  · obtain ⟨i1, i2, i3, i4⟩ := hin
    rw [hb, Int.add_zero]
    have h2 : ((y * w.toNat : Nat) : Int) = (y : Int) * w := by rw [Int.natCast_mul]; congr 1; omega
    omega
section
variable {t ax ay kd base w h : Int} {p : List Int} {ty : Bool} {kx : Int} {x0 : Iv}
theorem pixEvs_split (y : Nat) {n m : Nat} (h' : n ≤ m) : ∃ r, pixEvs t ax ay base w h p [] y m = pixEvs t ax ay base w h p [] y n ++ r := by
  induction m with
  | zero =>
    have : n = 0 := by omega
    subst this
    exact ⟨[], rfl⟩
  | succ m ih =>
    rcases Nat.lt_or_ge n (m + 1) with h1 | h1
    · obtain ⟨r, hr⟩ := ih (by omega)
      exact ⟨r ++ pixEv t ax ay base w h p [] y m, by rw [pixEvs, hr, List.append_assoc]⟩
    · have : n = m + 1 := by omega
      subst this
      exact ⟨[], by rw [List.append_nil]⟩
theorem allEv_split {n m : Nat} (h' : n ≤ m) : ∃ r, allEv t ax ay base w h ty p [] m = allEv t ax ay base w h ty p [] n ++ r := by
  induction m with
  | zero =>
    have : n = 0 := by omega
    subst this
    exact ⟨[], rfl⟩
  | succ m ih =>
    rcases Nat.lt_or_ge n (m + 1) with h1 | h1
    · obtain ⟨r, hr⟩ := ih (by omega)
      exact ⟨r ++ rowEv t ax ay base w h ty p [] m, by rw [allEv, hr, List.append_assoc]⟩
    · have : n = m + 1 := by omega
      subst this
      exact ⟨[], by rw [List.append_nil]⟩
/-- The code of events, with zeros behind. -/
def codeOf (kx : Int) (x0 : Iv) (E : List (Int × Int)) (z : Nat) : List Int := ((run kx x0 [] E).2 ++ endB (run kx x0 [] E).1.lo (run kx x0 [] E).1.hi) ++ List.replicate z 0
def stOf (kx : Int) (x0 : Iv) (L : List (Int × Int)) (q : List Int) : D := ⟨true, q, (run kx x0 [] L).1, (run kx x0 [] L).2.length⟩
theorem get_ev (hx : x0.Ok kx) {E L : List (Int × Int)} {c b : Int} (hE : ∃ r, E = (L ++ [(c, b)]) ++ r) (he : Evs x0.st.length E) (z : Nat) :
    Co.get kx (codeOf kx x0 E z) (run kx x0 [] L).1 (run kx x0 [] L).2.length c = some (b, (run kx x0 [] (L ++ [(c, b)])).1, (run kx x0 [] (L ++ [(c, b)])).2.length) := by
  obtain ⟨r, hr⟩ := hE
  have hE : E = L ++ (c, b) :: r := by rw [hr, List.append_assoc]; rfl
  unfold codeOf
  rw [hE] at he ⊢
  exact get_put hx he
theorem dPixs_rt (hx : x0.Ok kx) (hr : Reg t ax ay kd base w h p [] x0.st.length) {E L : List (Int × Int)} {y : Nat} (hy : (y : Int) < h) (hE : ∃ r, E = (L ++ pixEvs t ax ay base w h p [] y w.toNat) ++ r) (he : Evs x0.st.length E) (z : Nat) :
    ∀ n, n ≤ w.toNat → dPixs t ax ay base w h kx [] (codeOf kx x0 E z) y (stOf kx x0 L (upTo p (y * w.toNat))) n = stOf kx x0 (L ++ pixEvs t ax ay base w h p [] y n) (upTo p (y * w.toNat + n))
  | 0, _ => by
    show _ = stOf kx x0 (L ++ []) _
    rw [List.append_nil]
    rfl
  | n + 1, hn => by
    have ih := dPixs_rt hx hr hy hE he z n (by omega)
    have hw0 := hr.p.w0
    have hlen := hr.p.len
    obtain ⟨p1, p2, p3⟩ := place_nat (w := w) (h := h) (x := n) (y := y) (by omega) hy
    unfold dPixs
    rw [ih, if_pos (by rfl)]
    unfold dPix
    rw [skb_nil, if_neg (by simp)]
    have hc : ctxv w h (upTo p (y * w.toNat + n)) (n : Int) (y : Int) (around t ax ay) = ctxv w h p (n : Int) (y : Int) (around t ax ay) := ctx_upTo hr.v (by omega) hw0
    have hev : pixEv t ax ay base w h p [] y n = [(base + ctxv w h p (n : Int) (y : Int) (around t ax ay), p.getD (y * w.toNat + n) 0)] := by
      unfold pixEv
      rw [skb_nil, if_neg (by simp)]
    have hg := get_ev (kx := kx) (E := E) (L := L ++ pixEvs t ax ay base w h p [] y n) (c := base + ctxv w h p (n : Int) (y : Int) (around t ax ay)) (b := p.getD (y * w.toNat + n) 0) hx (by
      obtain ⟨r, h1⟩ := hE
      obtain ⟨r2, h2⟩ := pixEvs_split (t := t) (ax := ax) (ay := ay) (base := base) (w := w) (h := h) (p := p) y (show n + 1 ≤ w.toNat by omega)
      refine ⟨r2 ++ r, ?_⟩
      rw [h1, h2, pixEvs, hev]
      simp only [List.append_assoc]) he z
    show (match Co.get kx (codeOf kx x0 E z) (run kx x0 [] (L ++ pixEvs t ax ay base w h p [] y n)).1 (run kx x0 [] (L ++ pixEvs t ax ay base w h p [] y n)).2.length (base + ctxv w h (upTo p (y * w.toNat + n)) (n : Int) (y : Int) (around t ax ay)) with
      | some (b, x', k') => D.mk true ((upTo p (y * w.toNat + n)).set (y * w.toNat + n) b) x' k'
      | none => _) = _
    rw [hc, hg]
    dsimp only
    rw [upTo_set (by omega)]
    unfold stOf
    rw [pixEvs, hev, List.append_assoc]
    rfl
theorem rowL_upTo {y : Nat} (hp : Pix w h p) (hy : (y : Int) < h) : wrRow w y (upTo p (y * w.toNat)) (rowL w p y) = upTo p ((y + 1) * w.toNat) := by
  have hw0 := hp.w0
  have hlen := hp.len
  have h1 : ((y : Int) + 1) * w ≤ h * w := Int.mul_le_mul_of_nonneg_right (by omega) (by omega)
  rw [Int.add_mul, Int.one_mul, Int.mul_comm h w] at h1
  have h2 : ((y * w.toNat : Nat) : Int) = (y : Int) * w := by rw [Int.natCast_mul]; congr 1; omega
  have h3 : y * w.toNat + w.toNat ≤ p.length := by omega
  rw [Nat.add_mul, Nat.one_mul]
  unfold wrRow rowL upTo
  have hd : (p.take (y * w.toNat) ++ List.replicate (p.length - y * w.toNat) (0 : Int)).drop (y * w.toNat + w.toNat) = List.replicate (p.length - (y * w.toNat + w.toNat)) 0 := by
    rw [List.drop_append, List.length_take, Nat.min_eq_left (by omega), List.drop_of_length_le (l := List.take (y * w.toNat) p) (by rw [List.length_take]; omega), List.nil_append, List.drop_replicate]
    congr 1
    omega
  rw [List.take_left' (by rw [List.length_take]; omega), hd, List.take_add]
theorem above_upTo {y : Nat} (hp : Pix w h p) (hy : (y : Int) < h) : aboveL w h (upTo p (y * w.toNat)) [] y = aboveL w h p [] y := by
  have hw0 := hp.w0
  have hlen := hp.len
  have h1 : ((y : Int) + 1) * w ≤ h * w := Int.mul_le_mul_of_nonneg_right (by omega) (by omega)
  rw [Int.add_mul, Int.one_mul, Int.mul_comm h w] at h1
  have h2 : ((y * w.toNat : Nat) : Int) = (y : Int) * w := by rw [Int.natCast_mul]; congr 1; omega
  unfold aboveL
  apply List.map_congr_left
  intro x _
  rw [skb_nil, if_neg (by simp), if_neg (by simp), px_upTo (by omega) fun hin => idx_above hin (by omega)]
theorem rowL_bit (hp : Pix w h p) (y : Nat) : ∀ v ∈ rowL w p y, 0 ≤ v ∧ v ≤ 1 := fun v hv => hp.bit v (List.mem_of_mem_drop (List.mem_of_mem_take hv))
theorem dRow_rt (hx : x0.Ok kx) (hr : Reg t ax ay kd base w h p [] x0.st.length) {E L : List (Int × Int)} {y : Nat} (hy : (y : Int) < h) (hE : ∃ r, E = (L ++ rowEv t ax ay base w h ty p [] y) ++ r) (he : Evs x0.st.length E) (z : Nat) :
    dRow t ax ay base w h kx ty [] (codeOf kx x0 E z) y (stOf kx x0 L (upTo p (y * w.toNat))) = stOf kx x0 (L ++ rowEv t ax ay base w h ty p [] y) (upTo p ((y + 1) * w.toNat)) := by
  unfold dRow rowEv at *
  cases ty with
  | false =>
    rw [if_neg (by simp)] at hE
    rw [if_neg (by simp), if_neg (by simp), dPixs_rt hx hr hy hE he z _ (Nat.le_refl _), Nat.add_mul, Nat.one_mul]
  | true =>
    rw [if_pos rfl] at hE
    rw [if_pos rfl, if_pos rfl]
    cases htb : tb w h p [] y with
    | true =>
      rw [htb, if_pos rfl] at hE
      rw [if_pos rfl]
      have hg := get_ev hx hE he z
      show (match Co.get kx (codeOf kx x0 E z) (run kx x0 [] L).1 (run kx x0 [] L).2.length (base + (size t - 1)) with
        | some (b, x', k') => if b = 1 then D.mk true (wrRow w y (upTo p (y * w.toNat)) (aboveL w h (upTo p (y * w.toNat)) [] y)) x' k' else _
        | none => _) = _
      rw [hg]
      dsimp only
      rw [if_pos rfl, above_upTo hr.p hy]
      have hab : aboveL w h p [] y = rowL w p y := strs_inj (fun v hv => by have := aboveL_bit hr.p y v hv; omega) (fun v hv => by have := rowL_bit hr.p y v hv; omega) htb
      rw [hab, rowL_upTo hr.p hy]
      rfl
    | false =>
      rw [htb, if_neg (by simp)] at hE
      rw [if_neg (by simp)]
      have hE1 : ∃ r, E = (L ++ [(base + (size t - 1), 0)]) ++ r := by
        obtain ⟨r, h1⟩ := hE
        exact ⟨pixEvs t ax ay base w h p [] y w.toNat ++ r, by rw [h1]; simp only [List.append_assoc, List.cons_append, List.nil_append]⟩
      have hE2 : ∃ r, E = ((L ++ [(base + (size t - 1), 0)]) ++ pixEvs t ax ay base w h p [] y w.toNat) ++ r := by
        obtain ⟨r, h1⟩ := hE
        exact ⟨r, by rw [h1]; simp only [List.append_assoc, List.cons_append, List.nil_append]⟩
      have hg := get_ev hx hE1 he z
      show (match Co.get kx (codeOf kx x0 E z) (run kx x0 [] L).1 (run kx x0 [] L).2.length (base + (size t - 1)) with
        | some (b, x', k') => if b = 1 then _ else dPixs t ax ay base w h kx [] (codeOf kx x0 E z) y ⟨true, upTo p (y * w.toNat), x', k'⟩ w.toNat
        | none => _) = _
      rw [hg]
      dsimp only
      rw [if_neg (by decide)]
      have hd := dPixs_rt hx hr hy hE2 he z _ (Nat.le_refl _)
      rw [Nat.add_mul, Nat.one_mul]
      rw [show L ++ (base + (size t - 1), (0 : Int)) :: pixEvs t ax ay base w h p [] y w.toNat = (L ++ [(base + (size t - 1), 0)]) ++ pixEvs t ax ay base w h p [] y w.toNat by simp only [List.append_assoc, List.cons_append, List.nil_append], ← hd]
      rfl
theorem dAll_rt (hx : x0.Ok kx) (hr : Reg t ax ay kd base w h p [] x0.st.length) (z : Nat) :
    ∀ n, n ≤ h.toNat → dAll t ax ay base w h kx ty [] (codeOf kx x0 (allEv t ax ay base w h ty p [] h.toNat) z) (d0 w h x0 0) n = stOf kx x0 (allEv t ax ay base w h ty p [] n) (upTo p (n * w.toNat))
  | 0, _ => by
    rw [Nat.zero_mul, upTo_zero]
    have hlen := hr.p.len
    unfold dAll d0 stOf
    rw [show (w * h).toNat = p.length by omega]
    rfl
  | n + 1, hn => by
    have ih := dAll_rt hx hr z n (by omega)
    unfold dAll
    rw [ih, if_pos (by rfl), dRow_rt hx hr (by omega) (by
      obtain ⟨r, h1⟩ := allEv_split (t := t) (ax := ax) (ay := ay) (base := base) (w := w) (h := h) (p := p) (ty := ty) hn
      exact ⟨r, by rw [h1]; rfl⟩) (allEv_ok hr ty h.toNat).1 z]
    rfl
end
/-! ### Decode -/
theorem encC_code {t ax ay kd w h : Int} {p : List Int} {ty : Bool} {z : Nat} : encC t ax ay kd w h ty p ++ List.replicate z 0 = codeOf kd (iv0 t) (allEv t ax ay 0 w h ty p [] h.toNat) z := rfl
theorem rt {t ax ay kd w h : Int} {p : List Int} (hv : vr t ax ay kd = true) (hp : Pix w h p) (ty : Bool) (z : Nat) :
    dAll t ax ay 0 w h kd ty [] (encC t ax ay kd w h ty p ++ List.replicate z 0) (d0 w h (iv0 t) 0) h.toNat = stOf kd (iv0 t) (allEv t ax ay 0 w h ty p [] h.toNat) p := by
  rw [encC_code, dAll_rt (iv0_ok hv) (reg0 hv hp) z _ (Nat.le_refl _)]
  have hlen := hp.len
  have hw0 := hp.w0; have hh0 := hp.h0
  have : h.toNat * w.toNat = p.length := by
    have : ((h.toNat * w.toNat : Nat) : Int) = h * w := by rw [Int.natCast_mul, Int.toNat_of_nonneg hh0, Int.toNat_of_nonneg hw0]
    rw [Int.mul_comm] at this
    omega
  rw [this, upTo_all]
theorem encC_bytes {t ax ay kd w h : Int} {p : List Int} (hv : vr t ax ay kd = true) (hp : Pix w h p) (ty : Bool) (z : Nat) : Bytes (encC t ax ay kd w h ty p ++ List.replicate z 0) := fun v hv' => by
  obtain ⟨e1, e2⟩ := allEv_ok (reg0 hv hp) ty h.toNat
  rcases List.mem_append.1 hv' with hv' | hv'
  · unfold encC at hv'
    rcases List.mem_append.1 hv' with hv' | hv'
    · exact run_byte _ (out := []) (iv0_ok hv) e1 (fun v hv => by cases hv) v hv'
    · exact endB_byte (encS_ok hv hp ty).1.r v hv'
  · have := (List.mem_replicate.1 hv').2
    omega
theorem pix_valid {w h : Int} {p : List Int} (hp : Pix w h p) : valid w h p = true := valid_iff.2 ⟨⟨hp.w0, hp.h0, hp.w1, hp.h1, hp.n⟩, hp.len, fun v hv => (hp.bit v hv).2⟩
theorem decR_rt {t ax ay kd w h : Int} {ty : Bool} {p : List Int} (hv : vr t ax ay kd = true) (hp : Pix w h p) (z : Nat) : decR t ax ay kd w h ty (encC t ax ay kd w h ty p ++ List.replicate z 0) = (w, h, 0, p) := by
  unfold decR
  rw [if_pos hv, if_pos (fit_iff.2 ⟨hp.w0, hp.h0, hp.w1, hp.h1, hp.n⟩), rt hv hp, if_pos (by rfl)]
  rfl
end Go.Proofs.Ytipdidpalcmlhaa.Gen

set_option linter.unusedVariables false
set_option linter.unusedSimpArgs false
namespace Go.Proofs.Ytipdidpalcmlhaa.Ton
open Go Ev Bm Gen
def pE (l : List Bmp) : Int := if l.all (bmOk l) = true then pErr l else 30
def pxs (l : List Bmp) (i : Nat) : List Int := (l.getD i (0, 0, [])).2.2
def patRow (l : List Bmp) (n : Nat) : List Int := rowR ((l.length : Int) * (l0 l).1) (l0 l).1 (l0 l).2.1 (pxs l) n
def patE (t ax ay kd : Int) (ty : Bool) (l : List Bmp) : Int × List Int :=
  if vr t ax ay kd = true ∧ ty = false then (if pE l = 0 then encR t ax ay kd ((l.length : Int) * (l0 l).1) (l0 l).2.1 ty (patRow l l.length) else (pE l, [])) else (2, [])
/-- What holds of patterns without an error. -/
structure PGood (l : List Bmp) : Prop where
  s : sidesOk (l.length : Int) (l0 l).1 (l0 l).2.1 = true
  a : ∀ i, i < l.length → (l.getD i (0, 0, [])).1 = (l0 l).1 ∧ (l.getD i (0, 0, [])).2.1 = (l0 l).2.1 ∧ Pix (l0 l).1 (l0 l).2.1 (pxs l i)
theorem pgood {l : List Bmp} (h0 : ∀ b ∈ l, ∀ v ∈ b.2.2, 0 ≤ v) (h : pE l = 0) : PGood l := by
  unfold pE at h
  by_cases ha : l.all (bmOk l) = true
  rotate_left
  · rw [if_neg ha] at h
    exact absurd h (by decide)
  rw [if_pos ha] at h
  unfold pErr at h
  refine ⟨?_, fun i hi => ?_⟩
  · by_cases hs : sidesOk (l.length : Int) (l0 l).1 (l0 l).2.1 = true
    · exact hs
    · rw [if_neg hs] at h
      exact absurd h (by decide)
  · have hm := getD_mem hi ((0, 0, []) : Bmp)
    have hb := List.all_eq_true.1 ha _ hm
    unfold bmOk at hb
    simp only [Bool.and_eq_true, decide_eq_true_eq] at hb
    obtain ⟨hv, e1, e2⟩ := hb
    refine ⟨e1, e2, ?_⟩
    rw [← e1, ← e2]
    exact pix_of hv (h0 _ hm)
theorem PGood.b {l : List Bmp} (G : PGood l) : 1 ≤ (l.length : Int) ∧ (l.length : Int) ≤ 64 ∧ 1 ≤ (l0 l).1 ∧ (l0 l).1 ≤ 16 ∧ 1 ≤ (l0 l).2.1 ∧ (l0 l).2.1 ≤ 16 ∧ fit ((l.length : Int) * (l0 l).1) (l0 l).2.1 = true := by
  obtain ⟨⟨a, b, c, d, e, f⟩, g⟩ := sidesOk_iff.1 G.s
  exact ⟨a, b, c, d, e, f, g⟩
theorem PGood.row {l : List Bmp} (G : PGood l) {i : Nat} (hi : i ≤ l.length) : Pix ((l.length : Int) * (l0 l).1) (l0 l).2.1 (patRow l i) := rowR_pix G.b.2.2.2.2.2.2 i fun j hj => (G.a j (by omega)).2.2
section
variable {fl : Nat} {t ax ay kd : Int} {ty : Bool} {l : List Bmp}
theorem pat_loop (hfl : 9223372036854775808 ≤ fl) (G : PGood l) {K} : L_tone_Patterns_0 fl ((l0 l).1, l, (l.length : Int), 0, t, ax, ay, ty, kd, (l.length : Int) * (l0 l).1, (l0 l).2.1, patRow l 0) K = K (t, ax, ay, ty, kd, (l.length : Int) * (l0 l).1, (l0 l).2.1, patRow l l.length) := by
  obtain ⟨b1, b2, b3, b4, b5, b6, b7⟩ := G.b
  unfold L_tone_Patterns_0
  refine iter_to (step := S_tone_Patterns_0 fl) (fun i : Nat => ((l0 l).1, l, (l.length : Int), (i : Int), t, ax, ay, ty, kd, (l.length : Int) * (l0 l).1, (l0 l).2.1, patRow l i)) l.length (fun i hi c => ?_) (fun c => ?_) (by omega)
  · obtain ⟨e1, e2, e3⟩ := G.a i hi
    have e4 : (l.getD i (0, 0, [])).2.2 = pxs l i := rfl
    have m1 : (i : Int) * (l0 l).1 ≤ 64 * 16 := Int.mul_le_mul (by omega) b4 (by omega) (by omega)
    have m2 : 0 ≤ (i : Int) * (l0 l).1 := Int.mul_nonneg (by omega) (by omega)
    simp only [S_tone_Patterns_0, Sg_tone_Patterns_0]
    rw [dec_t (by omega), dec_t (by omega), Int.toNat_natCast, e1, e2, e4, wrap64 (x := (i : Int) * (l0 l).1) (by omega) (by omega), wrap64 (x := (i : Int) + 1) (by omega) (by omega), draw_ok hfl (G.row (by omega)) e3 (by omega) (by omega) (by omega)]
    rfl
  · simp only [S_tone_Patterns_0, Sg_tone_Patterns_0]
    rw [dec_f (by omega)]
theorem rpat_loop (hfl : 9223372036854775808 ≤ fl) (G : PGood l) {K} : L_ref11_Patterns_0 fl (l, 0, t, ax, ay, ty, kd, (l.length : Int) * (l0 l).1, (l0 l).2.1, patRow l 0) K = K (t, ax, ay, ty, kd, (l.length : Int) * (l0 l).1, (l0 l).2.1, patRow l l.length) := by
  obtain ⟨b1, b2, b3, b4, b5, b6, b7⟩ := G.b
  unfold L_ref11_Patterns_0
  refine iter_to (step := S_ref11_Patterns_0 fl) (fun i : Nat => (l, (i : Int), t, ax, ay, ty, kd, (l.length : Int) * (l0 l).1, (l0 l).2.1, patRow l i)) l.length (fun i hi c => ?_) (fun c => ?_) (by omega)
  · obtain ⟨e1, e2, e3⟩ := G.a i hi
    have e4 : (l.getD i (0, 0, [])).2.2 = pxs l i := rfl
    have m1 : (i : Int) * (l0 l).1 ≤ 64 * 16 := Int.mul_le_mul (by omega) b4 (by omega) (by omega)
    have m2 : 0 ≤ (i : Int) * (l0 l).1 := Int.mul_nonneg (by omega) (by omega)
    have e0 : l.getD (Int.toNat 0) (0, 0, []) = l0 l := rfl
    simp only [S_ref11_Patterns_0, Sg_ref11_Patterns_0]
    rw [dec_t (by omega), dec_t (by omega), dec_t (by omega), Int.toNat_natCast, e1, e2, e4, e0, wrap64 (x := (i : Int) * (l0 l).1) (by omega) (by omega), wrap64 (x := (i : Int) + 1) (by omega) (by omega), lay_ok hfl (G.row (by omega)) e3 (by omega) (by omega) (by omega)]
    rfl
  · simp only [S_ref11_Patterns_0, Sg_ref11_Patterns_0]
    rw [dec_f (by omega)]
theorem row_bit (G : PGood l) : ∀ v ∈ patRow l l.length, 0 ≤ v := fun v hv => ((G.row (Nat.le_refl _)).bit v hv).1
theorem pats_ok (hfl : 9223372036854775808 ≤ fl) (hll : l.length ≤ 1000000000000000) (h0 : ∀ b ∈ l, ∀ v ∈ b.2.2, 0 ≤ v) {K : Int × List Int → Option Ans} : F_tone_Patterns fl t ax ay ty kd l K = K (patE t ax ay kd ty l) := by
  unfold F_tone_Patterns Fg_tone_Patterns F_tone_isPlain Fg_tone_isPlain patE
  rw [gvalid]
  cases hv : vr t ax ay kd with
  | false =>
    rw [if_neg (by simp)]
    rfl
  | true =>
  cases ty with
  | true =>
    rw [if_neg (by simp)]
    rfl
  | false =>
  rw [if_pos ⟨rfl, rfl⟩, cond_t (b := true) rfl]
  dsimp only
  rw [cond_f (b := !(!false)) rfl, rpat hfl hll]
  have ep : (if l.all (bmOk l) = true then pErr l else 30) = pE l := rfl
  rw [ep]
  by_cases hp : pE l = 0
  rotate_left
  · rw [if_neg hp, cond_t (by simpa using hp)]
  have G := pgood h0 hp
  obtain ⟨b1, b2, b3, b4, b5, b6, b7⟩ := G.b
  have m1 : (l.length : Int) * (l0 l).1 ≤ 64 * 16 := Int.mul_le_mul b2 b4 (by omega) (by omega)
  have m2 : 0 ≤ (l.length : Int) * (l0 l).1 := Int.mul_nonneg (by omega) (by omega)
  have e0 : l.getD (Int.toNat 0) (0, 0, []) = l0 l := rfl
  rw [if_pos hp, hp, cond_f (b := (0 : Int) != 0) rfl, l0_dec (by omega), l0_dec (by omega), e0, Int.mul_comm (l0 l).1, wrap64 (x := (l.length : Int) * (l0 l).1) (by omega) (by omega), bnew0 hfl b7]
  dsimp only
  have hl := fun K => pat_loop (t := t) (ax := ax) (ay := ay) (kd := kd) (ty := false) (K := K) hfl G
  rw [show patRow l 0 = List.replicate ((l.length : Int) * (l0 l).1 * (l0 l).2.1).toNat 0 from rfl] at hl
  rw [hl]
  dsimp only
  rw [genc hfl (row_bit G)]
theorem rpats_ok (hfl : 9223372036854775808 ≤ fl) (hll : l.length ≤ 1000000000000000) (h0 : ∀ b ∈ l, ∀ v ∈ b.2.2, 0 ≤ v) {K : Int × List Int → Option Ans} : F_ref11_Patterns fl t ax ay ty kd l K = K (patE t ax ay kd ty l) := by
  unfold F_ref11_Patterns Fg_ref11_Patterns patE
  rw [rvalid]
  cases hv : vr t ax ay kd with
  | false =>
    rw [if_neg (by simp)]
    rfl
  | true =>
  cases ty with
  | true =>
    rw [if_neg (by simp)]
    rfl
  | false =>
  rw [if_pos ⟨rfl, rfl⟩, cond_f (b := !true) rfl, cond_f (b := false) rfl]
  unfold F_ref11_bitmaps Fg_ref11_bitmaps F_ref11_patterns Fg_ref11_patterns
  rw [rbm_loop hfl hll]
  by_cases ha : l.all (bmOk l) = true
  rotate_left
  · have hp : pE l = 30 := if_neg ha
    rw [if_neg ha, hp, if_neg (by decide)]
    dsimp only
    rw [cond_f (b := (30 : Int) == 0) rfl, cond_t (b := (30 : Int) != 0) rfl]
  have hp : pE l = pErr l := if_pos ha
  rw [if_pos ha, hp]
  dsimp only
  rw [cond_t (b := (0 : Int) == 0) rfl]
  by_cases hz : l.length = 0
  · have he : pErr l = 2 := if_neg (by rw [sidesOk_iff]; omega)
    rw [cond_t (by simp [hz]), he, if_neg (by decide)]
    try dsimp only
    rw [cond_t (b := (2 : Int) != 0) rfl]
  have e0 : l.getD (Int.toNat 0) (0, 0, []) = l0 l := rfl
  rw [cond_f (b := (l.length : Int) == 0) (beq_eq_false_iff_ne.2 (by omega)), l0_dec (by omega), l0_dec (by omega), e0, isides]
  cases hs : sidesOk (l.length : Int) (l0 l).1 (l0 l).2.1 with
  | false =>
    have he : pErr l = 2 := if_neg (by rw [hs]; simp)
    rw [he, if_neg (by decide)]
    try dsimp only
    rw [cond_t (b := !false) rfl, cond_t (b := (2 : Int) != 0) rfl]
  | true =>
    have he : pErr l = 0 := if_pos hs
    have G := pgood h0 (hp.trans he)
    obtain ⟨b1, b2, b3, b4, b5, b6, b7⟩ := G.b
    have m1 : (l.length : Int) * (l0 l).1 ≤ 64 * 16 := Int.mul_le_mul b2 b4 (by omega) (by omega)
    have m2 : 0 ≤ (l.length : Int) * (l0 l).1 := Int.mul_nonneg (by omega) (by omega)
    rw [he, if_pos rfl]
    try dsimp only
    rw [cond_f (b := !true) rfl, cond_f (b := (0 : Int) != 0) rfl, l0_dec (by omega), l0_dec (by omega), both_same, wrap64 (x := (l.length : Int) * (l0 l).1) (by omega) (by omega), rbnew0 hfl b7]
    dsimp only
    have hl := fun K => rpat_loop (t := t) (ax := ax) (ay := ay) (kd := kd) (ty := false) (K := K) hfl G
    rw [show patRow l 0 = List.replicate ((l.length : Int) * (l0 l).1 * (l0 l).2.1).toNat 0 from rfl] at hl
    rw [hl]
    dsimp only
    rw [renc hfl (row_bit G)]
end
/-- The patterns of the row are the patterns. -/
theorem row_pats {l : List Bmp} (G : PGood l) : patsL ((l.length : Int) * (l0 l).1) (l0 l).2.1 (patRow l l.length) (l0 l).1.toNat (l0 l).2.1.toNat l.length = l := by
  obtain ⟨b1, b2, b3, b4, b5, b6, b7⟩ := G.b
  have ew : (((l0 l).1.toNat : Nat) : Int) = (l0 l).1 := by omega
  have eh : (((l0 l).2.1.toNat : Nat) : Int) = (l0 l).2.1 := by omega
  apply list_ext_getD ((0, 0, []) : Bmp)
  · unfold patsL; simp
  · intro i hi
    unfold patsL at hi ⊢
    simp at hi
    rw [range_getD _ hi]
    obtain ⟨e1, e2, e3⟩ := G.a i hi
    have hc := cut_row (W := (l.length : Int) * (l0 l).1) (w := (l0 l).1.toNat) (h := (l0 l).2.1.toNat) (n := l.length) (f := pxs l) (by rw [eh]; exact b7) (by omega) (fun j hj => by rw [ew, eh]; exact (G.a j hj).2.2) (by rw [ew]; omega) hi
    rw [ew, eh] at hc
    unfold patRow
    rw [hc, ew, eh]
    unfold pxs at *
    rw [← e1, ← e2]
end Go.Proofs.Ytipdidpalcmlhaa.Ton

set_option linter.unusedVariables false
set_option linter.unusedSimpArgs false
namespace Go.Proofs.Ytipdidpalcmlhaa.Tone
open Go Ev

theorem getD_mid {α : Type} (pre : List α) (x : α) (suf : List α) (d : α) : (pre ++ x :: suf).getD pre.length d = x := by simp

/-- Not a value of k bits. -/
def bad (k v : Int) : Bool := decide (v < 0) || decide (v ≥ 2 ^ k.toNat)
theorem f58 {fl : Nat} {v k : Int} {K : Bool × Int → Option Ans} (h0 : 0 ≤ k) (h : k ≤ 62) : F_tone_Planes_1_e21 fl v k K = K (bad k v, k) := by
  unfold F_tone_Planes_1_e21 bad
  by_cases hv : v < 0
  · rw [dec_t hv, decide_eq_true hv]; rfl
  · rw [dec_f hv, dec_f (by omega), decide_eq_false hv, ishl_one h0 h]; rfl

def ffind (p : Int → Bool) : List Int → Option Nat
  | [] => none
  | x :: r => bif p x then some 0 else (match ffind p r with | some j => some (j + 1) | none => none)
theorem ffind_any (p : Int → Bool) : ∀ l, (ffind p l).isSome = l.any p
  | [] => rfl
  | x :: r => by
    simp only [ffind, List.any_cons]
    cases hp : p x with
    | true => rfl
    | false =>
      simp only [cond_false, Bool.false_or]
      rw [← ffind_any p r]
      cases ffind p r <;> rfl

theorem idx_loop {fl : Nat} {k : Int} (h0 : 0 ≤ k) (h : k ≤ 62) {ret : Int × Int → Option Ans} {b : Int → Option Ans} : ∀ (suf pre : List Int) (n : Nat), suf.length < n → pre.length + suf.length < 4611686018427387904 →
    iter (S_slices_IndexFunc_int_int_69c_0 fl) n (pre ++ suf, ((pre.length + suf.length : Nat) : Int), (pre.length : Int), k) (ret, b) = match ffind (bad k) suf with | some j => ret ((pre.length : Int) + j, k) | none => b k
  | [], pre, n, hn, hl => by
    obtain ⟨m, rfl⟩ : ∃ m, n = m + 1 := ⟨n - 1, by simp at hn; omega⟩
    simp only [iter, S_slices_IndexFunc_int_int_69c_0, Sg_slices_IndexFunc_int_int_69c_0]
    rw [dec_f (by simp)]
    rfl
  | x :: suf, pre, n, hn, hl => by
    obtain ⟨m, rfl⟩ : ∃ m, n = m + 1 := ⟨n - 1, by simp at hn; omega⟩
    simp only [List.length_cons] at hn hl
    simp only [iter, S_slices_IndexFunc_int_int_69c_0, Sg_slices_IndexFunc_int_int_69c_0]
    rw [dec_t (by simp; omega), dec_t (by simp; omega), f58 h0 h, Int.toNat_natCast, getD_mid]
    simp only [ffind]
    cases hb : bad k x with
    | true => simp
    | false =>
      simp only [cond_false]
      have ih := idx_loop h0 h (ret := ret) (b := b) (fl := fl) suf (pre ++ [x]) m (by omega) (by simp; omega)
      rw [wrap64 (by omega) (by omega)]
      have e1 : (pre ++ [x]) ++ suf = pre ++ x :: suf := by simp
      have e2 : (((pre ++ [x]).length + suf.length : Nat) : Int) = ((pre.length + (x :: suf).length : Nat) : Int) := by simp; omega
      have e3 : (((pre ++ [x]).length : Nat) : Int) = (pre.length : Int) + 1 := by simp
      rw [e1, e2, e3] at ih
      rw [ih]
      cases ffind (bad k) suf with
      | none => rfl
      | some j => simp only []; congr 2; simp; omega

theorem f57 {k : Int} (h0 : 0 ≤ k) (h : k ≤ 62) {l : List Int} (hl : l.length < 4611686018427387904) {K : Bool × Int → Option Ans} : F_slices_ContainsFunc_int_int_69c fuel l k K = K (l.any (bad k), k) := by
  unfold F_slices_ContainsFunc_int_int_69c Fg_slices_ContainsFunc_int_int_69c F_slices_IndexFunc_int_int_69c Fg_slices_IndexFunc_int_int_69c L_slices_IndexFunc_int_int_69c_0
  have := idx_loop h0 h (fl := fuel) (ret := fun v => match v with | (a, c) => K (decide (a ≥ 0), c)) (b := fun c => K (decide ((-1 : Int) ≥ 0), c)) l [] fuel (fuel_lt (by omega)) (by simpa using hl)
  simp only [List.nil_append, List.length_nil, Nat.zero_add, Int.natCast_zero] at this
  refine this.trans ?_
  rw [← ffind_any]
  cases ffind (bad k) l with
  | none => rfl
  | some j =>
    simp only [Option.isSome_some]
    rw [decide_eq_true (by omega)]

/-- Bit j of a value in Gray's code. -/
def gb (j : Nat) (v : Int) : Int := (v / 2 ^ j + v / 2 ^ (j + 1)) % 2
theorem pow_pos' (j : Nat) : (0 : Int) < 2 ^ j := Int.pow_pos (by omega)
theorem div_le' {v : Int} (h : 0 ≤ v) (j : Nat) : 0 ≤ v / 2 ^ j ∧ v / 2 ^ j ≤ v :=
  ⟨Int.ediv_nonneg h (Int.le_of_lt (pow_pos' j)), Int.ediv_le_self _ h⟩
theorem gb_text {j v : Int} (h0 : 0 ≤ j) (h : j ≤ 7) (hv : 0 ≤ v) (hv' : v < 9223372036854775808) :
    IntKind.u8.wrap (iand .i64 (ixor .i64 (ishr .i64 v j) (ishr .i64 v (j + 1))) 1) = gb j.toNat v := by
  rw [ishr_eq h0 (by omega), ishr_eq (by omega) (by omega)]
  have a := div_le' hv j.toNat
  have b := div_le' hv (j + 1).toNat
  rw [gray_bit a.1 (by omega) b.1 (by omega)]
  have e : (j + 1).toNat = j.toNat + 1 := by omega
  rw [e]
  rw [e] at b
  unfold gb
  exact wrap8 (by omega) (by omega)

theorem plane_loop {fl : Nat} {vals out j b} (h0 : 0 ≤ j) (h : j ≤ 7) : ∀ (suf pre pl : List Int) (n : Nat), suf.length < n → pre.length + suf.length ≤ 17592186044416 → pl.length = pre.length → (∀ v ∈ suf, 0 ≤ v ∧ v < 9223372036854775808) →
    iter (S_tone_Planes_2 fl) n (vals, j, pre ++ suf, ((pre.length + suf.length : Nat) : Int), (pre.length : Int), out, pl) b = b (vals, j, out, pl ++ suf.map (gb j.toNat))
  | [], pre, pl, n, hn, hl, hp, hv => by
    obtain ⟨m, rfl⟩ : ∃ m, n = m + 1 := ⟨n - 1, by simp at hn; omega⟩
    simp only [iter, S_tone_Planes_2, Sg_tone_Planes_2]
    rw [dec_f (by simp)]
    simp
  | x :: suf, pre, pl, n, hn, hl, hp, hv => by
    obtain ⟨m, rfl⟩ : ∃ m, n = m + 1 := ⟨n - 1, by simp at hn; omega⟩
    simp only [List.length_cons] at hn hl
    obtain ⟨hx0, hx1⟩ := hv x (by simp)
    simp only [iter, S_tone_Planes_2, Sg_tone_Planes_2]
    rw [dec_t (by simp; omega), dec_t (by simp; omega), dec_f (by omega), wrap64 (by omega) (by omega), dec_f (by omega), Int.toNat_natCast, getD_mid, gb_text h0 h hx0 hx1, dec_t (by simp; omega)]
    have ih := plane_loop (fl := fl) (vals := vals) (out := out) (b := b) h0 h suf (pre ++ [x]) (pl ++ [gb j.toNat x]) m (by omega) (by simp; omega) (by simp [hp]) (fun v hv' => hv v (by simp [hv']))
    rw [wrap64 (by omega) (by omega)]
    have e1 : (pre ++ [x]) ++ suf = pre ++ x :: suf := by simp
    have e2 : (((pre ++ [x]).length + suf.length : Nat) : Int) = ((pre.length + (x :: suf).length : Nat) : Int) := by simp; omega
    have e3 : (((pre ++ [x]).length : Nat) : Int) = (pre.length : Int) + 1 := by simp
    rw [e1, e2, e3] at ih
    rw [ih]
    simp

/-- The planes, the highest first. -/
def plD (vals : List Int) : Nat → List (List Int)
  | 0 => []
  | t + 1 => vals.map (gb t) :: plD vals t
theorem planes_loop {fl : Nat} (hfl : 17592186044416 < fl) {vals b} (hl : vals.length ≤ 17592186044416) (hv : ∀ v ∈ vals, 0 ≤ v ∧ v < 9223372036854775808) : ∀ (t : Nat) (out : List (List Int)) (n : Nat), t < n → t ≤ 8 → out.length + t ≤ 1000 →
    iter (S_tone_Planes_0 fl) n (vals, (t : Int) - 1, out) b = b (out ++ plD vals t)
  | 0, out, n, hn, ht, ho => by
    obtain ⟨m, rfl⟩ : ∃ m, n = m + 1 := ⟨n - 1, by omega⟩
    simp only [iter, S_tone_Planes_0, Sg_tone_Planes_0]
    rw [dec_f (by omega)]
    simp [plD]
  | t + 1, out, n, hn, ht, ho => by
    obtain ⟨m, rfl⟩ : ∃ m, n = m + 1 := ⟨n - 1, by omega⟩
    simp only [iter, S_tone_Planes_0, Sg_tone_Planes_0, L_tone_Planes_2]
    rw [dec_t (by omega)]
    have e : ((t + 1 : Nat) : Int) - 1 = t := by omega
    rw [e]
    have hp := fun b => plane_loop (fl := fl) (vals := vals) (out := out) (j := t) (b := b) (by omega) (by omega) vals [] [] fl (by omega) (by simpa using hl) rfl hv
    simp only [List.nil_append, List.length_nil, Nat.zero_add, Int.natCast_zero] at hp
    rw [hp]
    simp only
    rw [dec_t (by simp; omega), wrap64 (by omega) (by omega), planes_loop hfl hl hv t _ m (by omega) (by omega) (by simp; omega)]
    simp [plD]

theorem bad_iff {k v : Int} : bad k v = false ↔ 0 ≤ v ∧ v < 2 ^ k.toNat := by
  unfold bad
  rw [Bool.or_eq_false_iff, decide_eq_false_iff_not, decide_eq_false_iff_not]
  omega

theorem pow_le8 {k : Int} (h0 : 0 ≤ k) (h : k ≤ 8) : (2 : Int) ^ k.toNat ≤ 256 := by
  have := Nat.pow_le_pow_right (n := 2) (by omega) (show k.toNat ≤ 8 by omega)
  have h2 : (2 : Nat) ^ k.toNat ≤ 256 := this
  have h3 : (2 : Int) ^ k.toNat = ((2 ^ k.toNat : Nat) : Int) := by rw [Int.natCast_pow]; rfl
  rw [h3]
  omega

/-- What Planes returns. -/
def planes (vals : List Int) (k : Int) : Int × List (List Int) :=
  if k < 0 ∨ k > 8 ∨ vals.any (bad k) = true then (2, []) else (0, plD vals k.toNat)
theorem f16 {vals : List Int} {k : Int} (hl : vals.length ≤ 17592186044416) {K : Int × List (List Int) → Option Ans} : F_tone_Planes fuel vals k K = K (planes vals k) := by
  unfold F_tone_Planes Fg_tone_Planes planes
  by_cases h1 : k < 0
  · rw [dec_t h1, if_pos (.inl h1)]
  · rw [dec_f h1]
    by_cases h2 : k > 8
    · rw [dec_t h2, if_pos (.inr (.inl h2))]
    · rw [dec_f h2, f57 (by omega) (by omega) (by omega)]
      simp only
      cases h3 : vals.any (bad k) with
      | true => rw [if_pos (.inr (.inr rfl))]; rfl
      | false =>
        rw [if_neg (by simp; omega)]
        simp only [cond_false]
        unfold L_tone_Planes_0
        have hv : ∀ v ∈ vals, 0 ≤ v ∧ v < 9223372036854775808 := fun v hv => by
          have := bad_iff.1 (Bool.eq_false_iff.2 fun hb => by
            have := List.any_eq_false.1 h3 v hv
            exact this hb)
          have h8 := pow_le8 (k := k) (by omega) (by omega)
          omega
        have hp := planes_loop (fl := fuel) (fuel_lt (by omega)) (b := fun v => K (0, v)) hl hv k.toNat [] fuel (fuel_lt (by omega)) (by omega) (by simp; omega)
        rw [wrap64 (by omega) (by omega)]
        have e : ((k.toNat : Nat) : Int) = k := by omega
        rw [e] at hp
        simpa using hp

theorem f17 {K : Bool → Option Ans} : F_law11_Sane fuel K = K true := by
  unfold F_law11_Sane Fg_law11_Sane
  rw [f16 (by decide)]
  have : planes [0, 1, 2, 3] 2 = (0, [[0, 0, 1, 1], [0, 1, 1, 0]]) := by decide
  rw [this]
  simp only [show ([[0, 0, 1, 1], [0, 1, 1, 0]] : List (List Int)).getD (Int.toNat 0) [] = [0, 0, 1, 1] from rfl, show ([[0, 0, 1, 1], [0, 1, 1, 0]] : List (List Int)).getD (Int.toNat 1) [] = [0, 1, 1, 0] from rfl, beq_self_eq_true,
    show ((([[0, 0, 1, 1], [0, 1, 1, 0]] : List (List Int)).length : Int) == 2) = true from rfl, show decide ((0 : Int) ≤ 0 ∧ (0 : Int) < (([[0, 0, 1, 1], [0, 1, 1, 0]] : List (List Int)).length : Int)) = true from rfl,
    show decide ((0 : Int) ≤ 1 ∧ (1 : Int) < (([[0, 0, 1, 1], [0, 1, 1, 0]] : List (List Int)).length : Int)) = true from rfl, cond_true, both_same]
end Go.Proofs.Ytipdidpalcmlhaa.Tone

set_option linter.unusedVariables false
set_option linter.unusedSimpArgs false
namespace Go.Proofs.Ytipdidpalcmlhaa.PureTonePatterns
open Go Ev Bm Co Gen Ton
def mny (l : List Bmp) : Nat → Int
  | 0 => 0
  | i + 1 => IntKind.i64.wrap (IntKind.i64.wrap (mny l i + 1) + ((l.getD i (0, 0, [])).2.2.length : Int))
theorem many_ok {fl : Nat} (hfl : 9223372036854775808 ≤ fl) {l : List Bmp} (hll : l.length ≤ 1000000000000000) {K : Int → Option Ans} : F_law11_many fl l K = K (mny l l.length) := by
  unfold F_law11_many L_law11_many_0
  refine iter_to (step := S_law11_many_0 fl) (fun i : Nat => (l, mny l i, (i : Int))) l.length (fun i hi c => ?_) (fun c => ?_) (by omega)
  · simp only [S_law11_many_0]
    rw [dec_t (by omega), dec_t (by omega), Int.toNat_natCast, wrap64 (x := (i : Int) + 1) (by omega) (by omega)]
    rfl
  · simp only [S_law11_many_0]
    rw [dec_f (by omega)]
theorem pure_fl {fl : Nat} (hfl : 9223372036854775808 ≤ fl) (hs : ∀ K : Bool → Option Ans, F_law11_Sane fl K = K true) (t ax ay : Int) (ty : Bool) (kd : Int) (l : List Bmp) (K : Bool → Option Ans) (hll : l.length ≤ 1000000000000000) (h0 : ∀ b ∈ l, ∀ v ∈ b.2.2, 0 ≤ v) : F_law11_TonePatterns fl t ax ay ty kd l K = K true := by
  unfold F_law11_TonePatterns Fg_law11_TonePatterns
  rw [many_ok hfl hll]
  by_cases hm : mny l l.length > 1500
  · rw [dec_t hm, hs]
  rw [dec_f hm, pats_ok hfl hll h0]
  generalize hR : patE t ax ay kd ty l = R
  obtain ⟨e, c⟩ := R
  dsimp only
  rw [rpats_ok hfl hll h0, hR]
  dsimp only
  rw [cond_f (by simp), cond_f (by simp)]
  by_cases he : e = 0
  rotate_left
  · rw [cond_t (by simp [he]), hs]
  subst he
  unfold patE at hR
  by_cases hv : vr t ax ay kd = true ∧ ty = false
  rotate_left
  · rw [if_neg hv] at hR
    exact absurd (congrArg Prod.fst hR) (by simp)
  obtain ⟨hv, rfl⟩ := hv
  rw [if_pos ⟨hv, rfl⟩] at hR
  by_cases hp : pE l = 0
  rotate_left
  · rw [if_neg hp] at hR
    exact absurd (congrArg Prod.fst hR) hp
  rw [if_pos hp] at hR
  have G := pgood h0 hp
  obtain ⟨b1, b2, b3, b4, b5, b6, b7⟩ := G.b
  have hx := G.row (Nat.le_refl _)
  unfold encR at hR
  rw [if_pos hv, if_pos (pix_valid hx)] at hR
  have hc : c = encC t ax ay kd ((l.length : Int) * (l0 l).1) (l0 l).2.1 false (patRow l l.length) := (congrArg Prod.snd hR).symm
  have hz : c ++ List.replicate 0 0 = c := List.append_nil _
  have hr := decR_rt (ty := false) hv hx 0
  have hby := encC_bytes hv hx false 0
  rw [← hc, hz] at hr hby
  have hlen : c.length ≤ 400000 := by rw [hc]; exact encC_len hv hx false
  have e0 : l.getD (Int.toNat 0) (0, 0, []) = l0 l := rfl
  rw [cond_f (b := (0 : Int) != 0) rfl, l0_dec (by omega), l0_dec (by omega), e0, gpats hfl hby (by omega)]
  unfold patR
  have hs2 : Gen.sidesOk (l.length : Int) (l0 l).1 (l0 l).2.1 = true := G.s
  rw [if_pos ⟨hv, rfl, hs2⟩, hr, if_pos rfl, Int.toNat_natCast, row_pats G]
  dsimp only
  rw [cond_t (b := (0 : Int) == 0) rfl, same_bs hfl (by omega), cond_t rfl, hs]
theorem pure (t ax ay : Int) (ty : Bool) (kd : Int) (l : List Bmp) (K : Bool → Option Ans)
    (g0 : given (.pair (.int .i64) (.pair (.pair (.int .i64) (.int .i64)) (.pair .bool (.int .i64)))) (t, (ax, ay), ty, kd)) (g : given (.sl (.pair (.int .i64) (.pair (.int .i64) (.sl (.int .u8))))) l) :
    F_law11_TonePatterns fuel t ax ay ty kd l K = K true := by
  obtain ⟨h1, h2⟩ := g
  have h1 : l.length * 40 ≤ 140737488351232 := h1
  refine pure_fl (by rw [fuel_eq]; omega) (fun _ => Tone.f17) t ax ay ty kd l K (by omega) fun b hb v hv => ?_
  obtain ⟨_, _, _, hg⟩ := h2 b hb
  have h : (Lit.int .u8 v).wf = true := hg v hv
  simp [Lit.wf, IntKind.min, IntKind.max, IntKind.signed, IntKind.bits] at h
  omega
end Go.Proofs.Ytipdidpalcmlhaa.PureTonePatterns

