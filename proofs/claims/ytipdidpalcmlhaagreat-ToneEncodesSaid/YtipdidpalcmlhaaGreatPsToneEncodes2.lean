/- Laws of the typed texts that ToneEncodes reaches, in plain Lean. No condition but what each theorem names. -/
import Derived.Test.YtipdidpalcmlhaaGreatPsToneEncodes1
import Derived.Test.YtipdidpalcmlhaaGreatFsToneEncodes4
import Derived.Test.YtipdidpalcmlhaaGreatFsToneEncodes2
import Derived.Test.YtipdidpalcmlhaaGreatFsToneEncodes6
import Derived.Test.YtipdidpalcmlhaaGreatFsToneEncodes1
import Derived.Test.YtipdidpalcmlhaaGreatFsToneEncodes5
import Derived.Test.YtipdidpalcmlhaaGreatEvS
set_option linter.unusedVariables false
set_option linter.unusedSimpArgs false
namespace Go.Proofs.YtipdidpalcmlhaaGreat.Gen
open Go Ev Bm Co
theorem upTo_next {p : List Int} {i : Nat} (h : i < p.length) (h0 : p.getD i 0 = 0) : upTo p (i + 1) = upTo p i := by
  apply list_ext_getD 0
  · rw [upTo_len _ (by omega), upTo_len _ (by omega)]
  · intro j hj
    rw [upTo_getD _ (by omega), upTo_getD _ (by omega)]
    by_cases h1 : j < i
    · rw [if_pos h1, if_pos (by omega)]
    · rw [if_neg h1]
      by_cases h2 : j = i
      · subst h2
        rw [if_pos (by omega), h0]
      · rw [if_neg (by omega)]
section
variable {t ax ay kd base w h : Int} {p sp : List Int} {kx : Int} {x0 : Iv}
theorem pixEvs_split2 (y : Nat) {n m : Nat} (h' : n ≤ m) : ∃ r, pixEvs t ax ay base w h p sp y m = pixEvs t ax ay base w h p sp y n ++ r := by
  induction m with
  | zero =>
    have : n = 0 := by omega
    subst this
    exact ⟨[], rfl⟩
  | succ m ih =>
    rcases Nat.lt_or_ge n (m + 1) with h1 | h1
    · obtain ⟨r, hr⟩ := ih (by omega)
      exact ⟨r ++ pixEv t ax ay base w h p sp y m, by rw [pixEvs, hr, List.append_assoc]⟩
    · have : n = m + 1 := by omega
      subst this
      exact ⟨[], by rw [List.append_nil]⟩
theorem allEv_split2 {n m : Nat} (h' : n ≤ m) : ∃ r, allEv t ax ay base w h false p sp m = allEv t ax ay base w h false p sp n ++ r := by
  induction m with
  | zero =>
    have : n = 0 := by omega
    subst this
    exact ⟨[], rfl⟩
  | succ m ih =>
    rcases Nat.lt_or_ge n (m + 1) with h1 | h1
    · obtain ⟨r, hr⟩ := ih (by omega)
      exact ⟨r ++ rowEv t ax ay base w h false p sp m, by rw [allEv, hr, List.append_assoc]⟩
    · have : n = m + 1 := by omega
      subst this
      exact ⟨[], by rw [List.append_nil]⟩
theorem dPixs_rt2 (hx : x0.Ok kx) (hr : Reg t ax ay kd base w h p sp x0.st.length) (hw : White sp p) {E L : List (Int × Int)} {y : Nat} (hy : (y : Int) < h) (hE : ∃ r, E = (L ++ pixEvs t ax ay base w h p sp y w.toNat) ++ r) (he : Evs x0.st.length E) (z : Nat) :
    ∀ n, n ≤ w.toNat → dPixs t ax ay base w h kx sp (codeOf kx x0 E z) y (stOf kx x0 L (upTo p (y * w.toNat))) n = stOf kx x0 (L ++ pixEvs t ax ay base w h p sp y n) (upTo p (y * w.toNat + n))
  | 0, _ => by
    show _ = stOf kx x0 (L ++ []) _
    rw [List.append_nil]
    rfl
  | n + 1, hn => by
    have ih := dPixs_rt2 hx hr hw hy hE he z n (by omega)
    have hw0 := hr.p.w0
    have hlen := hr.p.len
    obtain ⟨p1, p2, p3⟩ := place_nat (w := w) (h := h) (x := n) (y := y) (by omega) hy
    unfold dPixs
    rw [ih, if_pos (by rfl)]
    unfold dPix
    by_cases hk : skb sp (y * w.toNat + n) = true
    · rw [if_pos hk]
      have hev : pixEv t ax ay base w h p sp y n = [] := by
        unfold pixEv
        rw [if_pos hk]
      rw [pixEvs, hev, List.append_nil, ← Nat.add_assoc, upTo_next (by omega) (hw _ hk)]
    rw [if_neg hk]
    have hc : ctxv w h (upTo p (y * w.toNat + n)) (n : Int) (y : Int) (around t ax ay) = ctxv w h p (n : Int) (y : Int) (around t ax ay) := ctx_upTo hr.v (by omega) hw0
    have hev : pixEv t ax ay base w h p sp y n = [(base + ctxv w h p (n : Int) (y : Int) (around t ax ay), p.getD (y * w.toNat + n) 0)] := by
      unfold pixEv
      rw [if_neg hk]
    have hg := get_ev (kx := kx) (E := E) (L := L ++ pixEvs t ax ay base w h p sp y n) (c := base + ctxv w h p (n : Int) (y : Int) (around t ax ay)) (b := p.getD (y * w.toNat + n) 0) hx (by
      obtain ⟨r, h1⟩ := hE
      obtain ⟨r2, h2⟩ := pixEvs_split2 (t := t) (ax := ax) (ay := ay) (base := base) (w := w) (h := h) (p := p) (sp := sp) y (show n + 1 ≤ w.toNat by omega)
      refine ⟨r2 ++ r, ?_⟩
      rw [h1, h2, pixEvs, hev]
      simp only [List.append_assoc]) he z
    show (match Co.get kx (codeOf kx x0 E z) (run kx x0 [] (L ++ pixEvs t ax ay base w h p sp y n)).1 (run kx x0 [] (L ++ pixEvs t ax ay base w h p sp y n)).2.length (base + ctxv w h (upTo p (y * w.toNat + n)) (n : Int) (y : Int) (around t ax ay)) with
      | some (b, x', k') => D.mk true ((upTo p (y * w.toNat + n)).set (y * w.toNat + n) b) x' k'
      | none => _) = _
    rw [hc, hg]
    dsimp only
    rw [upTo_set (by omega)]
    unfold stOf
    rw [pixEvs, hev, List.append_assoc]
    rfl
theorem dAll_rt2 (hx : x0.Ok kx) (hr : Reg t ax ay kd base w h p sp x0.st.length) (hw : White sp p) {E L : List (Int × Int)} (hE : ∃ r, E = (L ++ allEv t ax ay base w h false p sp h.toNat) ++ r) (he : Evs x0.st.length E) (z : Nat) :
    ∀ n, n ≤ h.toNat → dAll t ax ay base w h kx false sp (codeOf kx x0 E z) (stOf kx x0 L (List.replicate (w * h).toNat 0)) n = stOf kx x0 (L ++ allEv t ax ay base w h false p sp n) (upTo p (n * w.toNat))
  | 0, _ => by
    have hlen := hr.p.len
    rw [Nat.zero_mul, upTo_zero]
    show _ = stOf kx x0 (L ++ []) _
    rw [List.append_nil, show (w * h).toNat = p.length by omega]
    rfl
  | n + 1, hn => by
    have ih := dAll_rt2 hx hr hw hE he z n (by omega)
    have hE2 : ∃ r, E = ((L ++ allEv t ax ay base w h false p sp n) ++ pixEvs t ax ay base w h p sp n w.toNat) ++ r := by
      obtain ⟨r, h1⟩ := hE
      obtain ⟨r2, h2⟩ := allEv_split2 (t := t) (ax := ax) (ay := ay) (base := base) (w := w) (h := h) (p := p) (sp := sp) hn
      refine ⟨r2 ++ r, ?_⟩
      rw [h1, h2, allEv, rowEv, if_neg (by simp)]
      simp only [List.append_assoc]
    unfold dAll
    rw [ih, if_pos (by rfl)]
    unfold dRow
    rw [if_neg (by simp), dPixs_rt2 hx hr hw (by omega) hE2 he z _ (Nat.le_refl _), allEv, rowEv, if_neg (by simp), Nat.add_mul, Nat.one_mul, List.append_assoc]
theorem dAll_rt3 (hx : x0.Ok kx) (hr : Reg t ax ay kd base w h p sp x0.st.length) (hw : White sp p) {E L : List (Int × Int)} (hE : ∃ r, E = (L ++ allEv t ax ay base w h false p sp h.toNat) ++ r) (he : Evs x0.st.length E) (z : Nat) :
    dAll t ax ay base w h kx false sp (codeOf kx x0 E z) (stOf kx x0 L (List.replicate (w * h).toNat 0)) h.toNat = stOf kx x0 (L ++ allEv t ax ay base w h false p sp h.toNat) p := by
  have hlen := hr.p.len
  have hw0 := hr.p.w0; have hh0 := hr.p.h0
  have : h.toNat * w.toNat = p.length := by
    have : ((h.toNat * w.toNat : Nat) : Int) = h * w := by rw [Int.natCast_mul, Int.toNat_of_nonneg hh0, Int.toNat_of_nonneg hw0]
    rw [Int.mul_comm] at this
    omega
  rw [dAll_rt2 hx hr hw hE he z _ (Nat.le_refl _), this, upTo_all]
end
end Go.Proofs.YtipdidpalcmlhaaGreat.Gen
namespace Go.Proofs.YtipdidpalcmlhaaGreat.Ton
open Go Ev Bm Gen Co
def wd (n : Nat) : Nat := bif Nat.ble n 1 then 0 else bif Nat.ble n 2 then 1 else bif Nat.ble n 4 then 2 else bif Nat.ble n 8 then 3 else bif Nat.ble n 16 then 4 else bif Nat.ble n 32 then 5 else 6
theorem width_at (fl : Nat) (K : Int → Option Ans) : ∀ n : Nat, n ≤ 64 → F_number_Width fl (n : Int) K = K ((wd n : Nat) : Int)
  | 0, _ | 1, _ | 2, _ | 3, _ | 4, _ | 5, _ | 6, _ | 7, _ | 8, _ | 9, _ | 10, _ | 11, _ | 12, _ | 13, _ | 14, _ | 15, _ | 16, _ | 17, _ | 18, _ | 19, _ | 20, _ | 21, _ | 22, _ | 23, _ | 24, _ | 25, _ | 26, _ | 27, _ | 28, _ | 29, _ | 30, _ | 31, _ | 32, _ | 33, _ | 34, _ | 35, _ | 36, _ | 37, _ | 38, _ | 39, _ | 40, _ | 41, _ | 42, _ | 43, _ | 44, _ | 45, _ | 46, _ | 47, _ | 48, _ | 49, _ | 50, _ | 51, _ | 52, _ | 53, _ | 54, _ | 55, _ | 56, _ | 57, _ | 58, _ | 59, _ | 60, _ | 61, _ | 62, _ | 63, _ | 64, _ => by kernel_rfl
  | n + 65, h => by omega
theorem rwidth_at (fl : Nat) (K : Int → Option Ans) : ∀ n : Nat, n ≤ 64 → F_ref03_Width (fl + 9) (n : Int) K = K ((wd n : Nat) : Int)
  | 0, _ | 1, _ | 2, _ | 3, _ | 4, _ | 5, _ | 6, _ | 7, _ | 8, _ | 9, _ | 10, _ | 11, _ | 12, _ | 13, _ | 14, _ | 15, _ | 16, _ | 17, _ | 18, _ | 19, _ | 20, _ | 21, _ | 22, _ | 23, _ | 24, _ | 25, _ | 26, _ | 27, _ | 28, _ | 29, _ | 30, _ | 31, _ | 32, _ | 33, _ | 34, _ | 35, _ | 36, _ | 37, _ | 38, _ | 39, _ | 40, _ | 41, _ | 42, _ | 43, _ | 44, _ | 45, _ | 46, _ | 47, _ | 48, _ | 49, _ | 50, _ | 51, _ | 52, _ | 53, _ | 54, _ | 55, _ | 56, _ | 57, _ | 58, _ | 59, _ | 60, _ | 61, _ | 62, _ | 63, _ | 64, _ => by kernel_rfl
  | n + 65, h => by omega
theorem rwidth_ok {fl : Nat} (hfl : 9223372036854775808 ≤ fl) {n : Nat} (h : n ≤ 64) {K : Int → Option Ans} : F_ref03_Width fl (n : Int) K = K ((wd n : Nat) : Int) := by
  obtain ⟨f, rfl⟩ : ∃ f, fl = f + 9 := ⟨fl - 9, by omega⟩
  exact rwidth_at f K n h
theorem wd_ok : ∀ n : Fin 65, n.val ≤ 2 ^ wd n.val ∧ wd n.val ≤ 6 ∧ (wd n.val = 0 → n.val ≤ 1) := by decide +kernel
def ua (tm : Int) : Int := IntKind.i64.wrap (3 - tm.tmod 2)
theorem options_ok {fl : Nat} {gw gh X Y RX RY tm kd op : Int} {sk : Bool} (h : 0 ≤ tm ∧ tm ≤ 3) {K : Int × Int × Int × Bool × Int → Option Ans} : F_tone_options fl gw gh X Y RX RY tm kd sk op K = K (tm, ua tm, -1, false, kd) := by
  unfold F_tone_options Fg_tone_options F_generic_Usual
  rw [dec_f (by omega), dec_f (by omega)]
  rfl
theorem roptions_ok {fl : Nat} {gw gh X Y RX RY tm kd op : Int} {sk : Bool} (h : 0 ≤ tm ∧ tm ≤ 3) {K : Int × Int × Int × Bool × Int → Option Ans} : F_ref11_options fl gw gh X Y RX RY tm kd sk op K = K (tm, ua tm, -1, false, kd) := by
  unfold F_ref11_options Fg_ref11_options F_ref07_Usual
  rw [dec_f (by omega), dec_f (by omega)]
  rfl
theorem ua_vr {tm kd : Int} (h : 0 ≤ tm ∧ tm ≤ 3) (hk : kd = 0 ∨ kd = 1) : vr tm (ua tm) (-1) kd = true := by
  have : tm = 0 ∨ tm = 1 ∨ tm = 2 ∨ tm = 3 := by omega
  rcases this with rfl | rfl | rfl | rfl <;> rcases hk with rfl | rfl <;> decide
def plEv (tm : Int) (gw gh : Nat) (sp : List Int) : List (List Int) → List (Int × Int)
  | [] => []
  | p :: r => allEv tm (ua tm) (-1) 0 (gw : Int) (gh : Int) false p sp gh ++ plEv tm gw gh sp r
theorem plEv_app (tm : Int) (gw gh : Nat) (sp : List Int) : ∀ a b, plEv tm gw gh sp (a ++ b) = plEv tm gw gh sp a ++ plEv tm gw gh sp b
  | [], b => rfl
  | p :: a, b => by simp only [List.cons_append, plEv, plEv_app tm gw gh sp a b, List.append_assoc]
structure POk (tm kd : Int) (gw gh : Nat) (sp : List Int) (P : List (List Int)) : Prop where
  v : vr tm (ua tm) (-1) kd = true
  g : gw ≤ 64 ∧ gh ≤ 64
  s : Skp (gw : Int) (gh : Int) (gw : Int) (gh : Int) sp
  n : P.length ≤ 8
  p : ∀ p ∈ P, Pix (gw : Int) (gh : Int) p ∧ White sp p
section
variable {fl : Nat} {tm kd : Int} {gw gh : Nat} {sp : List Int} {P : List (List Int)}
theorem POk.reg (H : POk tm kd gw gh sp P) {p : List Int} (hp : p ∈ P) {n : Nat} (hn : n = (iv0 tm).st.length) : Reg tm (ua tm) (-1) kd 0 (gw : Int) (gh : Int) p sp n := by
  subst hn
  have r := reg0 H.v (H.p p hp).1
  exact ⟨r.v, r.p, H.s.sk, r.b0, r.b1⟩
theorem POk.take (H : POk tm kd gw gh sp P) (i : Nat) : POk tm kd gw gh sp (P.take i) := ⟨H.v, H.g, H.s, by rw [List.length_take]; have := H.n; omega, fun p hp => H.p p (List.mem_of_mem_take hp)⟩
theorem POk.evs : ∀ {P : List (List Int)}, POk tm kd gw gh sp P → Evs (iv0 tm).st.length (plEv tm gw gh sp P) ∧ (plEv tm gw gh sp P).length ≤ 4160 * P.length
  | [], H => ⟨fun e he => by simp [plEv] at he, by simp [plEv]⟩
  | p :: r, H => by
    have ih := POk.evs (P := r) ⟨H.v, H.g, H.s, by have := H.n; simp at this; omega, fun q hq => H.p q (by simp [hq])⟩
    obtain ⟨e1, e2⟩ := allEv_ok (H.reg (p := p) (by simp) rfl) false gh
    have e3 : ((gw : Int).toNat + 1) * gh ≤ 65 * 64 := Nat.mul_le_mul (by have := H.g.1; omega) H.g.2
    refine ⟨Evs.append e1 ih.1, ?_⟩
    simp only [plEv, List.length_append, List.length_cons]
    omega
theorem POk.st (H : POk tm kd gw gh sp P) : (run kd (iv0 tm) [] (plEv tm gw gh sp P)).1.Ok kd ∧ (run kd (iv0 tm) [] (plEv tm gw gh sp P)).1.st.length = (iv0 tm).st.length ∧ (run kd (iv0 tm) [] (plEv tm gw gh sp P)).2.length ≤ 166400 := by
  obtain ⟨e1, e2⟩ := H.evs
  obtain ⟨a, b⟩ := run_ok (plEv tm gw gh sp P) (out := []) (iv0_ok H.v) e1
  have c := run_len_le (plEv tm gw gh sp P) (kd := kd) (x := iv0 tm) (out := [])
  have := H.n
  simp only [List.length_nil] at c
  exact ⟨a, b, by omega⟩
theorem plEv_take (H : POk tm kd gw gh sp P) {i : Nat} (hi : i < P.length) : run kd (iv0 tm) [] (plEv tm gw gh sp (P.take (i + 1))) = run kd (run kd (iv0 tm) [] (plEv tm gw gh sp (P.take i))).1 (run kd (iv0 tm) [] (plEv tm gw gh sp (P.take i))).2 (allEv tm (ua tm) (-1) 0 (gw : Int) (gh : Int) false (P.getD i []) sp gh) := by
  have e : P.take (i + 1) = P.take i ++ [P.getD i []] := by rw [List.take_succ_eq_append_getElem hi, getD_lt hi]
  rw [e, plEv_app, run_append]
  simp only [plEv, List.append_nil]
theorem enc_loop (hfl : 9223372036854775808 ≤ fl) (H : POk tm kd gw gh sp P) {X Y RX RY op : Int} {sk : Bool} {K} :
    L_tone_Encode_0 fl ((P.length : Int), 0, (gw : Int), (gh : Int), X, Y, RX, RY, tm, kd, sk, op, (gw : Int), (gh : Int), tm, ua tm, -1, false, kd, kd, 0, 4294967295, true, P, sp, List.replicate (size tm).toNat 0, []) K
    = K (kd, (run kd (iv0 tm) [] (plEv tm gw gh sp P)).1.lo, (run kd (iv0 tm) [] (plEv tm gw gh sp P)).1.hi, true, (run kd (iv0 tm) [] (plEv tm gw gh sp P)).1.st, (run kd (iv0 tm) [] (plEv tm gw gh sp P)).2) := by
  have hn := H.n
  unfold L_tone_Encode_0
  refine iter_seq (step := S_tone_Encode_0 fl) (fun i : Nat => ((P.length : Int), (i : Int), (gw : Int), (gh : Int), X, Y, RX, RY, tm, kd, sk, op, (gw : Int), (gh : Int), tm, ua tm, -1, false, kd, kd, (run kd (iv0 tm) [] (plEv tm gw gh sp (P.take i))).1.lo, (run kd (iv0 tm) [] (plEv tm gw gh sp (P.take i))).1.hi, true, P, sp, (run kd (iv0 tm) [] (plEv tm gw gh sp (P.take i))).1.st, (run kd (iv0 tm) [] (plEv tm gw gh sp (P.take i))).2)) P.length rfl (fun i hi c => ?_) (fun c => ?_) (by omega)
  · obtain ⟨s1, s2, s3⟩ := (H.take i).st
    have hm := getD_mem (l := P) hi []
    have hl := iv0_len tm
    rw [plEv_take H hi]
    simp only [S_tone_Encode_0, Sg_tone_Encode_0]
    generalize run kd (iv0 tm) [] (plEv tm gw gh sp (P.take i)) = R at *
    obtain ⟨x, o⟩ := R
    simp only at s1 s2 s3 ⊢
    rw [dec_t (by omega), dec_t (by omega), Int.toNat_natCast, w6 (x := (i : Int) + 1)]
    exact gput2 hfl s1 (H.reg hm s2) (by omega) H.s (H.p _ hm).2 (by omega) (by first | rfl | (simp only [Int.toNat_natCast]; rfl)) (by first | rfl | (simp only [Int.toNat_natCast]; rfl))
  · simp only [S_tone_Encode_0, Sg_tone_Encode_0]
    rw [dec_f (by omega), List.take_length]
end
end Go.Proofs.YtipdidpalcmlhaaGreat.Ton
namespace Go.Proofs.YtipdidpalcmlhaaGreat.Tone
open Go Ev
theorem getD_mid {α : Type} (pre : List α) (x : α) (suf : List α) (d : α) : (pre ++ x :: suf).getD pre.length d = x := by simp
def bad (k v : Int) : Bool := decide (v < 0) || decide (v ≥ 2 ^ k.toNat)
theorem f58 {fl : Nat} {v k : Int} {K : Bool × Int → Option Ans} (h0 : 0 ≤ k) (h : k ≤ 62) : F_tone_Planes_1_e21 fl v k K = K (bad k v, k) := by
  unfold F_tone_Planes_1_e21 bad
  by_cases hv : v < 0
  · rw [dec_t hv, decide_eq_true hv]; rfl
  · rw [dec_f hv, dec_f (by omega), decide_eq_false hv, ishl_one h0 h]; rfl
def ffind (p : Int → Bool) : List Int → Option Nat
  | [] => none
  | x :: r => bif p x then some 0 else (match ffind p r with | some j => some (j + 1) | none => none)
theorem ffind_any (p : Int → Bool) : ∀ l, (ffind p l).isSome = l.any p
  | [] => rfl
  | x :: r => by
    simp only [ffind, List.any_cons]
    cases hp : p x with
    | true => rfl
    | false =>
      simp only [cond_false, Bool.false_or]
      rw [← ffind_any p r]
      cases ffind p r <;> rfl
theorem idx_loop {fl : Nat} {k : Int} (h0 : 0 ≤ k) (h : k ≤ 62) {ret : Int × Int → Option Ans} {b : Int → Option Ans} : ∀ (suf pre : List Int) (n : Nat), suf.length < n → pre.length + suf.length < 4611686018427387904 →
    iter (S_slices_IndexFunc_int_int_69c_0 fl) n (pre ++ suf, ((pre.length + suf.length : Nat) : Int), (pre.length : Int), k) (ret, b) = match ffind (bad k) suf with | some j => ret ((pre.length : Int) + j, k) | none => b k
  | [], pre, n, hn, hl => by
    obtain ⟨m, rfl⟩ : ∃ m, n = m + 1 := ⟨n - 1, by simp at hn; omega⟩
    simp only [iter, S_slices_IndexFunc_int_int_69c_0, Sg_slices_IndexFunc_int_int_69c_0]
    rw [dec_f (by simp)]
    rfl
  | x :: suf, pre, n, hn, hl => by
    obtain ⟨m, rfl⟩ : ∃ m, n = m + 1 := ⟨n - 1, by simp at hn; omega⟩
    simp only [List.length_cons] at hn hl
    simp only [iter, S_slices_IndexFunc_int_int_69c_0, Sg_slices_IndexFunc_int_int_69c_0]
    rw [dec_t (by simp; omega), dec_t (by simp; omega), f58 h0 h, Int.toNat_natCast, getD_mid]
    simp only [ffind]
    cases hb : bad k x with
    | true => simp
    | false =>
      simp only [cond_false]
      have ih := idx_loop h0 h (ret := ret) (b := b) (fl := fl) suf (pre ++ [x]) m (by omega) (by simp; omega)
      rw [wrap64 (by omega) (by omega)]
      have e1 : (pre ++ [x]) ++ suf = pre ++ x :: suf := by simp
      have e2 : (((pre ++ [x]).length + suf.length : Nat) : Int) = ((pre.length + (x :: suf).length : Nat) : Int) := by simp; omega
      have e3 : (((pre ++ [x]).length : Nat) : Int) = (pre.length : Int) + 1 := by simp
      rw [e1, e2, e3] at ih
      rw [ih]
      cases ffind (bad k) suf with
      | none => rfl
      | some j => simp only []; congr 2; simp; omega
theorem f57 {k : Int} (h0 : 0 ≤ k) (h : k ≤ 62) {l : List Int} (hl : l.length < 4611686018427387904) {K : Bool × Int → Option Ans} : F_slices_ContainsFunc_int_int_69c fuel l k K = K (l.any (bad k), k) := by
  unfold F_slices_ContainsFunc_int_int_69c Fg_slices_ContainsFunc_int_int_69c F_slices_IndexFunc_int_int_69c Fg_slices_IndexFunc_int_int_69c L_slices_IndexFunc_int_int_69c_0
  have := idx_loop h0 h (fl := fuel) (ret := fun v => match v with | (a, c) => K (decide (a ≥ 0), c)) (b := fun c => K (decide ((-1 : Int) ≥ 0), c)) l [] fuel (fuel_lt (by omega)) (by simpa using hl)
  simp only [List.nil_append, List.length_nil, Nat.zero_add, Int.natCast_zero] at this
  refine this.trans ?_
  rw [← ffind_any]
  cases ffind (bad k) l with
  | none => rfl
  | some j =>
    simp only [Option.isSome_some]
    rw [decide_eq_true (by omega)]
def gb (j : Nat) (v : Int) : Int := (v / 2 ^ j + v / 2 ^ (j + 1)) % 2
theorem gb_01 (j : Nat) (v : Int) : gb j v = 0 ∨ gb j v = 1 := by unfold gb; omega
theorem pow_pos' (j : Nat) : (0 : Int) < 2 ^ j := Int.pow_pos (by omega)
theorem div_le' {v : Int} (h : 0 ≤ v) (j : Nat) : 0 ≤ v / 2 ^ j ∧ v / 2 ^ j ≤ v :=
  ⟨Int.ediv_nonneg h (Int.le_of_lt (pow_pos' j)), Int.ediv_le_self _ h⟩
theorem gb_text {j v : Int} (h0 : 0 ≤ j) (h : j ≤ 7) (hv : 0 ≤ v) (hv' : v < 9223372036854775808) :
    IntKind.u8.wrap (iand .i64 (ixor .i64 (ishr .i64 v j) (ishr .i64 v (j + 1))) 1) = gb j.toNat v := by
  rw [ishr_eq h0 (by omega), ishr_eq (by omega) (by omega)]
  have a := div_le' hv j.toNat
  have b := div_le' hv (j + 1).toNat
  rw [gray_bit a.1 (by omega) b.1 (by omega)]
  have e : (j + 1).toNat = j.toNat + 1 := by omega
  rw [e]
  rw [e] at b
  unfold gb
  exact wrap8 (by omega) (by omega)
theorem plane_loop {fl : Nat} {vals out j b} (h0 : 0 ≤ j) (h : j ≤ 7) : ∀ (suf pre pl : List Int) (n : Nat), suf.length < n → pre.length + suf.length ≤ 17592186044416 → pl.length = pre.length → (∀ v ∈ suf, 0 ≤ v ∧ v < 9223372036854775808) →
    iter (S_tone_Planes_2 fl) n (vals, j, pre ++ suf, ((pre.length + suf.length : Nat) : Int), (pre.length : Int), out, pl) b = b (vals, j, out, pl ++ suf.map (gb j.toNat))
  | [], pre, pl, n, hn, hl, hp, hv => by
    obtain ⟨m, rfl⟩ : ∃ m, n = m + 1 := ⟨n - 1, by simp at hn; omega⟩
    simp only [iter, S_tone_Planes_2, Sg_tone_Planes_2]
    rw [dec_f (by simp)]
    simp
  | x :: suf, pre, pl, n, hn, hl, hp, hv => by
    obtain ⟨m, rfl⟩ : ∃ m, n = m + 1 := ⟨n - 1, by simp at hn; omega⟩
    simp only [List.length_cons] at hn hl
    obtain ⟨hx0, hx1⟩ := hv x (by simp)
    simp only [iter, S_tone_Planes_2, Sg_tone_Planes_2]
    rw [dec_t (by simp; omega), dec_t (by simp; omega), dec_f (by omega), wrap64 (by omega) (by omega), dec_f (by omega), Int.toNat_natCast, getD_mid, gb_text h0 h hx0 hx1, dec_t (by simp; omega)]
    have ih := plane_loop (fl := fl) (vals := vals) (out := out) (b := b) h0 h suf (pre ++ [x]) (pl ++ [gb j.toNat x]) m (by omega) (by simp; omega) (by simp [hp]) (fun v hv' => hv v (by simp [hv']))
    rw [wrap64 (by omega) (by omega)]
    have e1 : (pre ++ [x]) ++ suf = pre ++ x :: suf := by simp
    have e2 : (((pre ++ [x]).length + suf.length : Nat) : Int) = ((pre.length + (x :: suf).length : Nat) : Int) := by simp; omega
    have e3 : (((pre ++ [x]).length : Nat) : Int) = (pre.length : Int) + 1 := by simp
    rw [e1, e2, e3] at ih
    rw [ih]
    simp
def plD (vals : List Int) : Nat → List (List Int)
  | 0 => []
  | t + 1 => vals.map (gb t) :: plD vals t
theorem plD_length (vals : List Int) : ∀ t, (plD vals t).length = t
  | 0 => rfl
  | t + 1 => by simp [plD, plD_length vals t]
theorem planes_loop {fl : Nat} (hfl : 17592186044416 < fl) {vals b} (hl : vals.length ≤ 17592186044416) (hv : ∀ v ∈ vals, 0 ≤ v ∧ v < 9223372036854775808) : ∀ (t : Nat) (out : List (List Int)) (n : Nat), t < n → t ≤ 8 → out.length + t ≤ 1000 →
    iter (S_tone_Planes_0 fl) n (vals, (t : Int) - 1, out) b = b (out ++ plD vals t)
  | 0, out, n, hn, ht, ho => by
    obtain ⟨m, rfl⟩ : ∃ m, n = m + 1 := ⟨n - 1, by omega⟩
    simp only [iter, S_tone_Planes_0, Sg_tone_Planes_0]
    rw [dec_f (by omega)]
    simp [plD]
  | t + 1, out, n, hn, ht, ho => by
    obtain ⟨m, rfl⟩ : ∃ m, n = m + 1 := ⟨n - 1, by omega⟩
    simp only [iter, S_tone_Planes_0, Sg_tone_Planes_0, L_tone_Planes_2]
    rw [dec_t (by omega)]
    have e : ((t + 1 : Nat) : Int) - 1 = t := by omega
    rw [e]
    have hp := fun b => plane_loop (fl := fl) (vals := vals) (out := out) (j := t) (b := b) (by omega) (by omega) vals [] [] fl (by omega) (by simpa using hl) rfl hv
    simp only [List.nil_append, List.length_nil, Nat.zero_add, Int.natCast_zero] at hp
    rw [hp]
    simp only
    rw [dec_t (by simp; omega), wrap64 (by omega) (by omega), planes_loop hfl hl hv t _ m (by omega) (by omega) (by simp; omega)]
    simp [plD]
theorem bad_iff {k v : Int} : bad k v = false ↔ 0 ≤ v ∧ v < 2 ^ k.toNat := by
  unfold bad
  rw [Bool.or_eq_false_iff, decide_eq_false_iff_not, decide_eq_false_iff_not]
  omega
theorem pow_le8 {k : Int} (h0 : 0 ≤ k) (h : k ≤ 8) : (2 : Int) ^ k.toNat ≤ 256 := by
  have := Nat.pow_le_pow_right (n := 2) (by omega) (show k.toNat ≤ 8 by omega)
  have h2 : (2 : Nat) ^ k.toNat ≤ 256 := this
  have h3 : (2 : Int) ^ k.toNat = ((2 ^ k.toNat : Nat) : Int) := by rw [Int.natCast_pow]; rfl
  rw [h3]
  omega
def planes (vals : List Int) (k : Int) : Int × List (List Int) :=
  if k < 0 ∨ k > 8 ∨ vals.any (bad k) = true then (2, []) else (0, plD vals k.toNat)
theorem f16 {vals : List Int} {k : Int} (hl : vals.length ≤ 17592186044416) {K : Int × List (List Int) → Option Ans} : F_tone_Planes fuel vals k K = K (planes vals k) := by
  unfold F_tone_Planes Fg_tone_Planes planes
  by_cases h1 : k < 0
  · rw [dec_t h1, if_pos (.inl h1)]
  · rw [dec_f h1]
    by_cases h2 : k > 8
    · rw [dec_t h2, if_pos (.inr (.inl h2))]
    · rw [dec_f h2, f57 (by omega) (by omega) (by omega)]
      simp only
      cases h3 : vals.any (bad k) with
      | true => rw [if_pos (.inr (.inr rfl))]; rfl
      | false =>
        rw [if_neg (by simp; omega)]
        simp only [cond_false]
        unfold L_tone_Planes_0
        have hv : ∀ v ∈ vals, 0 ≤ v ∧ v < 9223372036854775808 := fun v hv => by
          have := bad_iff.1 (Bool.eq_false_iff.2 fun hb => by
            have := List.any_eq_false.1 h3 v hv
            exact this hb)
          have h8 := pow_le8 (k := k) (by omega) (by omega)
          omega
        have hp := planes_loop (fl := fuel) (fuel_lt (by omega)) (b := fun v => K (0, v)) hl hv k.toNat [] fuel (fuel_lt (by omega)) (by omega) (by simp; omega)
        rw [wrap64 (by omega) (by omega)]
        have e : ((k.toNat : Nat) : Int) = k := by omega
        rw [e] at hp
        simpa using hp
theorem f17 {K : Bool → Option Ans} : F_law11_Sane fuel K = K true := by
  unfold F_law11_Sane Fg_law11_Sane
  rw [f16 (by decide)]
  have : planes [0, 1, 2, 3] 2 = (0, [[0, 0, 1, 1], [0, 1, 1, 0]]) := by decide
  rw [this]
  simp only [show ([[0, 0, 1, 1], [0, 1, 1, 0]] : List (List Int)).getD (Int.toNat 0) [] = [0, 0, 1, 1] from rfl, show ([[0, 0, 1, 1], [0, 1, 1, 0]] : List (List Int)).getD (Int.toNat 1) [] = [0, 1, 1, 0] from rfl, beq_self_eq_true,
    show ((([[0, 0, 1, 1], [0, 1, 1, 0]] : List (List Int)).length : Int) == 2) = true from rfl, show decide ((0 : Int) ≤ 0 ∧ (0 : Int) < (([[0, 0, 1, 1], [0, 1, 1, 0]] : List (List Int)).length : Int)) = true from rfl,
    show decide ((0 : Int) ≤ 1 ∧ (1 : Int) < (([[0, 0, 1, 1], [0, 1, 1, 0]] : List (List Int)).length : Int)) = true from rfl, cond_true, both_same]
open Go Ev
theorem sameInts {l : List Int} {K : Bool → Option Ans} {fl : Nat} (hl : l.length < fl) (hl2 : l.length ≤ 4611686018427387904) : F_ref01_SameInts fl l l K = K true := by
  unfold F_ref01_SameInts L_ref01_SameInts_0
  rw [cond_f (by simp)]
  refine iter_to (step := S_ref01_SameInts_0 fl) (fun i => (l, l, (i : Int))) l.length (fun i hi c => ?_) (fun c => ?_) hl
  · simp (disch := omega) only [S_ref01_SameInts_0, dec_t, wrap64, Int.toNat_natCast]
    simp
  · simp only [S_ref01_SameInts_0]
    rw [dec_f (by omega)]
theorem gb_text2 {j v : Int} (h0 : 0 ≤ j) (h : j ≤ 7) (hv : 0 ≤ v) (hv' : v < 256) :
    IntKind.u8.wrap ((IntKind.i64.wrap (ishr .i64 v j + ishr .i64 v (j + 1))).tmod 2) = gb j.toNat v := by
  rw [ishr_eq h0 (by omega), ishr_eq (by omega) (by omega)]
  have a := div_le' hv j.toNat
  have b := div_le' hv (j + 1).toNat
  have e : (j + 1).toNat = j.toNat + 1 := by omega
  rw [e] at b ⊢
  unfold gb
  rw [wrap64 (by omega) (by omega), Int.tmod_eq_emod_of_nonneg (by omega)]
  exact wrap8 (by omega) (by omega)
theorem r_plane {fl : Nat} {vals out j b} (h0 : 0 ≤ j) (h : j ≤ 7) (hl : vals.length ≤ 17592186044416) (hfl : 17592186044416 < fl) (hv : ∀ v ∈ vals, 0 ≤ v ∧ v < 256) :
    L_ref11_Planes_4 fl (vals, j, 0, out, []) b = b (vals, j, out, vals.map (gb j.toNat)) := by
  unfold L_ref11_Planes_4
  refine iter_to (step := S_ref11_Planes_4 fl) (fun i => (vals, j, (i : Int), out, (vals.take i).map (gb j.toNat))) vals.length (fun i hi c => ?_) (fun c => ?_) (by omega)
  · obtain ⟨h1, h2⟩ := hv _ (getD_mem hi 0)
    simp (disch := omega) only [S_ref11_Planes_4, dec_t, dec_f, wrap64, Int.toNat_natCast, gb_text2, map_take_succ hi 0]
    rw [dec_t (by simp; omega)]
    rfl
  · simp only [S_ref11_Planes_4, List.take_length]
    rw [dec_f (by omega)]
theorem r_planes {fl : Nat} (hfl : 17592186044416 < fl) {vals b} (hl : vals.length ≤ 17592186044416) (hv : ∀ v ∈ vals, 0 ≤ v ∧ v < 256) : ∀ (t : Nat) (out : List (List Int)) (n : Nat), t < n → t ≤ 8 → out.length + t ≤ 1000 →
    iter (S_ref11_Planes_2 fl) n (vals, (t : Int) - 1, out) b = b (out ++ plD vals t)
  | 0, out, n, hn, ht, ho => by
    obtain ⟨m, rfl⟩ : ∃ m, n = m + 1 := ⟨n - 1, by omega⟩
    simp only [iter, S_ref11_Planes_2]
    rw [dec_f (by omega)]
    simp [plD]
  | t + 1, out, n, hn, ht, ho => by
    obtain ⟨m, rfl⟩ : ∃ m, n = m + 1 := ⟨n - 1, by omega⟩
    simp only [iter, S_ref11_Planes_2]
    rw [dec_t (by omega)]
    have e : ((t + 1 : Nat) : Int) - 1 = t := by omega
    rw [e, r_plane (by omega) (by omega) hl hfl hv]
    simp only
    rw [dec_t (by simp; omega), wrap64 (by omega) (by omega), r_planes hfl hl hv t _ m (by omega) (by omega) (by simp; omega)]
    simp [plD]
theorem any_bad {k : Int} (h0 : 0 ≤ k) (h8 : k ≤ 8) {vals : List Int} (h : vals.any (bad k) = false) : ∀ v ∈ vals, 0 ≤ v ∧ v < 256 := by
  intro v hv
  have := bad_iff.1 (Bool.eq_false_iff.2 fun hb => List.any_eq_false.1 h v hv hb)
  have h8 := pow_le8 (k := k) h0 h8
  omega
theorem refPlanes {vals : List Int} {k : Int} (hl : vals.length ≤ 17592186044416) {K : Int × List (List Int) → Option Ans} : F_ref11_Planes fuel vals k K = K (planes vals k) := by
  unfold F_ref11_Planes planes
  by_cases h1 : k < 0
  · rw [dec_t h1, if_pos (.inl h1)]
  · rw [dec_f h1]
    by_cases h2 : k > 8
    · rw [dec_t h2, if_pos (.inr (.inl h2))]
    · rw [dec_f h2]
      unfold L_ref11_Planes_0
      rcases all_or_first (fun v => !bad k v) 0 vals with h | ⟨n, hn, hb, hi⟩
      · have hany : vals.any (bad k) = false := by
          rw [List.any_eq_false]
          intro v hv
          have := List.all_eq_true.1 h v hv
          simpa using this
        have hv := any_bad (by omega) (by omega) hany
        rw [if_neg (by rw [hany]; simp; omega)]
        refine iter_to (step := S_ref11_Planes_0 fuel) (fun i => (vals, k, (i : Int))) vals.length (fun i hi c => ?_) (fun c => ?_) (fuel_lt (by omega))
        · obtain ⟨g1, g2⟩ := bad_iff.1 (show bad k (vals.getD i 0) = false by simpa using all_getD h 0 hi)
          simp (disch := omega) only [S_ref11_Planes_0, dec_t, dec_f, wrap64, Int.toNat_natCast, ishl_one]
          rfl
        · simp (disch := omega) only [S_ref11_Planes_0, dec_f, L_ref11_Planes_2]
          have hp := r_planes (fl := fuel) (fuel_lt (by omega)) (b := fun v => K (0, v)) hl hv k.toNat [] fuel (fuel_lt (by omega)) (by omega) (by simp; omega)
          rw [wrap64 (by omega) (by omega)]
          have e : ((k.toNat : Nat) : Int) = k := by omega
          rw [e] at hp
          simpa using hp
      · have hb : bad k (vals.getD n 0) = true := by simpa using hb
        rw [if_pos (.inr (.inr (List.any_eq_true.2 ⟨_, getD_mem hn 0, hb⟩)))]
        refine iter_to (step := S_ref11_Planes_0 fuel) (fun i => (vals, k, (i : Int))) n (fun i hin c => ?_) (fun c => ?_) (fuel_lt (by omega))
        · obtain ⟨g1, g2⟩ := bad_iff.1 (show bad k (vals.getD i 0) = false by simpa using hi i hin)
          simp (disch := omega) only [S_ref11_Planes_0, dec_t, dec_f, wrap64, Int.toNat_natCast, ishl_one]
          rfl
        · unfold bad at hb
          simp (disch := omega) only [S_ref11_Planes_0, dec_t, Int.toNat_natCast]
          by_cases hneg : vals.getD n 0 < 0
          · rw [dec_t hneg]
          · rw [dec_f hneg, dec_f (by omega), ishl_one (by omega) (by omega)]
            rw [decide_eq_false hneg, Bool.false_or] at hb
            rw [hb]
            rfl
def gs (v x : Int) : Int := 2 * v + (v % 2 + x) % 2
def gz (vs xs : List Int) : List Int := List.zipWith gs vs xs
def fromP (n : Nat) : List (List Int) → List Int
  | ps => ps.foldl gz (List.replicate n 0)
def okP (n : Nat) (p : List Int) : Bool := decide (p.length = n) && p.all fun x => decide (x ≤ 1)
def sides (ps : List (List Int)) : Nat := (ps.getD 0 []).length
def fromPlanes (ps : List (List Int)) : Int × List Int :=
  if ps.length > 8 ∨ ps.all (okP (sides ps)) = false then (2, []) else (0, fromP (sides ps) ps)
def small (t : Nat) (vs : List Int) : Prop := ∀ v ∈ vs, 0 ≤ v ∧ v < 2 ^ t
theorem gs_small {t : Nat} {v x : Int} (h : 0 ≤ v ∧ v < 2 ^ t) : 0 ≤ gs v x ∧ gs v x < 2 ^ (t + 1) := by
  unfold gs
  rw [Int.pow_succ]
  omega
theorem gz_small {t : Nat} {vs xs : List Int} (h : small t vs) : small (t + 1) (gz vs xs) := by
  intro v hv
  obtain ⟨i, hi, rfl⟩ := List.mem_iff_getElem.1 hv
  simp only [gz, List.getElem_zipWith]
  simp only [gz, List.length_zipWith] at hi
  exact gs_small (h _ (List.getElem_mem (by omega)))
theorem gz_length {vs xs : List Int} (h : xs.length = vs.length) : (gz vs xs).length = vs.length := by simp [gz, h]
theorem xor_text {v x : Int} (h0 : 0 ≤ v) (h : v < 2 ^ 9) (hx : x = 0 ∨ x = 1) : IntKind.i64.wrap (IntKind.i64.wrap (2 * v) + ixor .i64 (iand .i64 v 1) (IntKind.i64.wrap x)) = gs v x := by
  have e9 : (2 : Int) ^ 9 = 512 := by decide
  rw [e9] at h
  rw [w6 (x := x), w6 (x := 2 * v), iand_one h0 (by omega)]
  have hm : v % 2 = 0 ∨ v % 2 = 1 := by omega
  have key : ixor .i64 (v % 2) x = (v % 2 + x) % 2 := by
    rcases hm with hm | hm <;> rcases hx with rfl | rfl <;> rw [hm] <;> decide
  rw [key]
  unfold gs
  exact wrap64 (by omega) (by omega)
theorem add_text {v x : Int} (h0 : 0 ≤ v) (h : v < 2 ^ 9) (hx : x = 0 ∨ x = 1) : IntKind.i64.wrap (IntKind.i64.wrap (2 * v) + (IntKind.i64.wrap (IntKind.i64.wrap x + Int.tmod v 2)).tmod 2) = gs v x := by
  have e9 : (2 : Int) ^ 9 = 512 := by decide
  rw [e9] at h
  rw [Int.tmod_eq_emod_of_nonneg h0, w6 (x := x), w6 (x := 2 * v), w6 (x := x + v % 2), Int.tmod_eq_emod_of_nonneg (by omega)]
  unfold gs
  rw [show x + v % 2 = v % 2 + x from Int.add_comm _ _]
  exact wrap64 (by omega) (by omega)
def half (vs xs : List Int) (i : Nat) : List Int := (gz vs xs).take i ++ vs.drop i
theorem half_zero (vs xs : List Int) : half vs xs 0 = vs := by simp [half]
theorem half_all {vs xs : List Int} (h : xs.length = vs.length) : half vs xs vs.length = gz vs xs := by
  unfold half
  rw [List.drop_length, List.append_nil, List.take_of_length_le]
  rw [gz_length h]
  exact Nat.le_refl _
theorem half_len {vs xs : List Int} (h : xs.length = vs.length) {i : Nat} (hi : i ≤ vs.length) : (half vs xs i).length = vs.length := by
  simp [half, gz_length h]
  omega
theorem half_get {vs xs : List Int} (h : xs.length = vs.length) {i : Nat} (hi : i < vs.length) : (half vs xs i).getD i 0 = vs.getD i 0 := by
  have hl : ((gz vs xs).take i).length = i := by rw [List.length_take, gz_length h]; omega
  unfold half
  rw [List.getD_eq_getElem?_getD, List.getElem?_append_right (by omega), hl, List.getElem?_drop]
  simp
theorem half_set {vs xs : List Int} (h : xs.length = vs.length) {i : Nat} (hi : i < vs.length) : (half vs xs i).set i (gs (vs.getD i 0) (xs.getD i 0)) = half vs xs (i + 1) := by
  have hl : ((gz vs xs).take i).length = i := by rw [List.length_take, gz_length h]; omega
  unfold half
  rw [List.set_append_right _ _ (by omega), hl, Nat.sub_self, take_succ_getD (by rw [gz_length h]; exact hi) 0, List.append_assoc]
  congr 1
  rw [List.drop_eq_getElem_cons hi]
  have : (gz vs xs).getD i 0 = gs (vs.getD i 0) (xs.getD i 0) := by
    rw [getD_lt (by rw [gz_length h]; exact hi), getD_lt hi, getD_lt (by omega)]
    simp [gz]
  rw [this]
  rfl
theorem okP_iff {n : Nat} {p : List Int} : okP n p = true ↔ p.length = n ∧ ∀ x ∈ p, x ≤ 1 := by
  unfold okP
  rw [Bool.and_eq_true, decide_eq_true_eq, List.all_eq_true]
  simp
end Go.Proofs.YtipdidpalcmlhaaGreat.Tone
namespace Go.Proofs.YtipdidpalcmlhaaGreat.Ton
open Go Ev Bm Gen Co
structure PlF (fl : Nat) : Prop where
  hfl : 9223372036854775808 ≤ fl
  g : ∀ (vals : List Int) (k : Int), vals.length ≤ 17592186044416 → ∀ K : Int × List (List Int) → Option Ans, F_tone_Planes fl vals k K = K (Tone.planes vals k)
  r : ∀ (vals : List Int) (k : Int), vals.length ≤ 17592186044416 → ∀ K : Int × List (List Int) → Option Ans, F_ref11_Planes fl vals k K = K (Tone.planes vals k)
theorem plD_mem {v : List Int} {p : List Int} : ∀ {n : Nat}, p ∈ Tone.plD v n → ∃ j, j < n ∧ p = v.map (Tone.gb j)
  | 0, h => absurd h (by simp [Tone.plD])
  | n + 1, h => by
    unfold Tone.plD at h
    rcases List.mem_cons.1 h with h | h
    · exact ⟨n, by omega, h⟩
    · obtain ⟨j, hj, e⟩ := plD_mem h
      exact ⟨j, by omega, e⟩
theorem gb_zero (j : Nat) : Tone.gb j 0 = 0 := by simp [Tone.gb]
section
variable {fl gw gh : Nat} {X Y RX RY tm kd op w h : Int} {l : List Bmp} {v : List Int} {sk : Bool}
theorem skL_01 {pw ph : Int} {n : Nat} : ∀ u ∈ skL gw X Y RX RY sk pw ph w h n, 0 ≤ u ∧ u ≤ 1 := fun u hu => by
  unfold skL at hu
  obtain ⟨i, _, rfl⟩ := List.mem_map.1 hu
  unfold skU
  split <;> omega
theorem Good.tmk (G : Good fl gw gh X Y RX RY tm kd op w h l) : (0 ≤ tm ∧ tm ≤ 3) ∧ (kd = 0 ∨ kd = 1) ∧ vr tm (ua tm) (-1) kd = true := by
  obtain ⟨_, _, _, _, _, t1, t2, t3, _, _⟩ := tv_iff.1 G.t
  exact ⟨⟨t1, t2⟩, t3, ua_vr ⟨t1, t2⟩ t3⟩
theorem Good.sp (G : Good fl gw gh X Y RX RY tm kd op w h l) {pw ph : Int} : Skp (gw : Int) (gh : Int) (gw : Int) (gh : Int) (skL gw X Y RX RY sk pw ph w h (gw * gh)) := by
  obtain ⟨f1, f2, f3, f4, f5⟩ := fit_iff.1 (fit_g G.t)
  refine ⟨valid_iff.2 ⟨⟨f1, f2, f3, f4, f5⟩, ?_, fun u hu => (skL_01 u hu).2⟩, fun u hu => (skL_01 u hu).1, .inr ⟨rfl, rfl⟩⟩
  rw [skL_len, Int.natCast_mul]
theorem Good.pok (G : Good fl gw gh X Y RX RY tm kd op w h l) (hk : okV gw gh X Y RX RY sk w h l v) {n : Nat} (hn : n ≤ 8) : POk tm kd gw gh (skL gw X Y RX RY sk (l0 l).1 (l0 l).2.1 w h (gw * gh)) (Tone.plD v n) := by
  obtain ⟨f1, f2, f3, f4, f5⟩ := fit_iff.1 (fit_g G.t)
  have g := G.g
  refine ⟨G.tmk.2.2, ⟨g.1, g.2.1⟩, G.sp, by rw [Tone.plD_length]; exact hn, fun p hp => ?_⟩
  obtain ⟨j, _, rfl⟩ := plD_mem hp
  refine ⟨⟨f1, f2, f3, f4, f5, by rw [List.length_map, hk.1, Int.natCast_mul], fun u hu => ?_⟩, fun i hi => ?_⟩
  · obtain ⟨x, _, rfl⟩ := List.mem_map.1 hu
    have := Tone.gb_01 j x
    omega
  · have h1 : (skL gw X Y RX RY sk (l0 l).1 (l0 l).2.1 w h (gw * gh)).getD i 0 = 1 := of_decide_eq_true hi
    by_cases hl : i < v.length
    · have h2 : v.getD i 0 = 0 := by
        rcases (hk.2 i hl).2.2 with h | h
        · exact h
        · exact absurd h1 h
      rw [List.getD_eq_getElem?_getD, List.getElem?_eq_getElem hl] at h2
      rw [List.getD_eq_getElem?_getD, List.getElem?_map, List.getElem?_eq_getElem hl]
      show Tone.gb j v[i] = 0
      rw [show v[i] = 0 from h2, gb_zero]
    · rw [List.getD_eq_getElem?_getD, List.getElem?_map, List.getElem?_eq_none (by omega)]
      rfl
theorem Good.wd (G : Good fl gw gh X Y RX RY tm kd op w h l) : l.length ≤ 2 ^ Ton.wd l.length ∧ Ton.wd l.length ≤ 6 := by
  have := wd_ok ⟨l.length, by have := G.l1; omega⟩
  exact ⟨this.1, this.2.1⟩
theorem Good.planes (G : Good fl gw gh X Y RX RY tm kd op w h l) (hk : okV gw gh X Y RX RY sk w h l v) : Tone.planes v ((Ton.wd l.length : Nat) : Int) = (0, Tone.plD v (Ton.wd l.length)) := by
  obtain ⟨w1, w2⟩ := G.wd
  unfold Tone.planes
  rw [if_neg, Int.toNat_natCast]
  rintro (h | h | h)
  · omega
  · omega
  · obtain ⟨x, hx, hb⟩ := List.any_eq_true.1 h
    obtain ⟨i, hi, rfl⟩ := List.getElem_of_mem hx
    obtain ⟨a, b, _⟩ := hk.2 i hi
    rw [List.getD_eq_getElem?_getD, List.getElem?_eq_getElem hi] at a b
    simp only [Option.getD_some] at a b
    rw [Tone.bad_iff.2 ⟨a, ?_⟩] at hb
    · exact absurd hb (by decide)
    · rw [Int.toNat_natCast]
      have : ((2 ^ Ton.wd l.length : Nat) : Int) = (2 : Int) ^ Ton.wd l.length := by simp
      omega
theorem rgiven (G : Good fl gw gh X Y RX RY tm kd op w h l) (hvl : v.length ≤ 1000000) (h0 : bErr (gw : Int) (gh : Int) X Y RX RY tm kd op l w h = 0) {K : Int → Option Ans} :
    F_ref11_given fl (gw : Int) (gh : Int) X Y RX RY tm kd sk op l w h v K = K (if okV gw gh X Y RX RY sk w h l v then 0 else 2) := by
  have hfl := G.hfl
  have l1 := G.l1
  obtain ⟨g1, g2, g3, g4, g5⟩ := G.g
  have hsl := skL_len gw X Y RX RY sk (l0 l).1 (l0 l).2.1 w h (gw * gh)
  unfold F_ref11_given Fg_ref11_given
  rw [asked_ok hfl (by omega), h0, cond_f (b := (0 : Int) != 0) rfl, ← Int.natCast_mul, wrap64 (by omega) (by omega)]
  by_cases hvg : v.length = gw * gh
  rotate_left
  · rw [cond_t (b := (v.length : Int) != ((gw * gh : Nat) : Int)) (by simp; omega), if_neg (fun h => hvg h.1)]
  rw [cond_f (b := (v.length : Int) != ((gw * gh : Nat) : Int)) (by simp; omega), rskipped_ok hfl G.t l1.1 G.hpw]
  dsimp only
  unfold L_ref11_given_0
  rcases nat_or_first (vOk (l.length : Int) (skL gw X Y RX RY sk (l0 l).1 (l0 l).2.1 w h (gw * gh)) v) v.length with ha | ⟨m, hm, hb, hi⟩
  · have hk : okV gw gh X Y RX RY sk w h l v := ⟨hvg, ha⟩
    rw [if_pos hk]
    refine iter_to (step := S_ref11_given_0 fl) (fun i : Nat => (l, v, (i : Int), (gw : Int), (gh : Int), skL gw X Y RX RY sk (l0 l).1 (l0 l).2.1 w h (gw * gh))) v.length (fun i hi c => ?_) (fun c => ?_) (by omega)
    · rw [gv_step hvl (by omega) hi, if_pos (ha i hi)]
    · simp only [S_ref11_given_0, Sg_ref11_given_0]
      rw [dec_f (by omega)]
  · rw [if_neg (fun h => hb (h.2 m hm))]
    refine iter_to (step := S_ref11_given_0 fl) (fun i : Nat => (l, v, (i : Int), (gw : Int), (gh : Int), skL gw X Y RX RY sk (l0 l).1 (l0 l).2.1 w h (gw * gh))) m (fun i hi' c => ?_) (fun c => ?_) (by omega)
    · rw [gv_step hvl (by omega) (by omega), if_pos (hi i hi')]
    · rw [gv_step hvl (by omega) hm, if_neg hb]
def tS (tm kd : Int) (gw gh : Nat) (sp : List Int) (P : List (List Int)) : Iv × List Int := run kd (iv0 tm) [] (plEv tm gw gh sp P)
def tC (tm kd : Int) (gw gh : Nat) (sp : List Int) (P : List (List Int)) : List Int := (tS tm kd gw gh sp P).2 ++ endB (tS tm kd gw gh sp P).1.lo (tS tm kd gw gh sp P).1.hi
theorem tenc (F : PlF fl) (G : Good fl gw gh X Y RX RY tm kd op w h l) (hvl : v.length ≤ 1000000) (h0 : bErr (gw : Int) (gh : Int) X Y RX RY tm kd op l w h = 0) {K : Int × List Int → Option Ans} :
    F_tone_Encode fl (gw : Int) (gh : Int) X Y RX RY tm kd sk op l w h v K = K (if okV gw gh X Y RX RY sk w h l v then (0, tC tm kd gw gh (skL gw X Y RX RY sk (l0 l).1 (l0 l).2.1 w h (gw * gh)) (Tone.plD v (wd l.length))) else (2, [])) := by
  have hfl := G.hfl
  have l1 := G.l1
  obtain ⟨t1, t2, t3⟩ := G.tmk
  unfold F_tone_Encode Fg_tone_Encode
  rw [begun_ok hfl (by omega), h0, cond_f (b := (0 : Int) != 0) rfl, skipped_ok hfl G.t l1.1 G.hpw]
  dsimp only
  rw [rv_ok hfl G.g.2.2.1 (skL_len _ _ _ _ _ _ _ _ _ _ _) hvl]
  by_cases hk : okV gw gh X Y RX RY sk w h l v
  rotate_left
  · rw [if_neg hk, decide_eq_false hk, cond_t (b := !false) rfl]
  have H := G.pok hk (n := wd l.length) (by have := G.wd; omega)
  obtain ⟨s1, s2, s3⟩ := H.st
  rw [if_pos hk, decide_eq_true hk, cond_f (b := !true) rfl, options_ok t1]
  dsimp only
  rw [gsize]
  unfold sizeR
  rw [if_pos t3]
  dsimp only
  rw [gnew, newR_ok t3]
  dsimp only
  rw [new_enc hfl (iv0_vM t3)]
  dsimp only
  rw [width_at fl _ l.length (by omega), F.g _ _ (by omega), G.planes hk]
  dsimp only
  rw [enc_loop hfl H]
  dsimp only
  rw [end_ok hfl s1.r (by omega)]
  rfl
theorem renc_loop (G : Good fl gw gh X Y RX RY tm kd op w h l) {P : List (List Int)} (H : POk tm kd gw gh (skL gw X Y RX RY sk (l0 l).1 (l0 l).2.1 w h (gw * gh)) P) {K} :
    L_ref11_Encode_0 fl (l, w, h, 0, (gw : Int), (gh : Int), X, Y, RX, RY, tm, kd, sk, op, tm, ua tm, -1, false, kd, kd, 0, 4294967295, P, List.replicate (size tm).toNat 0, []) K
    = K (kd, (tS tm kd gw gh (skL gw X Y RX RY sk (l0 l).1 (l0 l).2.1 w h (gw * gh)) P).1.lo, (tS tm kd gw gh (skL gw X Y RX RY sk (l0 l).1 (l0 l).2.1 w h (gw * gh)) P).1.hi, (tS tm kd gw gh (skL gw X Y RX RY sk (l0 l).1 (l0 l).2.1 w h (gw * gh)) P).1.st, (tS tm kd gw gh (skL gw X Y RX RY sk (l0 l).1 (l0 l).2.1 w h (gw * gh)) P).2) := by
  have hfl := G.hfl
  have l1 := G.l1
  have hpw := G.hpw
  have ht := G.t
  have hn := H.n
  have hsk : ∀ K : Int × Int × List Int → Option Ans, F_ref11_skipped fl (gw : Int) (gh : Int) X Y RX RY tm kd sk op l w h K = K ((gw : Int), (gh : Int), skL gw X Y RX RY sk (l0 l).1 (l0 l).2.1 w h (gw * gh)) := fun K => rskipped_ok hfl ht l1.1 hpw
  generalize skL gw X Y RX RY sk (l0 l).1 (l0 l).2.1 w h (gw * gh) = sp at *
  unfold tS L_ref11_Encode_0
  refine iter_seq (step := S_ref11_Encode_0 fl) (fun i : Nat => (l, w, h, (i : Int), (gw : Int), (gh : Int), X, Y, RX, RY, tm, kd, sk, op, tm, ua tm, -1, false, kd, kd, (run kd (iv0 tm) [] (plEv tm gw gh sp (P.take i))).1.lo, (run kd (iv0 tm) [] (plEv tm gw gh sp (P.take i))).1.hi, P, (run kd (iv0 tm) [] (plEv tm gw gh sp (P.take i))).1.st, (run kd (iv0 tm) [] (plEv tm gw gh sp (P.take i))).2)) P.length rfl (fun i hi c => ?_) (fun c => ?_) (by omega)
  · obtain ⟨s1, s2, s3⟩ := (H.take i).st
    have hm := getD_mem (l := P) hi []
    have hl := iv0_len tm
    rw [plEv_take H hi]
    simp only [S_ref11_Encode_0, Sg_ref11_Encode_0, both_same]
    generalize run kd (iv0 tm) [] (plEv tm gw gh sp (P.take i)) = R at *
    obtain ⟨x, o⟩ := R
    simp only at s1 s2 s3 ⊢
    rw [dec_t (by omega), dec_t (by omega), Int.toNat_natCast, w6 (x := (i : Int) + 1), hsk]
    dsimp only
    rw [rput_reg2 hfl s1 (H.reg hm s2) H.s (H.p _ hm).2 (by omega) (by omega)]
    rfl
  · simp only [S_ref11_Encode_0, Sg_ref11_Encode_0]
    rw [dec_f (by omega), List.take_length]
theorem rtenc (F : PlF fl) (G : Good fl gw gh X Y RX RY tm kd op w h l) (hvl : v.length ≤ 1000000) (h0 : bErr (gw : Int) (gh : Int) X Y RX RY tm kd op l w h = 0) {K : Int × List Int → Option Ans} :
    F_ref11_Encode fl (gw : Int) (gh : Int) X Y RX RY tm kd sk op l w h v K = K (if okV gw gh X Y RX RY sk w h l v then (0, tC tm kd gw gh (skL gw X Y RX RY sk (l0 l).1 (l0 l).2.1 w h (gw * gh)) (Tone.plD v (wd l.length))) else (2, [])) := by
  have hfl := G.hfl
  have l1 := G.l1
  obtain ⟨t1, t2, t3⟩ := G.tmk
  unfold F_ref11_Encode Fg_ref11_Encode
  rw [rgiven G hvl h0]
  by_cases hk : okV gw gh X Y RX RY sk w h l v
  rotate_left
  · rw [if_neg hk, if_neg hk, cond_t (b := (2 : Int) != 0) rfl]
  have H := G.pok hk (n := wd l.length) (by have := G.wd; omega)
  obtain ⟨s1, s2, s3⟩ := H.st
  rw [if_pos hk, if_pos hk, cond_f (b := (0 : Int) != 0) rfl, roptions_ok t1]
  dsimp only
  rw [rsize]
  unfold sizeR
  rw [if_pos t3]
  dsimp only
  rw [rnew, newR_ok t3]
  dsimp only
  rw [rnew_enc hfl (iv0_vM t3)]
  dsimp only
  rw [rwidth_ok hfl (by omega), F.r _ _ (by omega), G.planes hk]
  dsimp only
  rw [renc_loop G H]
  dsimp only
  rw [rend_ok hfl (x := (tS tm kd gw gh (skL gw X Y RX RY sk (l0 l).1 (l0 l).2.1 w h (gw * gh)) (Tone.plD v (wd l.length))).1) s1.r (by show (run kd (iv0 tm) [] _).2.length ≤ _; omega)]
  rfl
end
end Go.Proofs.YtipdidpalcmlhaaGreat.Ton
namespace Go.Proofs.YtipdidpalcmlhaaGreat.Tone
open Go Ev
theorem contains510 {p : List Int} (hl : p.length ≤ 4611686018427387904) {K : Bool → Option Ans} : F_slices_ContainsFunc_byte_byte_510 fuel p K = K (p.any fun x => decide (x > 1)) := by
  unfold F_slices_ContainsFunc_byte_byte_510 Fg_slices_ContainsFunc_byte_byte_510 F_slices_IndexFunc_byte_byte_510 Fg_slices_IndexFunc_byte_byte_510 L_slices_IndexFunc_byte_byte_510_0
  rcases all_or_first (fun x => !decide (x > 1)) 0 p with h | ⟨n, hn, hb, hi⟩
  · have hany : (p.any fun x => decide (x > 1)) = false := by
      rw [List.any_eq_false]
      intro v hv
      simpa using List.all_eq_true.1 h v hv
    rw [hany]
    refine iter_to (step := S_slices_IndexFunc_byte_byte_510_0 fuel) (fun i => (p, (p.length : Int), (i : Int))) p.length (fun i hi c => ?_) (fun c => ?_) (fuel_lt (by omega))
    · have g := all_getD h 0 hi
      simp only [Bool.not_eq_true', decide_eq_false_iff_not] at g
      simp (disch := omega) only [S_slices_IndexFunc_byte_byte_510_0, Sg_slices_IndexFunc_byte_byte_510_0, F_tone_FromPlanes_1, dec_t, dec_f, wrap64, Int.toNat_natCast]
      rfl
    · simp (disch := omega) only [S_slices_IndexFunc_byte_byte_510_0, Sg_slices_IndexFunc_byte_byte_510_0, dec_f]
      rfl
  · have hb : p.getD n 0 > 1 := by simpa using hb
    have hany : (p.any fun x => decide (x > 1)) = true := List.any_eq_true.2 ⟨_, getD_mem hn 0, decide_eq_true hb⟩
    rw [hany]
    refine iter_to (step := S_slices_IndexFunc_byte_byte_510_0 fuel) (fun i => (p, (p.length : Int), (i : Int))) n (fun i hin c => ?_) (fun c => ?_) (fuel_lt (by omega))
    · have g := hi i hin
      simp only [Bool.not_eq_true', decide_eq_false_iff_not] at g
      simp (disch := omega) only [S_slices_IndexFunc_byte_byte_510_0, Sg_slices_IndexFunc_byte_byte_510_0, F_tone_FromPlanes_1, dec_t, dec_f, wrap64, Int.toNat_natCast]
      rfl
    · simp (disch := omega) only [S_slices_IndexFunc_byte_byte_510_0, Sg_slices_IndexFunc_byte_byte_510_0, F_tone_FromPlanes_1, dec_t, Int.toNat_natCast]
      simp
theorem fp_inner {x0 x1 : List (List Int)} {x2 x3 : Int} {xs vs : List Int} {b} (hl : xs.length = vs.length) (hlen : vs.length ≤ 17592186044416) (hs : small 8 vs) (hx : ∀ x ∈ xs, 0 ≤ x ∧ x ≤ 1) :
    L_tone_FromPlanes_2 fuel (x0, x1, x2, x3, xs, (xs.length : Int), 0, vs) b = b (x0, x1, x2, x3, gz vs xs) := by
  unfold L_tone_FromPlanes_2
  have h0 : (x0, x1, x2, x3, xs, (xs.length : Int), (0 : Int), vs) = (fun i : Nat => (x0, x1, x2, x3, xs, (xs.length : Int), (i : Int), half vs xs i)) 0 := by simp only [half_zero]; rfl
  refine iter_seq (step := S_tone_FromPlanes_2 fuel) (fun i => (x0, x1, x2, x3, xs, (xs.length : Int), (i : Int), half vs xs i)) vs.length h0 (fun i hi c => ?_) (fun c => ?_) (fuel_lt (by omega))
  · have hg := hs _ (getD_mem hi 0)
    have hxi := hx _ (getD_mem (show i < xs.length by omega) 0)
    have hh := half_len hl (show i ≤ vs.length by omega)
    simp (disch := omega) only [S_tone_FromPlanes_2, Sg_tone_FromPlanes_2, dec_t, wrap64 (x := (i : Int) + 1), Int.toNat_natCast, both_same, half_get hl hi]
    rw [xor_text hg.1 (by omega) (by omega), half_set hl hi]
    rfl
  · simp (disch := omega) only [S_tone_FromPlanes_2, Sg_tone_FromPlanes_2, dec_f]
    rw [half_all hl]
theorem fromP_take {n : Nat} {ps : List (List Int)} {i : Nat} (hi : i < ps.length) : fromP n (ps.take (i + 1)) = gz (fromP n (ps.take i)) (ps.getD i []) := by
  unfold fromP
  rw [take_succ_getD hi [], List.foldl_append]
  rfl
theorem fromP_length {n : Nat} : ∀ {ps : List (List Int)}, (∀ p ∈ ps, p.length = n) → ∀ {vs : List Int}, vs.length = n → (ps.foldl gz vs).length = n
  | [], _, vs, hv => hv
  | p :: ps, h, vs, hv => fromP_length (vs := gz vs p) (fun q hq => h q (by simp [hq])) ((gz_length (by rw [h p (by simp), hv])).trans hv)
theorem fold_small {t : Nat} : ∀ {ps : List (List Int)} {vs : List Int}, small t vs → small (t + ps.length) (ps.foldl gz vs)
  | [], vs, h => h
  | p :: ps, vs, h => by
    have := fold_small (ps := ps) (gz_small (xs := p) h)
    simp only [List.length_cons, List.foldl_cons]
    rw [show t + (ps.length + 1) = t + 1 + ps.length by omega]
    exact this
theorem small_zero (n : Nat) : small 0 (List.replicate n 0) := fun v hv => by
  have := List.eq_of_mem_replicate hv
  subst this
  exact ⟨by omega, by decide⟩
theorem small_mono {s t : Nat} {vs : List Int} (h : small s vs) (hst : s ≤ t) : small t vs := fun v hv => by
  have := h v hv
  have h2 : (2 : Int) ^ s ≤ 2 ^ t := by
    have := Nat.pow_le_pow_right (n := 2) (by omega) hst
    exact_mod_cast this
  omega
theorem fromP_take_small {n i : Nat} {ps : List (List Int)} (hi : i ≤ ps.length) (h : ps.length ≤ 8) : small 8 (fromP n (ps.take i)) := by
  have := fold_small (t := 0) (ps := ps.take i) (small_zero n)
  refine small_mono this ?_
  simp
  omega
theorem okP_get {n : Nat} {p : List Int} (h : okP n p = true) (h0 : ∀ x ∈ p, 0 ≤ x) : p.length = n ∧ ∀ x ∈ p, 0 ≤ x ∧ x ≤ 1 := by
  obtain ⟨h1, h2⟩ := okP_iff.1 h
  exact ⟨h1, fun x hx => ⟨h0 x hx, h2 x hx⟩⟩
theorem okP_any {n : Nat} {p : List Int} (h : p.length = n) : (p.any fun x => decide (x > 1)) = !okP n p := by
  have e : (fun x : Int => decide (x > 1)) = fun x => !decide (x ≤ 1) := by
    funext x
    by_cases h : x ≤ 1
    · simp [h]
    · simp [h]; omega
  unfold okP
  rw [decide_eq_true h, Bool.true_and, List.all_eq_not_any_not, e, Bool.not_not]
theorem fromPlanes_ok {ps : List (List Int)} (hlen : ∀ p ∈ ps, p.length ≤ 17592186044416) (h0 : ∀ p ∈ ps, ∀ x ∈ p, 0 ≤ x) {K : Int × List Int → Option Ans} : F_tone_FromPlanes fuel ps K = K (fromPlanes ps) := by
  unfold F_tone_FromPlanes Fg_tone_FromPlanes fromPlanes
  by_cases h8 : ps.length > 8
  · rw [dec_t (by omega), if_pos (.inl h8)]
  rw [dec_f (by omega)]
  unfold L_tone_FromPlanes_0
  have round : ∀ i, i < ps.length → okP (sides ps) (ps.getD i []) = true → ∀ vs, (i = 0 ∨ vs = fromP (sides ps) (ps.take i)) → (∀ j, j < i → okP (sides ps) (ps.getD j []) = true) → ∀ c B,
      S_tone_FromPlanes_0 fuel (ps, ps, (ps.length : Int), (i : Int), vs) c B = c (ps, ps, (ps.length : Int), ((i + 1 : Nat) : Int), fromP (sides ps) (ps.take (i + 1))) := by
    intro i hi hok vs hvs hall c B
    obtain ⟨g1, g2⟩ := okP_get hok (h0 _ (getD_mem hi []))
    have gl := hlen _ (getD_mem hi [])
    have hfl : (fromP (sides ps) (ps.take i)).length = sides ps := by
      refine fromP_length (fun p hp => ?_) (by simp)
      obtain ⟨j, hj, rfl⟩ := List.mem_iff_getElem.1 hp
      simp only [List.length_take] at hj
      have := (okP_iff.1 (hall j (by omega))).1
      rw [getD_lt (by omega)] at this
      simpa using this
    obtain ⟨B1, B2⟩ := B
    simp (disch := omega) only [S_tone_FromPlanes_0, Sg_tone_FromPlanes_0, dec_t, Int.toNat_natCast, wrap64]
    rw [cond_f (by simp only [bne_eq_false_iff_eq]; rw [g1]; rfl), contains510 (by omega), okP_any g1, hok]
    simp only [Bool.not_true, cond_false]
    by_cases hi0 : i = 0
    · subst hi0
      rw [cond_t (by rfl), dec_t ⟨by omega, trivial, by omega, by omega⟩, fp_inner (by rw [List.length_replicate]) (by rw [List.length_replicate]; simpa using gl) (small_mono (small_zero _) (by omega)) g2]
      have e : fromP (sides ps) (ps.take 0) = List.replicate (sides ps) 0 := by simp [fromP]
      dsimp only
      rw [wrap64 (by omega) (by omega), fromP_take hi, e, g1]
      rfl
    · have hvs : vs = fromP (sides ps) (ps.take i) := by rcases hvs with h | h; exact absurd h hi0; exact h
      subst hvs
      rw [cond_f (by simp; omega), fp_inner (by rw [g1, hfl]) (by rw [hfl, ← g1]; exact gl) (fromP_take_small (by omega) (by omega)) g2, ← fromP_take hi]
      dsimp only
      rw [wrap64 (by omega) (by omega)]
      rfl
  rcases all_or_first (okP (sides ps)) [] ps with h | ⟨n, hn, hb, hall⟩
  · rw [if_neg (by rw [h]; simp; omega)]
    have h0' : (ps, ps, (ps.length : Int), (0 : Int), ([] : List Int)) = (fun i : Nat => (ps, ps, (ps.length : Int), (i : Int), if i = 0 then [] else fromP (sides ps) (ps.take i))) 0 := rfl
    refine iter_seq (step := S_tone_FromPlanes_0 fuel) (fun i : Nat => (ps, ps, (ps.length : Int), (i : Int), if i = 0 then [] else fromP (sides ps) (ps.take i))) ps.length h0' (fun i hi c => ?_) (fun c => ?_) (fuel_lt (by omega))
    · simp only
      rw [round i hi (all_getD h [] hi) _ (by by_cases e : i = 0; exact .inl e; right; rw [if_neg e]) (fun j hj => all_getD h [] (by omega)), if_neg (by omega)]
    · simp (disch := omega) only [S_tone_FromPlanes_0, Sg_tone_FromPlanes_0, dec_f]
      by_cases e : ps.length = 0
      · have : ps = [] := List.eq_nil_of_length_eq_zero e
        subst this
        rfl
      · rw [if_neg e, List.take_length]
  · rw [if_pos (.inr (not_all hn hb))]
    have h0' : (ps, ps, (ps.length : Int), (0 : Int), ([] : List Int)) = (fun i : Nat => (ps, ps, (ps.length : Int), (i : Int), if i = 0 then [] else fromP (sides ps) (ps.take i))) 0 := rfl
    refine iter_seq (step := S_tone_FromPlanes_0 fuel) (fun i : Nat => (ps, ps, (ps.length : Int), (i : Int), if i = 0 then [] else fromP (sides ps) (ps.take i))) n h0' (fun i hi c => ?_) (fun c => ?_) (fuel_lt (by omega))
    · simp only
      rw [round i (by omega) (hall i hi) _ (by by_cases e : i = 0; exact .inl e; right; rw [if_neg e]) (fun j hj => hall j (by omega)), if_neg (by omega)]
    · have gl := hlen _ (getD_mem hn [])
      simp (disch := omega) only [S_tone_FromPlanes_0, Sg_tone_FromPlanes_0, dec_t, Int.toNat_natCast]
      by_cases hs : (ps.getD n []).length = sides ps
      · rw [cond_f (by simp only [bne_eq_false_iff_eq]; rw [hs]; rfl), contains510 (by omega), okP_any hs, hb]
        rfl
      · rw [cond_t (by simp only [bne_iff_ne, ne_eq]; intro e; exact hs (by exact_mod_cast e))]
theorem rp_inner {ps : List (List Int)} {j : Nat} {vs : List Int} {ret b} (hj : j < ps.length) (hj8 : ps.length ≤ 8) (hl : (ps.getD j []).length = vs.length) (hlen : vs.length ≤ 17592186044416) (hs : small 8 vs) (h0 : ∀ x ∈ ps.getD j [], 0 ≤ x) :
    L_ref11_FromPlanes_2 fuel (ps, (j : Int), 0, vs) ret b = if ((ps.getD j []).all fun x => decide (x ≤ 1)) = true then b (ps, (j : Int), gz vs (ps.getD j [])) else ret (2, []) := by
  unfold L_ref11_FromPlanes_2
  have hz : (ps, (j : Int), (0 : Int), vs) = (fun i : Nat => (ps, (j : Int), (i : Int), half vs (ps.getD j []) i)) 0 := by simp only [half_zero]; rfl
  have round : ∀ i, i < vs.length → (ps.getD j []).getD i 0 ≤ 1 → ∀ c B, S_ref11_FromPlanes_2 fuel (ps, (j : Int), (i : Int), half vs (ps.getD j []) i) c B = c (ps, (j : Int), ((i + 1 : Nat) : Int), half vs (ps.getD j []) (i + 1)) := by
    intro i hi h1 c B
    obtain ⟨B1, B2⟩ := B
    have hg := hs _ (getD_mem hi 0)
    have hxi := h0 _ (getD_mem (show i < (ps.getD j []).length by omega) 0)
    have hh := half_len hl (show i ≤ vs.length by omega)
    simp (disch := omega) only [S_ref11_FromPlanes_2, dec_t, dec_f, wrap64 (x := (i : Int) + 1), Int.toNat_natCast, half_get hl hi]
    rw [add_text hg.1 (by omega) (by omega), half_set hl hi]
    rfl
  rcases all_or_first (fun x => decide (x ≤ 1)) 0 (ps.getD j []) with h | ⟨n, hn, hb, hall⟩
  · rw [if_pos h]
    refine iter_seq (step := S_ref11_FromPlanes_2 fuel) (fun i : Nat => (ps, (j : Int), (i : Int), half vs (ps.getD j []) i)) vs.length hz (fun i hi c => ?_) (fun c => ?_) (fuel_lt (by omega))
    · exact round i hi (by simpa using all_getD h 0 (show i < (ps.getD j []).length by omega)) c _
    · have hh := half_len hl (show vs.length ≤ vs.length by omega)
      simp (disch := omega) only [S_ref11_FromPlanes_2, dec_f]
      rw [half_all hl]
  · rw [if_neg (by rw [not_all hn hb]; simp)]
    refine iter_seq (step := S_ref11_FromPlanes_2 fuel) (fun i : Nat => (ps, (j : Int), (i : Int), half vs (ps.getD j []) i)) n hz (fun i hi c => ?_) (fun c => ?_) (fuel_lt (by omega))
    · exact round i (by omega) (by simpa using hall i hi) c _
    · have hb : (ps.getD j []).getD n 0 > 1 := by simpa using hb
      have hh := half_len hl (show n ≤ vs.length by omega)
      simp (disch := omega) only [S_ref11_FromPlanes_2, dec_t, Int.toNat_natCast]
theorem refFromPlanes {ps : List (List Int)} (hlen : ∀ p ∈ ps, p.length ≤ 17592186044416) (h0 : ∀ p ∈ ps, ∀ x ∈ p, 0 ≤ x) {K : Int × List Int → Option Ans} : F_ref11_FromPlanes fuel ps K = K (fromPlanes ps) := by
  unfold F_ref11_FromPlanes fromPlanes
  by_cases h8 : ps.length > 8
  · rw [dec_t (by omega), if_pos (.inl h8)]
  rw [dec_f (by omega)]
  by_cases hn0 : ps.length = 0
  · have : ps = [] := List.eq_nil_of_length_eq_zero hn0
    subst this
    rfl
  rw [cond_f (by simp; intro e; subst e; simp at hn0), dec_t (by omega)]
  have gl0 := hlen _ (getD_mem (show 0 < ps.length by omega) [])
  rw [dec_t (by rw [show (0 : Int).toNat = 0 from rfl]; omega)]
  unfold L_ref11_FromPlanes_0
  have fl : ∀ i, i ≤ ps.length → (∀ j, j < i → okP (sides ps) (ps.getD j []) = true) → (fromP (sides ps) (ps.take i)).length = sides ps := by
    intro i hi hall
    refine fromP_length (fun p hp => ?_) (by simp)
    obtain ⟨j, hj, rfl⟩ := List.mem_iff_getElem.1 hp
    simp only [List.length_take] at hj
    have := (okP_iff.1 (hall j (by omega))).1
    rw [getD_lt (by omega)] at this
    simpa using this
  have hz : (ps, (0 : Int), List.replicate (((ps.getD (Int.toNat 0) []).length : Int)).toNat (0 : Int)) = (fun i : Nat => (ps, (i : Int), fromP (sides ps) (ps.take i))) 0 := by
    simp only [List.take_zero]
    rfl
  have round : ∀ i, i < ps.length → okP (sides ps) (ps.getD i []) = true → (∀ j, j < i → okP (sides ps) (ps.getD j []) = true) → ∀ c B,
      S_ref11_FromPlanes_0 fuel (ps, (i : Int), fromP (sides ps) (ps.take i)) c B = c (ps, ((i + 1 : Nat) : Int), fromP (sides ps) (ps.take (i + 1))) := by
    intro i hi hok hall c B
    obtain ⟨B1, B2⟩ := B
    have g1 := (okP_iff.1 hok).1
    have g2 := (okP_iff.1 hok).2
    have f1 := fl i (by omega) hall
    have gl := hlen _ (getD_mem hi [])
    simp (disch := omega) only [S_ref11_FromPlanes_0, dec_t, Int.toNat_natCast]
    rw [cond_f (by rw [g1, f1]; simp), rp_inner hi (by omega) (by rw [g1, f1]) (by rw [f1, ← g1]; exact gl) (fromP_take_small (by omega) (by omega)) (h0 _ (getD_mem hi []))]
    rw [if_pos (by rw [List.all_eq_true]; intro x hx; exact decide_eq_true (g2 x hx)), ← fromP_take hi]
    simp only
    rw [wrap64 (by omega) (by omega)]
    rfl
  rcases all_or_first (okP (sides ps)) [] ps with h | ⟨n, hn, hb, hall⟩
  · rw [if_neg (by rw [h]; simp; omega)]
    refine iter_seq (step := S_ref11_FromPlanes_0 fuel) (fun i : Nat => (ps, (i : Int), fromP (sides ps) (ps.take i))) ps.length hz (fun i hi c => ?_) (fun c => ?_) (fuel_lt (by omega))
    · exact round i hi (all_getD h [] hi) (fun j hj => all_getD h [] (by omega)) c _
    · simp (disch := omega) only [S_ref11_FromPlanes_0, dec_f]
      rw [List.take_length]
  · rw [if_pos (.inr (not_all hn hb))]
    refine iter_seq (step := S_ref11_FromPlanes_0 fuel) (fun i : Nat => (ps, (i : Int), fromP (sides ps) (ps.take i))) n hz (fun i hi c => ?_) (fun c => ?_) (fuel_lt (by omega))
    · exact round i (by omega) (hall i hi) (fun j hj => hall j (by omega)) c _
    · have f1 := fl n (by omega) hall
      have gl := hlen _ (getD_mem hn [])
      simp (disch := omega) only [S_ref11_FromPlanes_0, dec_t, Int.toNat_natCast]
      by_cases hs : (ps.getD n []).length = sides ps
      · rw [cond_f (by rw [hs, f1]; simp), rp_inner hn (by omega) (by rw [hs, f1]) (by rw [f1, ← hs]; exact gl) (fromP_take_small (by omega) (by omega)) (h0 _ (getD_mem hn []))]
        rw [if_neg]
        intro hh
        unfold okP at hb
        rw [decide_eq_true hs, Bool.true_and, hh] at hb
        cases hb
      · rw [cond_t (by rw [f1]; simp only [bne_iff_ne, ne_eq]; intro e; exact hs (by exact_mod_cast e))]
end Go.Proofs.YtipdidpalcmlhaaGreat.Tone
namespace Go.Proofs.YtipdidpalcmlhaaGreat.Ton
open Go Ev Bm Gen Co
structure PD where
  ok : Bool
  ps : List (List Int)
  x : Iv
  k : Nat
section
variable (tm kd : Int) (gw gh : Nat) (sp code : List Int)
def dOne (s : PD) : D := dAll tm (ua tm) (-1) 0 (gw : Int) (gh : Int) kd false sp code (d0 (gw : Int) (gh : Int) s.x s.k) gh
def dPl : Nat → PD
  | 0 => ⟨true, [], iv0 tm, 0⟩
  | n + 1 => if (dPl n).ok = true then ⟨(dOne tm kd gw gh sp code (dPl n)).ok, (dPl n).ps ++ [(dOne tm kd gw gh sp code (dPl n)).p], (dOne tm kd gw gh sp code (dPl n)).x, (dOne tm kd gw gh sp code (dPl n)).k⟩ else dPl n
end
structure PDk (tm kd : Int) (gw gh : Nat) (sp code : List Int) (n : Nat) (s : PD) : Prop where
  x : s.x.Ok kd
  sl : s.x.st.length = (iv0 tm).st.length
  k : s.k ≤ code.length
  n : s.ps.length = n
  p : ∀ p ∈ s.ps, Pix (gw : Int) (gh : Int) p ∧ White sp p
structure DEnv (tm kd : Int) (gw gh : Nat) (sp code : List Int) : Prop where
  v : vr tm (ua tm) (-1) kd = true
  f : fit (gw : Int) (gh : Int) = true
  s : Skp (gw : Int) (gh : Int) (gw : Int) (gh : Int) sp
  cb : Bytes code
  cl : code.length ≤ 1000000
section
variable {tm kd : Int} {gw gh : Nat} {sp code : List Int}
theorem iv0_sz (tm : Int) : ((iv0 tm).st.length : Int) = size tm := by
  have sz := size_eq (t := tm)
  show ((List.replicate (size tm).toNat (0 : Int)).length : Int) = _
  rw [List.length_replicate]
  omega
theorem dOne_ok (E : DEnv tm kd gw gh sp code) {n : Nat} {s : PD} (h : PDk tm kd gw gh sp code n s) : DOk tm (ua tm) (-1) kd 0 (gw : Int) (gh : Int) kd sp code s.x.st.length (dOne tm kd gw gh sp code s) ∧ White sp (dOne tm kd gw gh sp code s).p := by
  have hz := iv0_sz tm
  have hl := iv0_len tm
  have hd := dOk0 (base := 0) (sp := sp) (kx := kd) E.v E.f E.s.sk (x := s.x) (k := s.k) (by rw [h.sl]; omega) h.x (by rw [h.sl]; omega) E.cb E.cl h.k
  exact ⟨dAll_ok (ty := false) hd gh (Int.le_refl _), dAll_white (ty := false) hd (white_zeros _ _) gh (Int.le_refl _)⟩
theorem dPl_ok (E : DEnv tm kd gw gh sp code) : ∀ n, (dPl tm kd gw gh sp code n).ok = true → PDk tm kd gw gh sp code n (dPl tm kd gw gh sp code n)
  | 0, _ => ⟨iv0_ok E.v, rfl, Nat.zero_le _, rfl, fun p hp => by cases hp⟩
  | n + 1, h => by
    by_cases ho : (dPl tm kd gw gh sp code n).ok = true
    · have ih := dPl_ok E n ho
      obtain ⟨hd, hw⟩ := dOne_ok E ih
      unfold dPl
      rw [if_pos ho]
      refine ⟨hd.x, hd.sl.trans ih.sl, hd.k, by simp [ih.n], fun p hp => ?_⟩
      rcases List.mem_append.1 hp with hp | hp
      · exact ih.p p hp
      · rw [List.mem_singleton.1 hp]
        exact ⟨hd.r.p, hw⟩
    · unfold dPl at h
      rw [if_neg ho] at h
      exact absurd h ho
theorem dPl_back : ∀ {n i : Nat}, (dPl tm kd gw gh sp code n).ok = true → i ≤ n → (dPl tm kd gw gh sp code i).ok = true
  | 0, i, h, hi => by rw [show i = 0 by omega]; exact h
  | n + 1, i, h, hi => by
    by_cases he : i = n + 1
    · rw [he]; exact h
    · refine dPl_back (n := n) ?_ (by omega)
      by_cases ho : (dPl tm kd gw gh sp code n).ok = true
      · exact ho
      · unfold dPl at h
        rw [if_neg ho] at h
        exact absurd h ho
theorem dPl_next {i : Nat} (h : (dPl tm kd gw gh sp code i).ok = true) : dPl tm kd gw gh sp code (i + 1) = ⟨(dOne tm kd gw gh sp code (dPl tm kd gw gh sp code i)).ok, (dPl tm kd gw gh sp code i).ps ++ [(dOne tm kd gw gh sp code (dPl tm kd gw gh sp code i)).p], (dOne tm kd gw gh sp code (dPl tm kd gw gh sp code i)).x, (dOne tm kd gw gh sp code (dPl tm kd gw gh sp code i)).k⟩ := by
  rw [dPl, if_pos h]
theorem gErr0 (E : DEnv tm kd gw gh sp code) {n : Nat} {s : PD} (h : PDk tm kd gw gh sp code n s) : gErr tm (ua tm) (-1) kd 0 (gw : Int) (gh : Int) (gw : Int) (gh : Int) sp s.x.st.length = 0 := by
  have hz := iv0_sz tm
  unfold gErr
  rw [if_pos E.v, if_pos E.f, if_pos E.s.v, if_pos (.inr ⟨rfl, rfl⟩), if_pos (by rw [h.sl]; omega)]
theorem gRes0 (s : PD) : gRes tm (ua tm) (-1) 0 (gw : Int) (gh : Int) kd false sp code 0 s.x s.k = if (dOne tm kd gw gh sp code s).ok = true then (((gw : Int), (gh : Int), 0), dOne tm kd gw gh sp code s) else ((0, 0, 6), ⟨false, [], (dOne tm kd gw gh sp code s).x, (dOne tm kd gw gh sp code s).k⟩) := rfl
theorem g_one {fl : Nat} (hfl : 9223372036854775808 ≤ fl) (E : DEnv tm kd gw gh sp code) {n : Nat} {s : PD} (h : PDk tm kd gw gh sp code n s) {K} : F_generic_Get_fd3 fl 0 tm (ua tm) (-1) false kd (gw : Int) (gh : Int) (gw : Int) (gh : Int) sp kd s.x.lo s.x.hi ((4 + s.k : Nat) : Int) (win (strm code) s.k) (byd code s.k) false true s.x.st code K
    = if (dOne tm kd gw gh sp code s).ok = true then K ((gw : Int), (gh : Int), 0, kd, (dOne tm kd gw gh sp code s).x.lo, (dOne tm kd gw gh sp code s).x.hi, ((4 + (dOne tm kd gw gh sp code s).k : Nat) : Int), win (strm code) (dOne tm kd gw gh sp code s).k, byd code (dOne tm kd gw gh sp code s).k, false, true, (dOne tm kd gw gh sp code s).x.st, code, (dOne tm kd gw gh sp code s).p)
      else K (0, 0, 6, kd, (dOne tm kd gw gh sp code s).x.lo, (dOne tm kd gw gh sp code s).x.hi, ((4 + (dOne tm kd gw gh sp code s).k : Nat) : Int), win (strm code) (dOne tm kd gw gh sp code s).k, byd code (dOne tm kd gw gh sp code s).k, true, true, (dOne tm kd gw gh sp code s).x.st, code, []) := by
  rw [gget hfl h.x (by rw [h.sl]; exact iv0_len tm) E.cb E.cl h.k E.s.z (gErr0 E h) (gRes0 s)]
  by_cases ho : (dOne tm kd gw gh sp code s).ok = true
  · rw [if_pos ho, if_pos ho, ho]
    rfl
  · rw [if_neg ho, if_neg ho]
    rfl
end
section
variable {fl gw gh : Nat} {X Y RX RY tm kd op w h : Int} {l : List Bmp} {code : List Int} {sk : Bool}
theorem dec_loop (hfl : 9223372036854775808 ≤ fl) {sp : List Int} (E : DEnv tm kd gw gh sp code) {N : Nat} (hN : N ≤ 8) {ret : Int × List Int → Option Ans} {b} :
    L_tone_Decode_0 fl (l, (N : Int), 0, (gw : Int), (gh : Int), X, Y, RX, RY, tm, kd, sk, op, tm, ua tm, -1, false, kd, kd, 0, 4294967295, ((4 + 0 : Nat) : Int), win (strm code) 0, byd code 0, false, true, (gw : Int), (gh : Int), [], List.replicate (size tm).toNat 0, code, sp) ret b
    = if (dPl tm kd gw gh sp code N).ok = true then b (l, (gw : Int), (gh : Int), X, Y, RX, RY, tm, kd, sk, op, (gw : Int), (gh : Int), (dPl tm kd gw gh sp code N).ps, sp) else ret (6, []) := by
  unfold L_tone_Decode_0
  have step : ∀ i, i < N → (dPl tm kd gw gh sp code i).ok = true → ∀ c, S_tone_Decode_0 fl (l, (N : Int), (i : Int), (gw : Int), (gh : Int), X, Y, RX, RY, tm, kd, sk, op, tm, ua tm, -1, false, kd, kd, (dPl tm kd gw gh sp code i).x.lo, (dPl tm kd gw gh sp code i).x.hi, ((4 + (dPl tm kd gw gh sp code i).k : Nat) : Int), win (strm code) (dPl tm kd gw gh sp code i).k, byd code (dPl tm kd gw gh sp code i).k, false, true, (gw : Int), (gh : Int), (dPl tm kd gw gh sp code i).ps, (dPl tm kd gw gh sp code i).x.st, code, sp) c (ret, b)
      = if (dPl tm kd gw gh sp code (i + 1)).ok = true then c (l, (N : Int), ((i + 1 : Nat) : Int), (gw : Int), (gh : Int), X, Y, RX, RY, tm, kd, sk, op, tm, ua tm, -1, false, kd, kd, (dPl tm kd gw gh sp code (i + 1)).x.lo, (dPl tm kd gw gh sp code (i + 1)).x.hi, ((4 + (dPl tm kd gw gh sp code (i + 1)).k : Nat) : Int), win (strm code) (dPl tm kd gw gh sp code (i + 1)).k, byd code (dPl tm kd gw gh sp code (i + 1)).k, false, true, (gw : Int), (gh : Int), (dPl tm kd gw gh sp code (i + 1)).ps, (dPl tm kd gw gh sp code (i + 1)).x.st, code, sp) else ret (6, []) := fun i hi ho c => by
    have hk := dPl_ok E i ho
    rw [dPl_next ho]
    have hn := hk.n
    generalize dPl tm kd gw gh sp code i = s at *
    simp only [S_tone_Decode_0, Sg_tone_Decode_0]
    rw [dec_t (by omega), g_one hfl E hk]
    by_cases h1 : (dOne tm kd gw gh sp code s).ok = true
    · rw [if_pos h1, if_pos h1, cond_f (b := (0 : Int) != 0) rfl, dec_t (by simp only [List.length_singleton]; omega), wrap64 (by omega) (by omega)]
      rfl
    · rw [if_neg h1, if_neg h1, cond_t (b := (6 : Int) != 0) rfl]
  rcases nat_or_first (fun i => (dPl tm kd gw gh sp code (i + 1)).ok = true) N with ha | ⟨m, hm, hb, hi⟩
  · have hall : ∀ i, i ≤ N → (dPl tm kd gw gh sp code i).ok = true := fun i hi => by
      cases i with
      | zero => rfl
      | succ i => exact ha i (by omega)
    rw [if_pos (hall N (Nat.le_refl _))]
    refine iter_to (step := S_tone_Decode_0 fl) (fun i : Nat => (l, (N : Int), (i : Int), (gw : Int), (gh : Int), X, Y, RX, RY, tm, kd, sk, op, tm, ua tm, -1, false, kd, kd, (dPl tm kd gw gh sp code i).x.lo, (dPl tm kd gw gh sp code i).x.hi, ((4 + (dPl tm kd gw gh sp code i).k : Nat) : Int), win (strm code) (dPl tm kd gw gh sp code i).k, byd code (dPl tm kd gw gh sp code i).k, false, true, (gw : Int), (gh : Int), (dPl tm kd gw gh sp code i).ps, (dPl tm kd gw gh sp code i).x.st, code, sp)) N (fun i hi c => ?_) (fun c => ?_) (by omega)
    · rw [step i hi (hall i (by omega)), if_pos (ha i hi)]
    · simp only [S_tone_Decode_0, Sg_tone_Decode_0]
      rw [dec_f (by omega)]
  · have hall : ∀ i, i ≤ m → (dPl tm kd gw gh sp code i).ok = true := fun i h => by
      cases i with
      | zero => rfl
      | succ i => exact hi i (by omega)
    rw [if_neg (fun h => hb (dPl_back h (by omega)))]
    refine iter_to (step := S_tone_Decode_0 fl) (fun i : Nat => (l, (N : Int), (i : Int), (gw : Int), (gh : Int), X, Y, RX, RY, tm, kd, sk, op, tm, ua tm, -1, false, kd, kd, (dPl tm kd gw gh sp code i).x.lo, (dPl tm kd gw gh sp code i).x.hi, ((4 + (dPl tm kd gw gh sp code i).k : Nat) : Int), win (strm code) (dPl tm kd gw gh sp code i).k, byd code (dPl tm kd gw gh sp code i).k, false, true, (gw : Int), (gh : Int), (dPl tm kd gw gh sp code i).ps, (dPl tm kd gw gh sp code i).x.st, code, sp)) m (fun i h c => ?_) (fun c => ?_) (by omega)
    · rw [step i (by omega) (hall i (by omega)), if_pos (hi i h)]
    · rw [step m hm (hall m (Nat.le_refl _)), if_neg hb]
end
open Go Ev Bm Gen Co
structure PlG (fl : Nat) : Prop extends PlF fl where
  fg : ∀ ps : List (List Int), (∀ p ∈ ps, p.length ≤ 17592186044416) → (∀ p ∈ ps, ∀ x ∈ p, 0 ≤ x) → ∀ K : Int × List Int → Option Ans, F_tone_FromPlanes fl ps K = K (Tone.fromPlanes ps)
  fr : ∀ ps : List (List Int), (∀ p ∈ ps, p.length ≤ 17592186044416) → (∀ p ∈ ps, ∀ x ∈ p, 0 ≤ x) → ∀ K : Int × List Int → Option Ans, F_ref11_FromPlanes fl ps K = K (Tone.fromPlanes ps)
theorem gz_zero {vs p : List Int} {i : Nat} (h1 : vs.getD i 0 = 0) (h2 : p.getD i 0 = 0) : (Tone.gz vs p).getD i 0 = 0 := by
  unfold Tone.gz
  rw [List.getD_eq_getElem?_getD] at h1 h2 ⊢
  rw [List.getElem?_zipWith]
  cases ha : vs[i]? with
  | none => rfl
  | some a =>
    cases hb : p[i]? with
    | none => rfl
    | some b =>
      rw [ha] at h1
      rw [hb] at h2
      have h1 : a = 0 := h1
      have h2 : b = 0 := h2
      rw [h1, h2]
      rfl
theorem fold_zero {i : Nat} : ∀ {ps : List (List Int)} {vs : List Int}, vs.getD i 0 = 0 → (∀ p ∈ ps, p.getD i 0 = 0) → (ps.foldl Tone.gz vs).getD i 0 = 0
  | [], vs, h, _ => h
  | p :: ps, vs, h, hp => fold_zero (vs := Tone.gz vs p) (gz_zero h (hp p (by simp))) (fun q hq => hp q (by simp [hq]))
theorem fromP_white {sp : List Int} {ps : List (List Int)} {n : Nat} (h : ∀ p ∈ ps, White sp p) : White sp (Tone.fromP n ps) := fun i hi => fold_zero (white_zeros sp n i hi) (fun p hp => h p hp i hi)
theorem pix_lenN {gw gh : Nat} {p : List Int} (hp : Pix (gw : Int) (gh : Int) p) : p.length = gw * gh := by
  have := hp.len
  rw [← Int.natCast_mul] at this
  omega
theorem fromPl_all {gw gh : Nat} {ps : List (List Int)} (h : ∀ p ∈ ps, Pix (gw : Int) (gh : Int) p) (h8 : ps.length ≤ 8) (h0 : 0 < ps.length) : Tone.fromPlanes ps = (0, Tone.fromP (gw * gh) ps) := by
  have hs : Tone.sides ps = gw * gh := pix_lenN (h _ (getD_mem h0 []))
  unfold Tone.fromPlanes
  rw [hs, if_neg]
  rintro (h1 | h1)
  · omega
  · rw [List.all_eq_true.2 (fun p hp => Tone.okP_iff.2 ⟨pix_lenN (h p hp), fun x hx => ((h p hp).bit x hx).2⟩)] at h1
    exact absurd h1 (by decide)
section
variable {fl gw gh : Nat} {X Y RX RY tm kd op w h : Int} {l : List Bmp} {code : List Int} {sk : Bool}
theorem zero_loop (hfl : 9223372036854775808 ≤ fl) {vals sp : List Int} (hl : sp.length = vals.length) (hlen : vals.length ≤ 1000000) (hw : White sp vals) {b} :
    L_tone_Decode_2 fl (l, (vals.length : Int), 0, (gw : Int), (gh : Int), X, Y, RX, RY, tm, kd, sk, op, (gw : Int), (gh : Int), vals, sp) b = b (l, (gw : Int), (gh : Int), X, Y, RX, RY, tm, kd, sk, op, (gw : Int), (gh : Int), vals, sp) := by
  unfold L_tone_Decode_2
  refine iter_to (step := S_tone_Decode_2 fl) (fun i : Nat => (l, (vals.length : Int), (i : Int), (gw : Int), (gh : Int), X, Y, RX, RY, tm, kd, sk, op, (gw : Int), (gh : Int), vals, sp)) vals.length (fun i hi c => ?_) (fun c => ?_) (by omega)
  · simp only [S_tone_Decode_2, Sg_tone_Decode_2]
    rw [dec_t (by omega), dec_t (by omega), Int.toNat_natCast, wrap64 (by omega) (by omega)]
    by_cases h1 : sp.getD i 0 = 1
    · have h0 := hw i (decide_eq_true h1)
      rw [cond_t (by simp only [h1]; rfl), dec_t (by omega)]
      have e : vals.set i 0 = vals := by
        apply List.ext_getElem (by simp)
        intro j a b
        rw [List.getElem_set]
        split
        · rename_i e
          subst e
          rw [getD_lt hi] at h0
          exact h0.symm
        · rfl
      rw [e]
      rfl
    · rw [cond_f (beq_eq_false_iff_ne.2 h1)]
      rfl
  · simp only [S_tone_Decode_2, Sg_tone_Decode_2]
    rw [dec_f (by omega)]
def dV (tm kd : Int) (gw gh : Nat) (sp code : List Int) (N : Nat) : List Int := Tone.fromP (gw * gh) (dPl tm kd gw gh sp code N).ps
abbrev dvOk (n : Nat) (v : List Int) : Prop := ∀ i, i < v.length → v.getD i 0 < (n : Int)
def decT (tm kd : Int) (gw gh : Nat) (sp code : List Int) (n : Nat) : Int × List Int :=
  if (dPl tm kd gw gh sp code (wd n)).ok = true then (if dvOk n (dV tm kd gw gh sp code (wd n)) then (0, dV tm kd gw gh sp code (wd n)) else (3, [])) else (6, [])
theorem dV_ok {sp : List Int} (E : DEnv tm kd gw gh sp code) {N : Nat} (hN : N ≤ 8) (ho : (dPl tm kd gw gh sp code N).ok = true) :
    (dV tm kd gw gh sp code N).length = gw * gh ∧ White sp (dV tm kd gw gh sp code N) ∧ ∀ i, 0 ≤ (dV tm kd gw gh sp code N).getD i 0 := by
  have hk := dPl_ok E N ho
  refine ⟨Tone.fromP_length (fun p hp => pix_lenN (hk.p p hp).1) (by rw [List.length_replicate]), fromP_white fun p hp => (hk.p p hp).2, fun i => ?_⟩
  by_cases hi : i < (dV tm kd gw gh sp code N).length
  · have hs : Tone.small (0 + (dPl tm kd gw gh sp code N).ps.length) (dV tm kd gw gh sp code N) := Tone.fold_small (Tone.small_zero _)
    exact (hs _ (getD_mem hi 0)).1
  · rw [List.getD_eq_getElem?_getD, List.getElem?_eq_none (by omega)]
    exact Int.le_refl _
theorem Good.env (G : Good fl gw gh X Y RX RY tm kd op w h l) (cb : Bytes code) (cl : code.length ≤ 1000000) {pw ph : Int} : DEnv tm kd gw gh (skL gw X Y RX RY sk pw ph w h (gw * gh)) code := ⟨G.tmk.2.2, fit_g G.t, G.sp, cb, cl⟩
theorem vOk_iff {n : Nat} {sp v : List Int} (hw : White sp v) (h0 : ∀ i, 0 ≤ v.getD i 0) : (∀ i, i < v.length → vOk (n : Int) sp v i) ↔ dvOk n v := by
  refine ⟨fun h i hi => (h i hi).2.1, fun h i hi => ⟨h0 i, h i hi, ?_⟩⟩
  by_cases h1 : sp.getD i 0 = 1
  · exact .inl (hw i (decide_eq_true h1))
  · exact .inr h1
theorem tdec (F : PlG fl) (G : Good fl gw gh X Y RX RY tm kd op w h l) (h0 : bErr (gw : Int) (gh : Int) X Y RX RY tm kd op l w h = 0) (cb : Bytes code) (cl : code.length ≤ 1000000) {K : Int × List Int → Option Ans} :
    F_tone_Decode fl (gw : Int) (gh : Int) X Y RX RY tm kd sk op l w h code K = K (decT tm kd gw gh (skL gw X Y RX RY sk (l0 l).1 (l0 l).2.1 w h (gw * gh)) code l.length) := by
  have hfl := G.hfl
  have l1 := G.l1
  have E := G.env (sk := sk) cb cl (pw := (l0 l).1) (ph := (l0 l).2.1)
  obtain ⟨t1, t2, t3⟩ := G.tmk
  obtain ⟨g1, g2, g3, g4, g5⟩ := G.g
  have w2 := G.wd.2
  have hsl := skL_len gw X Y RX RY sk (l0 l).1 (l0 l).2.1 w h (gw * gh)
  unfold F_tone_Decode Fg_tone_Decode decT
  rw [begun_ok hfl (by omega), h0, cond_f (b := (0 : Int) != 0) rfl, options_ok t1]
  try dsimp only
  rw [gsize]
  unfold sizeR
  rw [if_pos t3]
  try dsimp only
  rw [gnew, newR_ok t3]
  try dsimp only
  rw [new_dec hfl (iv0_vM t3) cb cl]
  try dsimp only
  rw [skipped_ok hfl G.t l1.1 G.hpw]
  try dsimp only
  rw [width_at fl _ l.length (by omega)]
  try dsimp only
  rw [dec_loop hfl E (by omega)]
  by_cases ho : (dPl tm kd gw gh (skL gw X Y RX RY sk (l0 l).1 (l0 l).2.1 w h (gw * gh)) code (Ton.wd l.length)).ok = true
  rotate_left
  · rw [if_neg ho, if_neg ho]
  rw [if_pos ho, if_pos ho]
  obtain ⟨v1, v2, v3⟩ := dV_ok E (by omega) ho
  have hk := dPl_ok E _ ho
  have hn := hk.n
  unfold dV at *
  generalize dPl tm kd gw gh (skL gw X Y RX RY sk (l0 l).1 (l0 l).2.1 w h (gw * gh)) code (Ton.wd l.length) = s at *
  generalize hsp : skL gw X Y RX RY sk (l0 l).1 (l0 l).2.1 w h (gw * gh) = sp at *
  try dsimp only
  have eg : IntKind.i64.wrap ((gw : Int) * (gh : Int)) = ((gw * gh : Nat) : Int) := by rw [← Int.natCast_mul, wrap64 (by omega) (by omega)]
  simp only [eg, Int.toNat_natCast, List.length_replicate]
  have tail : ∀ vals : List Int, vals = Tone.fromP (gw * gh) s.ps → (L_tone_Decode_2 fl (l, (vals.length : Int), 0, (gw : Int), (gh : Int), X, Y, RX, RY, tm, kd, sk, op, (gw : Int), (gh : Int), vals, sp) (fun (b2_0, b2_1, b2_2, b2_3, b2_4, b2_5, b2_6, b2_7, b2_8, b2_9, b2_10, b2_11, b2_12, b2_13, b2_14) =>
                                           (F_tone_rightValues fl (b2_1) (b2_2) (b2_3) (b2_4) (b2_5) (b2_6) (b2_7) (b2_8) (b2_9) (b2_10) (b2_0.length : Int) (b2_11) (b2_12) (b2_14) (b2_13)
                                             (fun y46 =>
                                               bif !y46 then
                                                K (3, [])
                                               else
                                                K (0, b2_13))))) = K (if dvOk l.length (Tone.fromP (gw * gh) s.ps) then (0, Tone.fromP (gw * gh) s.ps) else (3, [])) := by
    rintro vals rfl
    rw [zero_loop hfl (by omega) (by omega) v2]
    try dsimp only
    rw [rv_ok hfl g3 hsl (by omega)]
    by_cases hd : dvOk l.length (Tone.fromP (gw * gh) s.ps)
    · rw [if_pos hd, decide_eq_true ⟨v1, (vOk_iff v2 v3).2 hd⟩]
      rfl
    · rw [if_neg hd, decide_eq_false (fun h => hd ((vOk_iff v2 v3).1 h.2))]
      rfl
  rw [dec_t (by refine ⟨?_, trivial, ?_, ?_⟩ <;> omega)]
  by_cases hp : (s.ps.length : Int) > 0
  · rw [dec_t hp]
    by_cases hg : ((gw * gh : Nat) : Int) > 0
    · rw [dec_t hg, F.fg _ (fun p hp => by have := pix_lenN (hk.p p hp).1; omega) (fun p hp x hx => ((hk.p p hp).1.bit x hx).1), fromPl_all (fun p hp => (hk.p p hp).1) (by omega) (by omega)]
      try dsimp only
      exact tail _ rfl
    · rw [dec_f hg]
      have e : List.replicate (gw * gh) (0 : Int) = Tone.fromP (gw * gh) s.ps := by
        rw [List.eq_nil_of_length_eq_zero (l := Tone.fromP (gw * gh) s.ps) (by omega), show gw * gh = 0 by omega]
        rfl
      have := tail _ e
      rw [List.length_replicate] at this
      exact this
  · rw [dec_f hp]
    have e : List.replicate (gw * gh) (0 : Int) = Tone.fromP (gw * gh) s.ps := by
      rw [List.eq_nil_of_length_eq_zero (l := s.ps) (by omega)]
      rfl
    have := tail _ e
    rw [List.length_replicate] at this
    exact this
end
open Go Ev Bm Gen Co
section
variable {fl gw gh : Nat} {X Y RX RY tm kd op w h : Int} {l : List Bmp} {code : List Int} {sk : Bool}
theorem plEv_split {gw gh : Nat} {sp : List Int} {P : List (List Int)} (H : POk tm kd gw gh sp P) {i : Nat} (hi : i < P.length) : ∃ r, plEv tm gw gh sp P = (plEv tm gw gh sp (P.take i) ++ allEv tm (ua tm) (-1) 0 (gw : Int) (gh : Int) false (P.getD i []) sp gh) ++ r := by
  refine ⟨plEv tm gw gh sp (P.drop (i + 1)), ?_⟩
  have e : P = P.take i ++ (P.getD i [] :: P.drop (i + 1)) := by
    rw [getD_lt hi, ← List.drop_eq_getElem_cons hi, List.take_append_drop]
  conv => lhs; rw [e]
  rw [plEv_app, plEv, List.append_assoc]
theorem dPl_rt {gw gh : Nat} {sp : List Int} {P : List (List Int)} (H : POk tm kd gw gh sp P) (f : fit (gw : Int) (gh : Int) = true) : ∀ i, i ≤ P.length → dPl tm kd gw gh sp (tC tm kd gw gh sp P) i = ⟨true, P.take i, (run kd (iv0 tm) [] (plEv tm gw gh sp (P.take i))).1, (run kd (iv0 tm) [] (plEv tm gw gh sp (P.take i))).2.length⟩
  | 0, _ => rfl
  | i + 1, hi => by
    have ih := dPl_rt H f i (by omega)
    have hm := getD_mem (l := P) (show i < P.length by omega) []
    have hr := H.reg hm rfl
    have h3 := dAll_rt3 (z := 0) (iv0_ok H.v) hr (H.p _ hm).2 (E := plEv tm gw gh sp P) (L := plEv tm gw gh sp (P.take i)) (plEv_split H (by omega)) H.evs.1
    have hc : codeOf kd (iv0 tm) (plEv tm gw gh sp P) 0 = tC tm kd gw gh sp P := by
      unfold codeOf tC tS
      rw [List.replicate_zero, List.append_nil]
    rw [hc] at h3
    have hone : dOne tm kd gw gh sp (tC tm kd gw gh sp P) (dPl tm kd gw gh sp (tC tm kd gw gh sp P) i) = stOf kd (iv0 tm) (plEv tm gw gh sp (P.take i) ++ allEv tm (ua tm) (-1) 0 (gw : Int) (gh : Int) false (P.getD i []) sp gh) (P.getD i []) := by
      rw [ih]
      exact h3
    have e : P.take (i + 1) = P.take i ++ [P.getD i []] := by rw [List.take_succ_eq_append_getElem (by omega), getD_lt (by omega)]
    have ee : plEv tm gw gh sp (P.take (i + 1)) = plEv tm gw gh sp (P.take i) ++ allEv tm (ua tm) (-1) 0 (gw : Int) (gh : Int) false (P.getD i []) sp gh := by
      rw [e, plEv_app, plEv, plEv, List.append_nil]
    rw [dPl_next (by rw [ih]), hone, ih, ee, e]
    rfl
end
end Go.Proofs.YtipdidpalcmlhaaGreat.Ton
namespace Go.Proofs.YtipdidpalcmlhaaGreat.Tone
open Go Ev
theorem div_pow_succ (v : Int) (t : Nat) : v / 2 ^ (t + 1) = v / 2 ^ t / 2 := by
  rw [Int.pow_succ, Int.ediv_ediv_of_nonneg (Int.le_of_lt (pow_pos' t))]
theorem gs_gb (v : Int) (t : Nat) : gs (v / 2 ^ (t + 1)) (gb t v) = v / 2 ^ t := by
  unfold gs gb
  rw [div_pow_succ]
  omega
theorem fold_plD (vals : List Int) : ∀ t, (plD vals t).foldl gz (vals.map fun v => v / 2 ^ t) = vals
  | 0 => by simp [plD]
  | t + 1 => by
    simp only [plD, List.foldl_cons]
    have : gz (vals.map fun v => v / 2 ^ (t + 1)) (vals.map (gb t)) = vals.map fun v => v / 2 ^ t := by
      unfold gz
      rw [List.zipWith_map]
      apply List.ext_getElem (by simp)
      intro i h1 h2
      simp [gs_gb]
    rw [this]
    exact fold_plD vals t
theorem fromP_plD {vals : List Int} {t : Nat} (h : ∀ v ∈ vals, 0 ≤ v ∧ v < 2 ^ t) : fromP vals.length (plD vals t) = vals := by
  have e : List.replicate vals.length (0 : Int) = vals.map fun v => v / 2 ^ t := by
    apply List.ext_getElem (by simp)
    intro i h1 h2
    simp only [List.getElem_replicate, List.getElem_map]
    have := h _ (List.getElem_mem (show i < vals.length by simpa using h2))
    exact (Int.ediv_eq_zero_of_lt this.1 this.2).symm
  unfold fromP
  rw [e]
  exact fold_plD vals t
end Go.Proofs.YtipdidpalcmlhaaGreat.Tone
namespace Go.Proofs.YtipdidpalcmlhaaGreat.Ton
open Go Ev Bm Gen Co
def mny (l : List Bmp) : Nat → Int
  | 0 => 0
  | i + 1 => IntKind.i64.wrap (IntKind.i64.wrap (mny l i + 1) + ((l.getD i (0, 0, [])).2.2.length : Int))
theorem many_ok {fl : Nat} (hfl : 9223372036854775808 ≤ fl) {l : List Bmp} (hll : l.length ≤ 1000000000000000) {K : Int → Option Ans} : F_law11_many fl l K = K (mny l l.length) := by
  unfold F_law11_many L_law11_many_0
  refine iter_to (step := S_law11_many_0 fl) (fun i : Nat => (l, mny l i, (i : Int))) l.length (fun i hi c => ?_) (fun c => ?_) (by omega)
  · simp only [S_law11_many_0]
    rw [dec_t (by omega), dec_t (by omega), Int.toNat_natCast, w6 (x := (i : Int) + 1)]
    rfl
  · simp only [S_law11_many_0]
    rw [dec_f (by omega)]
theorem large_ok {fl : Nat} (hfl : 9223372036854775808 ≤ fl) {gw gh X Y RX RY tm kd op w h : Int} {sk : Bool} {l : List Bmp} {v : List Int} (hll : l.length ≤ 1000000000000000) : ∃ b, (b = false → v.length ≤ 5000) ∧ ∀ K : Bool → Option Ans, F_law11_Large fl gw gh X Y RX RY tm kd sk op l w h v K = K b := by
  unfold F_law11_Large Fg_law11_Large
  simp only [many_ok hfl hll, cd]
  by_cases h1 : mny l l.length > 1500
  · exact ⟨true, (fun h => absurd h (by decide)), fun K => by rw [if_pos h1]⟩
  by_cases h2 : (v.length : Int) > 5000
  · exact ⟨true, (fun h => absurd h (by decide)), fun K => by rw [if_neg h1, if_pos h2]⟩
  by_cases h3 : gw > 0 ∧ gh > 0 ∧ gw ≤ 64 ∧ gh ≤ 64
  · exact ⟨decide (IntKind.i64.wrap (gw * gh) > 300), fun _ => by omega, fun K => by rw [if_neg h1, if_neg h2, if_pos h3.1, if_pos h3.2.1, if_pos h3.2.2.1, if_pos h3.2.2.2]⟩
  · refine ⟨false, fun _ => by omega, fun K => ?_⟩
    rw [if_neg h1, if_neg h2]
    repeat' split
    all_goals first | rfl | omega
section
variable {fl gw gh : Nat} {X Y RX RY tm kd op w h : Int} {l : List Bmp} {v : List Int} {sk : Bool}
theorem tC_ok {sp : List Int} {P : List (List Int)} (H : POk tm kd gw gh sp P) : Bytes (tC tm kd gw gh sp P) ∧ (tC tm kd gw gh sp P).length ≤ 1000000 := by
  obtain ⟨e1, e2⟩ := H.evs
  obtain ⟨s1, s2, s3⟩ := H.st
  refine ⟨fun u hu => ?_, ?_⟩
  · unfold tC at hu
    rcases List.mem_append.1 hu with hu | hu
    · exact run_byte _ (out := []) (iv0_ok H.v) e1 (fun v hv => by cases hv) u hu
    · exact endB_byte s1.r u hu
  · have := endB_len (tS tm kd gw gh sp P).1.lo (tS tm kd gw gh sp P).1.hi
    unfold tC
    rw [List.length_append]
    have : (tS tm kd gw gh sp P).2.length ≤ 166400 := s3
    omega
theorem decT_rt (G : Good fl gw gh X Y RX RY tm kd op w h l) (hk : okV gw gh X Y RX RY sk w h l v) :
    decT tm kd gw gh (skL gw X Y RX RY sk (l0 l).1 (l0 l).2.1 w h (gw * gh)) (tC tm kd gw gh (skL gw X Y RX RY sk (l0 l).1 (l0 l).2.1 w h (gw * gh)) (Tone.plD v (wd l.length))) l.length = (0, v) := by
  have H := G.pok hk (n := wd l.length) (by have := G.wd; omega)
  have hr := dPl_rt H (fit_g G.t) (wd l.length) (by rw [Tone.plD_length]; exact Nat.le_refl _)
  have ht : (Tone.plD v (wd l.length)).take (wd l.length) = Tone.plD v (wd l.length) := List.take_of_length_le (by rw [Tone.plD_length]; exact Nat.le_refl _)
  obtain ⟨w1, w2⟩ := G.wd
  have hv : ∀ x ∈ v, 0 ≤ x ∧ x < (l.length : Int) := fun x hx => by
    obtain ⟨i, hi, rfl⟩ := List.getElem_of_mem hx
    obtain ⟨a, b, _⟩ := hk.2 i hi
    rw [getD_lt hi] at a b
    exact ⟨a, b⟩
  have e : dV tm kd gw gh (skL gw X Y RX RY sk (l0 l).1 (l0 l).2.1 w h (gw * gh)) (tC tm kd gw gh (skL gw X Y RX RY sk (l0 l).1 (l0 l).2.1 w h (gw * gh)) (Tone.plD v (wd l.length))) (wd l.length) = v := by
    unfold dV
    rw [hr]
    show Tone.fromP (gw * gh) ((Tone.plD v (wd l.length)).take (wd l.length)) = v
    rw [ht, ← hk.1]
    refine Tone.fromP_plD fun x hx => ⟨(hv x hx).1, ?_⟩
    have := (hv x hx).2
    have : ((2 ^ Ton.wd l.length : Nat) : Int) = (2 : Int) ^ Ton.wd l.length := by simp
    omega
  unfold decT
  rw [if_pos (by rw [hr]), e, if_pos]
  intro i hi
  exact (hv _ (getD_mem hi 0)).2
theorem good_of {gw gh : Int} (hfl : 9223372036854775808 ≤ fl) (hz : ∀ b ∈ l, ∀ u ∈ b.2.2, 0 ≤ u) (h0 : bErr gw gh X Y RX RY tm kd op l w h = 0) : ∃ a b : Nat, gw = (a : Int) ∧ gh = (b : Int) ∧ Good fl a b X Y RX RY tm kd op w h l := by
  unfold bErr at h0
  have ht : tv gw gh X Y RX RY tm kd op = true := by
    cases ht : tv gw gh X Y RX RY tm kd op with
    | true => rfl
    | false => rw [ht, if_neg (by simp)] at h0; omega
  rw [if_pos ht] at h0
  by_cases haf : l.all (bmOk l) = true ∧ fit w h = true
  rotate_left
  · rw [if_neg haf] at h0; omega
  rw [if_pos haf] at h0
  have hso : sidesOk l.length (l0 l).1 (l0 l).2.1 = true := by
    unfold pErr at h0
    split at h0
    · assumption
    · omega
  obtain ⟨⟨g1, g2, g3, g4⟩, _⟩ := tv_iff.1 ht
  obtain ⟨gw, rfl⟩ := Int.eq_ofNat_of_zero_le g1
  obtain ⟨gh, rfl⟩ := Int.eq_ofNat_of_zero_le g3
  exact ⟨gw, gh, rfl, rfl, hfl, ht, haf.1, haf.2, hz, hso⟩
end
end Go.Proofs.YtipdidpalcmlhaaGreat.Ton
namespace Go.Proofs.YtipdidpalcmlhaaGreat.PureToneEncodes
open Go Ev Bm Gen Ton
theorem pure_fl {fl : Nat} (F : PlG fl) (hs : ∀ K : Bool → Option Ans, F_law11_Sane fl K = K true) (gw gh X Y RX RY tm kd : Int) (sk : Bool) (op : Int) (l : List Bmp) (w h : Int) (v : List Int) (K : Bool → Option Ans)
    (hll : l.length ≤ 1000000000000000) (hz : ∀ b ∈ l, ∀ u ∈ b.2.2, 0 ≤ u) : F_law11_ToneEncodes fl gw gh X Y RX RY tm kd sk op l w h v K = K true := by
  have hfl := F.hfl
  unfold F_law11_ToneEncodes Fg_law11_ToneEncodes
  obtain ⟨b, hb, hb2⟩ := large_ok (gw := gw) (gh := gh) (X := X) (Y := Y) (RX := RX) (RY := RY) (tm := tm) (kd := kd) (op := op) (w := w) (h := h) (sk := sk) (v := v) hfl hll
  rw [hb2]
  cases b with
  | true => rw [cond_t rfl, hs]
  | false =>
  have hvl := hb rfl
  rw [cond_f (b := false) rfl]
  by_cases h0 : bErr gw gh X Y RX RY tm kd op l w h = 0
  rotate_left
  · have n0 : (bErr gw gh X Y RX RY tm kd op l w h != 0) = true := by simp [h0]
    unfold F_tone_Encode Fg_tone_Encode F_ref11_Encode Fg_ref11_Encode F_ref11_given Fg_ref11_given
    rw [begun_ok hfl hll, cond_t n0]
    try dsimp only
    rw [asked_ok hfl hll, cond_t n0]
    try dsimp only
    rw [cond_t n0]
    try dsimp only
    simp only [both_same]
    rw [cond_f (by simp), cond_f (by simp), tvalid]
    try dsimp only
    rw [rtvalid]
    try dsimp only
    rw [cond_f (by simp), cond_t n0, hs]
  obtain ⟨gw, gh, rfl, rfl, G⟩ := good_of hfl hz h0
  rw [tenc F.toPlF G (by omega) h0]
  try dsimp only
  rw [rtenc F.toPlF G (by omega) h0]
  by_cases hk : okV gw gh X Y RX RY sk w h l v
  rotate_left
  · rw [if_neg hk]
    try dsimp only
    simp only [both_same]
    rw [cond_f (by simp), cond_f (by simp), tvalid]
    try dsimp only
    rw [rtvalid]
    try dsimp only
    rw [cond_f (by simp), cond_t (b := (2 : Int) != 0) rfl, hs]
  rw [if_pos hk]
  have H := G.pok hk (n := wd l.length) (by have := G.wd; omega)
  obtain ⟨c1, c2⟩ := tC_ok H
  try dsimp only
  simp only [both_same]
  rw [cond_f (by simp), cond_f (by simp), tvalid]
  try dsimp only
  rw [rtvalid]
  try dsimp only
  rw [cond_f (by simp), cond_f (b := (0 : Int) != 0) rfl, tdec F G h0 c1 c2, decT_rt G hk]
  try dsimp only
  rw [cond_t (b := (0 : Int) == 0) rfl, Tone.sameInts (by omega) (by omega), cond_t rfl, hs]
theorem plg : PlG fuel where
  hfl := by rw [fuel_eq]; omega
  g := fun vals k h K => Tone.f16 h
  r := fun vals k h K => Tone.refPlanes h
  fg := fun ps h1 h2 K => Tone.fromPlanes_ok h1 h2
  fr := fun ps h1 h2 K => Tone.refFromPlanes h1 h2
theorem pure (gw gh X Y RX RY tm kd : Int) (sk : Bool) (op : Int) (l : List Bmp) (w h : Int) (v : List Int) (K : Bool → Option Ans)
    (g : given (.pair (.pair (.int .i64) (.pair (.int .i64) (.pair (.int .i64) (.pair (.int .i64) (.pair (.int .i64) (.pair (.int .i64) (.pair (.int .i64) (.pair (.int .i64) (.pair .bool (.int .i64)))))))))) (.pair (.sl (.pair (.int .i64) (.pair (.int .i64) (.sl (.int .u8))))) (.pair (.int .i64) (.pair (.int .i64) (.sl (.int .i64)))))) ((gw, gh, X, Y, RX, RY, tm, kd, sk, op), l, w, h, v)) :
    F_law11_ToneEncodes fuel gw gh X Y RX RY tm kd sk op l w h v K = K true := by
  obtain ⟨_, ⟨h1, h2⟩, _⟩ := g
  have h1 : l.length * 40 ≤ 140737488351232 := h1
  refine pure_fl plg (fun _ => Tone.f17) gw gh X Y RX RY tm kd sk op l w h v K (by omega) fun b hb u hu => ?_
  obtain ⟨_, _, _, h3⟩ := h2 b hb
  have h : (Lit.int .u8 u).wf = true := h3 u hu
  simp [Lit.wf, IntKind.min, IntKind.max, IntKind.signed, IntKind.bits] at h
  omega
end Go.Proofs.YtipdidpalcmlhaaGreat.PureToneEncodes
