/- Laws of the typed texts that GenericEncodes reaches, in plain Lean. No condition but what each theorem names. -/
import Derived.Test.YtihfgpfofmjbaaaPsGenericEncodes1
import Derived.Test.YtihfgpfofmjbaaaFsGenericEncodes4
import Derived.Test.YtihfgpfofmjbaaaEvS
set_option linter.unusedVariables false
set_option linter.unusedSimpArgs false
set_option linter.unusedVariables false
set_option linter.unusedSimpArgs false
namespace Go.Proofs.Ytihfgpfofmjbaaa.PureGenericEncodes
open Go Ev Bm Co Gen

theorem zeros_ok (x : Int) : ∃ n : Nat, n ≤ 9 ∧ (bif decide ((9 : Int) < bif decide ((0 : Int) > x) then 0 else x) then (9 : Int) else bif decide ((0 : Int) > x) then 0 else x) = (n : Int) := by
  by_cases h0 : (0 : Int) > x
  · refine ⟨0, by omega, ?_⟩
    rw [dec_t h0, dec_f (by omega)]
    rfl
  · rw [dec_f h0]
    by_cases h9 : (9 : Int) < x
    · exact ⟨9, by omega, by rw [dec_t h9]; rfl⟩
    · exact ⟨x.toNat, by omega, by rw [dec_f h9]; omega⟩
theorem encR_ok {t ax ay kd w h : Int} {ty : Bool} {p c : List Int} (h0 : ∀ v ∈ p, 0 ≤ v) (hR : encR t ax ay kd w h ty p = (0, c)) : vr t ax ay kd = true ∧ Pix w h p ∧ c = encC t ax ay kd w h ty p := by
  unfold encR at hR
  split at hR
  · rename_i hv
    split at hR
    · rename_i hb
      exact ⟨hv, pix_of hb h0, (congrArg Prod.snd hR).symm⟩
    · have := congrArg Prod.fst hR
      exact absurd this (by simp)
  · have := congrArg Prod.fst hR
    exact absurd this (by simp)
theorem pure_fl {fl : Nat} (hfl : 9223372036854775808 ≤ fl) (t ax ay : Int) (ty : Bool) (kd w h : Int) (p : List Int) (z : Int) (K : Bool → Option Ans) (h0 : ∀ v ∈ p, 0 ≤ v) : F_law07_GenericEncodes fl t ax ay ty kd w h p z K = K true := by
  unfold F_law07_GenericEncodes Fg_law07_GenericEncodes
  by_cases hl : (p.length : Int) > 1200
  · rw [dec_t hl]
    by_cases h2 : (p.length : Int) ≤ 20000
    · rw [dec_t h2, sane hfl]
    · rw [dec_f h2, dec_t (by omega), sane hfl]
  rw [dec_f hl, dec_f (by omega), genc hfl h0]
  generalize hR : encR t ax ay kd w h ty p = R
  obtain ⟨e, c⟩ := R
  dsimp only
  rw [renc hfl h0, hR]
  dsimp only
  rw [cond_f (by simp), cond_f (by simp)]
  by_cases he : e = 0
  rotate_left
  · rw [cond_t (by simp [he]), sane hfl]
  subst he
  obtain ⟨hv, hp, rfl⟩ := encR_ok h0 hR
  obtain ⟨n, hn, hz⟩ := zeros_ok z
  have hlen := encC_len hv hp ty
  have hby := encC_bytes hv hp ty n
  rw [cond_f (b := (0 : Int) != 0) rfl, hz, Int.toNat_natCast, dec_t (by omega), gdec hfl hby (by rw [List.length_append, List.length_replicate]; omega)]
  rw [decR_rt (ty := ty) hv hp n]
  dsimp only
  rw [cond_t (b := (0 : Int) == 0) rfl, same_b, cond_t rfl, sane hfl]
theorem pure (t ax ay : Int) (ty : Bool) (kd w h : Int) (p : List Int) (z : Int) (K : Bool → Option Ans)
    (g0 : given (.pair (.int .i64) (.pair (.pair (.int .i64) (.int .i64)) (.pair .bool (.int .i64)))) (t, (ax, ay), ty, kd)) (g : given (.pair (.int .i64) (.pair (.int .i64) (.sl (.int .u8)))) (w, h, p)) (gz : (Lit.int .i64 z).wf = true) :
    F_law07_GenericEncodes fuel t ax ay ty kd w h p z K = K true :=
  pure_fl (by rw [fuel_eq]; omega) t ax ay ty kd w h p z K fun v hv => by
    obtain ⟨_, _, _, hg⟩ := g
    have h : (Lit.int .u8 v).wf = true := hg v hv
    simp [Lit.wf, IntKind.min, IntKind.max, IntKind.signed, IntKind.bits] at h
    omega
end Go.Proofs.Ytihfgpfofmjbaaa.PureGenericEncodes

