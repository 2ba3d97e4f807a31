/- Laws of the typed texts that SymbolGoes reaches, in plain Lean. No condition but what each theorem names. -/
import Derived.Test.YtohnjbmiaegofaaGreatEvO
import Derived.Test.YtohnjbmiaegofaaGreatFsSymbolGoes3
import Derived.Test.YtohnjbmiaegofaaGreatFsSymbolGoes4
import Derived.Test.YtohnjbmiaegofaaGreatFsSymbolGoes6
import Derived.Test.YtohnjbmiaegofaaGreatFsSymbolGoes1
import Derived.Test.YtohnjbmiaegofaaGreatFsSymbolGoes2
import Derived.Test.YtohnjbmiaegofaaGreatFsSymbolGoes7
set_option linter.unusedVariables false
set_option linter.unusedSimpArgs false
set_option linter.unusedSectionVars false
namespace Go.Proofs.YtohnjbmiaegofaaGreat.Ev
open Go
theorem cond_t {α:Sort _} {b:Bool} {x y:α} (h:b = true):(bif b then x else y) = x:=by rw [h]; rfl
theorem cond_f {α:Sort _} {b:Bool} {x y:α} (h:b = false):(bif b then x else y) = y:=by rw [h]; rfl
theorem dec_t {p:Prop} {i:Decidable p} {α:Sort _} {x y:α} (h:p):(bif @decide p i then x else y) = x:=cond_t (decide_eq_true h)
theorem dec_f {p:Prop} {i:Decidable p} {α:Sort _} {x y:α} (h:¬p):(bif @decide p i then x else y) = y:=cond_f (decide_eq_false h)
theorem loOf_some (x:Int):loOf (some x) = x:=rfl
theorem hiOf_some (x n:Int):hiOf (some x) n = x:=rfl
theorem both_same (x:OA):both x x = x:=by
 unfold both
 cases x with
 | none=>rfl
 | some u=>rfl
theorem fuel_eq:fuel = 18446744073709551616:=rfl
theorem wrap64 {x:Int} (h1: -9223372036854775808≤x) (h2:x≤9223372036854775807):IntKind.i64.wrap x = x:=by
 simp [IntKind.wrap,IntKind.min,IntKind.max,IntKind.signed,IntKind.bits]
 omega
theorem wrap8 {x:Int} (h1:0≤x) (h2:x≤255):IntKind.u8.wrap x = x:=by
 simp [IntKind.wrap,IntKind.min,IntKind.max,IntKind.signed,IntKind.bits]
 omega
theorem ishl_one {y:Int} (h0:0≤y) (h:y≤62):ishl .i64 1 y = 2 ^ y.toNat:=by
 unfold ishl
 have hb:min y.toNat IntKind.i64.bits = y.toNat:=by
  have:IntKind.i64.bits = 64:=rfl
  rw [this]
  omega
 rw [hb,Int.one_mul]
 have h1:(2:Int) ^ y.toNat≤2 ^ 62:=by
  have:=Nat.pow_le_pow_right (n:=2) q0 (show y.toNat≤62 by omega)
  exact_mod_cast this
 have h2:(0:Int) < 2 ^ y.toNat:=Int.pow_pos q0
 exact wrap64 q0 (by omega)
theorem ofInt_toNat {n:Nat} {x:Int} (h0:0≤x) (h:x < 2 ^ n):(BitVec.ofInt n x).toNat = x.toNat:=by
 rw [BitVec.toNat_ofInt]
 rw [Int.emod_eq_of_lt h0 (by exact_mod_cast h)]
theorem iand_one {x:Int} (hx:0≤x) (hx':x < 2 ^ 63):iand .i64 x 1 = x % 2:=by
 unfold iand
 have e:IntKind.i64.bits = 64:=rfl
 rw [e,BitVec.toNat_and,ofInt_toNat hx q0,ofInt_toNat q0 q0]
 have h1:x.toNat&&& (1:Int).toNat = x.toNat % 2:=Nat.and_one_is_mod _
 rw [h1]
 have h2:((x.toNat % 2:Nat):Int) = x % 2:=by omega
 rw [h2]
 exact wrap64 q0 (by omega)
theorem iter_to {V B:Type} {step:V→(V→OA)→B→OA} {b:B} {r:OA} (σ:Nat→V) (n:Nat)
  (h:∀ i,i < n→∀ c,step (σ i) c b = c (σ (i + 1))) (hn:∀ c,step (σ n) c b = r) {m:Nat} (hm:n < m):iter step m (σ 0) b = r:=by
 have key:∀ d i m,i + d = n→d < m→iter step m (σ i) b = r:=by
  intro d
  induction d with
  | zero=>
   intro i m hi hm
   obtain ⟨m,rfl⟩:∃ k,m = k + 1:=⟨m - 1,by omega⟩
   have:i = n:=by omega
   subst this
   exact hn _
  | succ d ih=>
   intro i m hi hm
   obtain ⟨m,rfl⟩:∃ k,m = k + 1:=⟨m - 1,by omega⟩
   simp only [iter]
   rw [h i q0]
   exact ih (i + 1) m q0 q0
 exact key n 0 m q0 hm
theorem iter_seq {V B:Type} {step:V→(V→OA)→B→OA} {b:B} {r:OA} {v:V} {m:Nat} (σ:Nat→V) (n:Nat) (hv:v = σ 0)
  (h:∀ i,i < n→∀ c,step (σ i) c b = c (σ (i + 1))) (hn:∀ c,step (σ n) c b = r) (hm:n < m):iter step m v b = r:=by
 rw [hv]
 exact iter_to σ n h hn hm
theorem iter_inv {V B:Type} {step:V→(V→OA)→B→OA} {b:B} {r:OA} (I:Nat→V→Prop) (n:Nat)
  (h:∀ i v,i < n→I i v→(∃ v',I (i + 1) v'∧∀ c,step v c b = c v')∨∀ c,step v c b = r) (hn:∀ v,I n v→∀ c,step v c b = r) {v:V} (h0:I 0 v) {m:Nat} (hm:n < m):iter step m v b = r:=by
 have key:∀ d i v m,i + d = n→I i v→d < m→iter step m v b = r:=by
  intro d
  induction d with
  | zero=>
   intro i v m hi hI hm
   obtain ⟨m,rfl⟩:∃ k,m = k + 1:=⟨m - 1,by omega⟩
   have:i = n:=by omega
   subst this
   exact hn _ hI _
  | succ d ih=>
   intro i v m hi hI hm
   obtain ⟨m,rfl⟩:∃ k,m = k + 1:=⟨m - 1,by omega⟩
   simp only [iter]
   rcases h i v q0 hI with ⟨v',h1,h2⟩ | h1
   ·rw [h2]
    exact ih (i + 1) v' m q0 h1 q0
   ·exact h1 _
 exact key n 0 v m q0 h0 hm
theorem take_succ_getD {α:Type} {l:List α} {i:Nat} (h:i < l.length) (d:α):l.take (i + 1) = l.take i++ [l.getD i d]:=by
 rw [List.take_add_one]
 simp [List.getElem?_eq_getElem h]
theorem getD_lt {α:Type} {l:List α} {i:Nat} (h:i < l.length) (d:α):l.getD i d = l[i]:=by simp [h]
theorem getD_mem {α:Type} {l:List α} {i:Nat} (h:i < l.length) (d:α):l.getD i d ∈ l:=by rw [getD_lt h]; exact List.getElem_mem h
theorem all_or_first {α:Type} (p:α→Bool) (d:α) (l:List α):l.all p = true∨∃ n,n < l.length∧p (l.getD n d) = false∧∀ i,i < n→p (l.getD i d) = true:=by
 induction l with
 | nil=>exact .inl rfl
 | cons x l ih=>
  cases hx:p x with
  | false=>exact .inr ⟨0,by simp,by simpa using hx,fun i hi=>by omega⟩
  | true=>
   rcases ih with ih | ⟨n,h1,h2,h3⟩
   ·left; simp [hx,ih]
   ·refine .inr ⟨n + 1,by simpa using h1,by simpa using h2,fun i hi=> ?_⟩
    cases i with
    | zero=>simpa using hx
    | succ i=>simpa using h3 i (by omega)
theorem all_getD {α:Type} {p:α→Bool} {l:List α} (h:l.all p = true) (d:α) {i:Nat} (hi:i < l.length):p (l.getD i d) = true:=
 List.all_eq_true.1 h _ (getD_mem hi d)
theorem not_all {α:Type} {p:α→Bool} {l:List α} {d:α} {n:Nat} (h:n < l.length) (hp:p (l.getD n d) = false):l.all p = false:=by
 rw [List.all_eq_false]
 exact ⟨_,getD_mem h d,by rw [hp]; simp⟩
theorem nat_or_first (P:Nat→Prop) [DecidablePred P]:∀ n,(∀ i,i < n→P i)∨∃ k,k < n∧¬ P k∧∀ i,i < k→P i
 | 0=>.inl fun i h=>by omega
 | n + 1=>by
  rcases nat_or_first P n with h | ⟨k,h1,h2,h3⟩
  ·by_cases hn:P n
   ·left
    intro i hi
    rcases Nat.lt_or_ge i n with h' | h'
    ·exact h i h'
    ·have:i = n:=by omega
     subst this; exact hn
   ·exact .inr ⟨n,by omega,hn,h⟩
  ·exact .inr ⟨k,by omega,h2,h3⟩
theorem list_ext_getD {α:Type} {a b:List α} (d:α) (hl:a.length = b.length) (h:∀ i,i < a.length→a.getD i d = b.getD i d):a = b:=by
 apply List.ext_getElem hl
 intro i h1 h2
 have:=h i h1
 rwa [getD_lt h1,getD_lt h2] at this
def fillL (u:Nat→Int) (n i:Nat):List Int:=(List.range n).map fun j=>if j < i then u j else 0
theorem fillL_len (u:Nat→Int) (n i:Nat):(fillL u n i).length = n:=by simp [fillL]
theorem fillL_zero (u:Nat→Int) (n:Nat):fillL u n 0 = List.replicate n 0:=by
 apply List.ext_getElem (by simp [fillL])
 intro j h1 h2
 simp [fillL]
theorem fillL_set {u:Nat→Int} {n i:Nat}:(fillL u n i).set i (u i) = fillL u n (i + 1):=by
 apply List.ext_getElem (by simp [fillL])
 intro j h1 h2
 simp only [fillL,List.getElem_set,List.getElem_map,List.getElem_range]
 split
 ·rename_i e; subst e; rw [if_pos q0]
 ·by_cases h:j < i
  ·rw [if_pos h,if_pos q0]
  ·rw [if_neg h,if_neg q0]
theorem fillL_all {u:Nat→Int} {n:Nat}:fillL u n n = (List.range n).map u:=by
 apply List.ext_getElem (by simp [fillL])
 intro j h1 h2
 simp only [fillL,List.length_map,List.length_range] at h1
 simp [fillL,h1]
theorem range_map_succ {α:Type} (f:Nat→α) (i:Nat):(List.range (i + 1)).map f = (List.range i).map f++ [f i]:=by
 rw [List.range_succ,List.map_append]; rfl
end Go.Proofs.YtohnjbmiaegofaaGreat.Ev
namespace Go.Proofs.YtohnjbmiaegofaaGreat.Bm
open Go Ev
theorem cd {α:Sort _} {p:Prop} {i:Decidable p} {x y:α}:(bif @decide p i then x else y) = @ite α p i x y:=by by_cases h:p <;> simp [h]
theorem cb {α:Sort _} {a b:Int} {x y:α}:(bif a==b then x else y) = if a = b then x else y:=by
 by_cases h:a = b
 ·simp [h]
 ·rw [if_neg h,cond_f (by simpa using h)]
theorem cn {α:Sort _} {a b:Int} {x y:α}:(bif a != b then x else y) = if a = b then y else x:=by
 by_cases h:a = b
 ·simp [h]
 ·rw [if_neg h,cond_t (by simpa using h)]
theorem mul_le {w h a b:Int} (h0:0≤w) (h1:w≤a) (h2:0≤h) (h3:h≤b):0≤w * h∧w * h≤a * b:=
 ⟨Int.mul_nonneg h0 h2,Int.mul_le_mul h1 h3 h2 q0⟩
def fit (w h:Int):Bool:=decide (0≤w∧0≤h∧w≤200∧h≤200∧w * h≤8192)
theorem fit_iff {w h:Int}:fit w h = true↔0≤w∧0≤h∧w≤200∧h≤200∧w * h≤8192:=by simp [fit]
theorem fits_ok {fl:Nat} {w h:Int} {K:Bool→OA}:cf fl w h K = K (fit w h):=by
 unfold cf fit
 simp only [cd]
 split
 ·split
  ·split
   ·split
    ·have:=mul_le (a:=200) (b:=200) (show 0≤w by omega) q0 (show 0≤h by omega) q0
     rw [wrap64 q0 q0]
     exact congrArg K (decide_eq_decide.2 q0)
    ·exact congrArg K (decide_eq_false q0).symm
   ·exact congrArg K (decide_eq_false q0).symm
  ·exact congrArg K (decide_eq_false q0).symm
 ·exact congrArg K (decide_eq_false q0).symm
def valid (w h:Int) (pix:List Int):Bool:=fit w h&&decide ((pix.length:Int) = w * h)&&pix.all fun x=>decide (x≤1)
theorem valid_iff {w h:Int} {pix:List Int}:valid w h pix = true↔(0≤w∧0≤h∧w≤200∧h≤200∧w * h≤8192)∧(pix.length:Int) = w * h∧∀ x ∈ pix,x≤1:=by
 unfold valid
 rw [Bool.and_eq_true,Bool.and_eq_true,fit_iff,decide_eq_true_eq,List.all_eq_true]
 simp [and_assoc]
theorem fit_mul {w h:Int} (hf:fit w h = true):IntKind.i64.wrap (w * h) = w * h:=by
 obtain ⟨h1,h2,h3,h4,h5⟩:=fit_iff.1 hf
 have:=mul_le (a:=200) (b:=200) h1 h3 h2 h4
 exact wrap64 q0 (by omega)
theorem valid_ok {fl:Nat} (hfl:9223372036854775808≤fl) {w h:Int} {pix:List Int} {K:Bool→OA}:aj fl w h pix K = K (valid w h pix):=by
 unfold aj xK
 rw [fits_ok]
 unfold valid
 cases hf:fit w h with
 | false=>rfl
 | true=>
 rw [cond_f (b:=!true) rfl,fit_mul hf,cn]
 obtain ⟨h1,h2,h3,h4,h5⟩:=fit_iff.1 hf
 split
 rotate_left
 ·rename_i hne
  rw [decide_eq_false hne]
  rfl
 rename_i he
 rw [decide_eq_true he]
 simp only [Bool.true_and]
 unfold DU
 rcases all_or_first (fun x=>decide (x≤1)) 0 pix with ha | ⟨n,hn,hb,hi⟩
 ·rw [ha]
  refine iter_seq (step:=dH fl) (fun i:Nat=>(pix,(pix.length:Int),(i:Int))) pix.length rfl (fun i hi c=> ?_) (fun c=> ?_) q0
  ·have g:=all_getD ha 0 hi
   simp only [decide_eq_true_eq] at g
   simp (disch:=omega) only [dH,ix,dec_t,dec_f,wrap64,Int.toNat_natCast]
   rfl
  ·simp (disch:=omega) only [dH,ix,dec_f]
 ·rw [not_all hn hb]
  refine iter_seq (step:=dH fl) (fun i:Nat=>(pix,(pix.length:Int),(i:Int))) n rfl (fun i hin c=> ?_) (fun c=> ?_) q0
  ·have g:=hi i hin
   simp only [decide_eq_true_eq] at g
   simp (disch:=omega) only [dH,ix,dec_t,dec_f,wrap64,Int.toNat_natCast]
   rfl
  ·simp only [decide_eq_false_iff_not] at hb
   simp (disch:=omega) only [dH,ix,dec_t,Int.toNat_natCast]
def ins (w h x y:Int):Prop:=0≤x∧0≤y∧x < w∧y < h
instance {w h x y:Int}:Decidable (ins w h x y):=by unfold ins; infer_instance
def px (w h:Int) (pix:List Int) (x y:Int):Int:=if ins w h x y then pix.getD (y * w + x).toNat 0 else 0
theorem place {w h x y:Int} (hi:ins w h x y):0≤y * w + x∧y * w + x < w * h:=by
 obtain ⟨h1,h2,h3,h4⟩:=hi
 have a:0≤y * w:=Int.mul_nonneg h2 q0
 have b:(y + 1) * w≤h * w:=Int.mul_le_mul_of_nonneg_right q0 q0
 rw [Int.add_mul,Int.one_mul,Int.mul_comm h w] at b
 omega
theorem place_y {w h x y:Int} (hi:ins w h x y):0≤y * w∧y * w < w * h:=by
 obtain ⟨h1,h2,h3,h4⟩:=hi
 have a:0≤y * w:=Int.mul_nonneg h2 q0
 have b:(y + 1) * w≤h * w:=Int.mul_le_mul_of_nonneg_right q0 q0
 rw [Int.add_mul,Int.one_mul,Int.mul_comm h w] at b
 omega
theorem px_01 {w h:Int} {pix:List Int} (h0:∀ v ∈ pix,0≤v∧v≤1) (x y:Int):0≤px w h pix x y∧px w h pix x y≤1:=by
 unfold px
 split
 ·by_cases hl:(y * w + x).toNat < pix.length
  ·exact h0 _ (getD_mem hl 0)
  ·rw [List.getD_eq_getElem?_getD,List.getElem?_eq_none q0]
   simp
 ·omega
end Go.Proofs.YtohnjbmiaegofaaGreat.Bm
namespace Go.Proofs.YtohnjbmiaegofaaGreat.Di
open Go Ev Bm
abbrev Bmp:Type:=Int×Int×List Int
def shp (b:Bmp):Bool:=valid b.1 b.2.1 b.2.2&&decide (1≤b.1∧b.1≤40∧1≤b.2.1∧b.2.1≤40)
section
variable {fl:Nat} (hfl:9223372036854775808≤fl)
include hfl
theorem isShape_ok {w h:Int} {p:List Int} {K:Bool→OA}:aH fl w h p K = K (shp (w,h,p)):=by
 unfold aH pa shp
 dsimp only
 rw [valid_ok hfl]
 cases valid w h p with
 | false=>rfl
 | true=>
  rw [cond_true]
  by_cases h1:w≥1
  rotate_left
  ·rw [dec_f h1,decide_eq_false q0]; rfl
  rw [dec_t h1]
  by_cases h2:w≤40
  rotate_left
  ·rw [dec_f h2,decide_eq_false q0]; rfl
  rw [dec_t h2]
  by_cases h3:h≥1
  rotate_left
  ·rw [dec_f h3,decide_eq_false q0]; rfl
  rw [dec_t h3,Bool.true_and]
  congr 1
  exact decide_eq_decide.2 (by omega)
end
theorem shp_rg {b:Bmp} (h:shp b = true):1≤b.1∧b.1≤40∧1≤b.2.1∧b.2.1≤40:=by
 unfold shp at h
 simp only [Bool.and_eq_true,decide_eq_true_eq] at h
 exact h.2
end Go.Proofs.YtohnjbmiaegofaaGreat.Di
namespace Go.Proofs.YtohnjbmiaegofaaGreat.Gen
open Go Ev Bm
def vr (t ax ay kd:Int):Bool:=decide (0≤t∧t≤3∧(kd = 0∨kd = 1)∧ -8≤ax∧ax≤8∧ -8≤ay∧ay≤0∧(ay < 0∨ax < 0))
theorem vr_iff {t ax ay kd:Int}:vr t ax ay kd = true↔0≤t∧t≤3∧(kd = 0∨kd = 1)∧ -8≤ax∧ax≤8∧ -8≤ay∧ay≤0∧(ay < 0∨ax < 0):=by simp [vr]
theorem gvalid {fl:Nat} {t ax ay kd:Int} {ty:Bool} {K:Bool→OA}:aN fl t ax ay ty kd K = K (vr t ax ay kd):=by
 unfold aN vr
 simp only [cd,cb]
 repeat' split
 all_goals first
  | exact congrArg K (decide_eq_true q0).symm
  | exact congrArg K (decide_eq_false q0).symm
  | exact congrArg K (decide_eq_decide.2 q0)
theorem rvalid {fl:Nat} {t ax ay kd:Int} {ty:Bool} {K:Bool→OA}:fb fl t ax ay ty kd K = K (vr t ax ay kd):=by
 unfold fb vr
 simp only [cd,cb]
 repeat' split
 all_goals first
  | exact congrArg K (decide_eq_true q0).symm
  | exact congrArg K (decide_eq_false q0).symm
  | exact congrArg K (decide_eq_decide.2 q0)
def tpl (t:Int):List (Int×Int):=
 if t = 0 then [(-1, -2),(0, -2),(1, -2),(-2, -1),(-1, -1),(0, -1),(1, -1),(2, -1),(-2,0),(-1,0)]
 else if t = 1 then [(-1, -2),(0, -2),(-1, -1),(0, -1),(1, -1),(-2,0),(-1,0)]
 else if t = 2 then [(-2, -1),(-1, -1),(0, -1),(1, -1),(2, -1),(-2,0),(-1,0)]
 else [(-1, -1),(0, -1),(1, -1),(-1,0)]
theorem gpixels {fl:Nat} {t:Int} {K:List (Int×Int)→OA}:dc fl t K = K (tpl t):=by
 unfold dc tpl
 simp only [cb,apply_ite K]
theorem tpl_len (t:Int):(tpl t).length≤10:=by
 unfold tpl
 repeat' split
 all_goals simp
theorem tpl_near (t:Int):∀ d ∈ tpl t, -8≤d.1∧d.1≤8∧ -8≤d.2∧d.2≤0:=by
 unfold tpl
 repeat' split
 all_goals decide
def around (t ax ay:Int):List (Int×Int):=tpl t++ [(ax,ay)]
theorem around_len (t ax ay:Int):(around t ax ay).length = (tpl t).length + 1:=by simp [around]
def size (t:Int):Int:=2 ^ ((tpl t).length + 1) + 1
theorem size_eq {t:Int}:size t = 2048 + 1∨size t = 256 + 1∨size t = 32 + 1:=by
 unfold size tpl
 repeat' split
 all_goals decide
theorem ishl_two {n:Nat} (h:n≤60):ishl .i64 2 (n:Int) = 2 ^ (n + 1):=by
 unfold ishl
 have hb:min (n:Int).toNat IntKind.i64.bits = n:=by
  have:IntKind.i64.bits = 64:=rfl
  rw [this]
  omega
 rw [hb]
 have e:(2:Int) * 2 ^ n = 2 ^ (n + 1):=by rw [Int.pow_succ]; omega
 rw [e]
 have h1:(2:Int) ^ (n + 1)≤2 ^ 61:=by
  have:=Nat.pow_le_pow_right (n:=2) q0 (show n + 1≤61 by omega)
  exact_mod_cast this
 have h2:(0:Int) < 2 ^ (n + 1):=Int.pow_pos q0
 exact wrap64 q0 (by omega)
def sizeR (t ax ay kd:Int):Int×Int:=if vr t ax ay kd = true then (size t,0) else (0,2)
theorem gcontexts {fl:Nat} {t ax ay kd:Int} {ty:Bool} {K:Int→OA}:aB fl t ax ay ty kd K = K (size t - 1):=by
 have:=tpl_len t
 unfold aB rT
 rw [gpixels,ishl_two q0]
 unfold size
 rw [Int.add_sub_cancel]
theorem gsize {fl:Nat} {t ax ay kd:Int} {ty:Bool} {K:Int×Int→OA}:eZ fl t ax ay ty kd K = K (sizeR t ax ay kd):=by
 unfold eZ wV sizeR
 rw [gvalid]
 cases h:vr t ax ay kd with
 | false=>rfl
 | true=>
  rw [cond_f (b:=!true) rfl,gcontexts,if_pos rfl]
  have:=size_eq (t:=t)
  rw [wrap64 q0 q0,Int.sub_add_cancel]
theorem gplane {fl:Nat} {t ax ay kd w h:Int} {ty:Bool} {K:Int×Int×List Int×List (Int×Int)→OA} (h0:0≤w * h) (h1:w * h≤1000000000):
  bm fl t ax ay ty kd w h K = K (w,h,List.replicate (w * h).toNat 0,around t ax ay):=by
 have:=tpl_len t
 unfold bm sa around
 simp only [gpixels,wrap64 (show -9223372036854775808≤w * h by omega) (show w * h≤9223372036854775807 by omega)]
 have c1:decide ((0:Int)≤w * h∧True∧((1:Nat):Int) * (w * h)≤281474976710656∧w * h≤281474976710656) = true:=decide_eq_true ⟨h0,trivial,by omega,by omega⟩
 have c2:decide (((tpl t).length + [(ax,ay)].length) * 16≤140737488355328∧(tpl t).length + [(ax,ay)].length≤140737488355328) = true:=decide_eq_true (by simp; omega)
 simp only [c1,c2,cond_true,both_same]
def ctxv (w h:Int) (p:List Int) (x y:Int) (l:List (Int×Int)):Int:=l.foldl (fun n d=>2 * n + px w h p (x + d.1) (y + d.2)) 0
theorem ctxv_take {w h:Int} {p:List Int} {x y:Int} {l:List (Int×Int)} {i:Nat} (hi:i < l.length):
  ctxv w h p x y (l.take (i + 1)) = 2 * ctxv w h p x y (l.take i) + px w h p (x + (l.getD i (0,0)).1) (y + (l.getD i (0,0)).2):=by
 unfold ctxv
 rw [take_succ_getD hi (0,0),List.foldl_append]
 rfl
theorem ctxv_lt {w h:Int} {p:List Int} (h0:∀ v ∈ p,0≤v∧v≤1) {x y:Int} {l:List (Int×Int)}:∀ i,i≤l.length→0≤ctxv w h p x y (l.take i)∧ctxv w h p x y (l.take i) < 2 ^ i
 | 0,_=>by simp [ctxv]
 | i + 1,hi=>by
  obtain ⟨a,b⟩:=ctxv_lt h0 (w:=w) (h:=h) (x:=x) (y:=y) (l:=l) i q0
  have c:=px_01 (w:=w) (h:=h) h0 (x + (l.getD i (0,0)).1) (y + (l.getD i (0,0)).2)
  rw [ctxv_take q0,Int.pow_succ]
  omega
theorem ctxv_small {w h:Int} {p:List Int} (h0:∀ v ∈ p,0≤v∧v≤1) {x y:Int} {l:List (Int×Int)} (hl:l.length≤11) {i:Nat} (hi:i≤l.length):0≤ctxv w h p x y (l.take i)∧ctxv w h p x y (l.take i) < 2048:=by
 have a:=ctxv_lt h0 (w:=w) (h:=h) (x:=x) (y:=y) i hi
 have b:(2:Int) ^ i≤2 ^ 11:=by
  have:=Nat.pow_le_pow_right (n:=2) q0 (show i≤11 by omega)
  exact_mod_cast this
 have c:(2:Int) ^ 11 = 2048:=by decide
 omega
structure Pix (w h:Int) (p:List Int):Prop where
 w0:0≤w
 h0:0≤h
 w1:w≤200
 h1:h≤200
 n:w * h≤8192
 len:(p.length:Int) = w * h
 bit:∀ v ∈ p,0≤v∧v≤1
theorem pix_of {w h:Int} {p:List Int} (hv:valid w h p = true) (h0:∀ v ∈ p,0≤v):Pix w h p:=by
 obtain ⟨⟨a,b,c,d,e⟩,f,g⟩:=valid_iff.1 hv
 exact ⟨a,b,c,d,e,f,fun v hv=>⟨h0 v hv,g v hv⟩⟩
theorem Pix.mul0 {w h:Int} {p:List Int} (hp:Pix w h p):0≤w * h:=by have:=hp.len; omega
theorem gat {fl:Nat} {w h:Int} {p:List Int} (hp:Pix w h p) {x y:Int} {l:List (Int×Int)} {K:Int×Int×Int×List Int×List (Int×Int)→OA}:
  bI fl x y w h p l K = K (px w h p x y,w,h,p,l):=by
 have hl:=hp.len
 have hn:=hp.n
 unfold bI px
 simp only [cd]
 by_cases hi:ins w h x y
 ·have hq:=place hi
  have hy:=place_y hi
  rw [if_pos hi]
  obtain ⟨h1,h2,h3,h4⟩:=hi
  rw [if_neg q0,if_neg q0,if_neg q0,if_neg q0,w6 (x:=y * w),w6 (x:=y * w + x),if_pos q0]
  try rw [both_same]
 ·rw [if_neg hi]
  unfold ins at hi
  repeat' split
  all_goals first | rfl | omega
theorem gcontext {fl:Nat} (hfl:9223372036854775808≤fl) {w h:Int} {p:List Int} (hp:Pix w h p) {x y:Int} {l:List (Int×Int)} (hx: -1000≤x∧x≤1000) (hy: -1000≤y∧y≤1000) (hl:l.length≤11) (hd:∀ d ∈ l, -8≤d.1∧d.1≤8∧ -8≤d.2∧d.2≤0)
  {K:Int×Int×Int×List Int×List (Int×Int)→OA}:cK fl x y w h p l K = K (ctxv w h p x y l,w,h,p,l):=by
 unfold cK xw BE
 refine iter_seq (step:=ia fl) (fun i:Nat=>(x,y,ctxv w h p x y (l.take i),(l.length:Int),(i:Int),w,h,p,l)) l.length rfl (fun i hi c=> ?_) (fun c=> ?_) q0
 ·have e:=hd _ (getD_mem hi (0,0))
  have a:=ctxv_small hp.bit (w:=w) (h:=h) (x:=x) (y:=y) hl (show i≤l.length by omega)
  have b:=px_01 (w:=w) (h:=h) hp.bit (x + (l.getD i (0,0)).1) (y + (l.getD i (0,0)).2)
  simp (disch:=omega) only [ia,oo,dec_t,Int.toNat_natCast,wrap64,gat hp]
  rw [ctxv_take hi]
  rfl
 ·simp (disch:=omega) only [ia,oo,dec_f,List.take_length]
end Go.Proofs.YtohnjbmiaegofaaGreat.Gen
namespace Go.Proofs.YtohnjbmiaegofaaGreat.Co
open Go Ev
def mid (lo hi p:Int):Int:=lo + (hi - lo) / 4096 * p + (hi - lo) % 4096 * p / 4096
theorem mid_in {lo hi p:Int} (h:lo < hi) (h1:1≤p) (h2:p≤4095):lo≤mid lo hi p∧mid lo hi p < hi:=by
 unfold mid
 have hr:1≤hi - lo:=by omega
 have e:=Int.emod_add_mul_ediv (hi - lo) 4096
 have b0:0≤(hi - lo) % 4096:=Int.emod_nonneg _ q0
 have b1:(hi - lo) % 4096 < 4096:=Int.emod_lt_of_pos _ q0
 have a0:0≤(hi - lo) / 4096:=Int.ediv_nonneg q0 q0
 generalize (hi - lo) % 4096 = b at *
 generalize (hi - lo) / 4096 = a at *
 have m1:0≤a * p:=Int.mul_nonneg a0 q0
 have m2:a * p≤a * 4095:=Int.mul_le_mul_of_nonneg_left h2 a0
 have m3:0≤b * p:=Int.mul_nonneg b0 q0
 have m4:b * p≤b * 4095:=Int.mul_le_mul_of_nonneg_left h2 b0
 generalize a * p = x at *
 generalize b * p = y at *
 omega
theorem mid_parts {lo hi p:Int} (h:lo≤hi) (hl:0≤lo) (hh:hi < 4294967296) (h1:1≤p) (h2:p≤4095):
  0≤(hi - lo) / 4096 * p∧(hi - lo) / 4096 * p < 4294967296∧0≤(hi - lo) % 4096 * p∧(hi - lo) % 4096 * p < 4294967296:=by
 have b0:0≤(hi - lo) % 4096:=Int.emod_nonneg _ q0
 have b1:(hi - lo) % 4096 < 4096:=Int.emod_lt_of_pos _ q0
 have a0:0≤(hi - lo) / 4096:=Int.ediv_nonneg q0 q0
 have e:=Int.emod_add_mul_ediv (hi - lo) 4096
 generalize (hi - lo) % 4096 = b at *
 generalize (hi - lo) / 4096 = a at *
 have m1:0≤a * p:=Int.mul_nonneg a0 q0
 have m2:a * p≤a * 4095:=Int.mul_le_mul_of_nonneg_left h2 a0
 have m3:0≤b * p:=Int.mul_nonneg b0 q0
 have m4:b * p≤b * 4095:=Int.mul_le_mul_of_nonneg_left h2 b0
 generalize a * p = x at *
 generalize b * p = y at *
 omega
def same (lo hi:Int):Prop:=lo / 16777216 = hi / 16777216
instance (lo hi:Int):Decidable (same lo hi):=by unfold same; infer_instance
def nl (lo:Int):Int:=lo % 16777216 * 256
def nh (hi:Int):Int:=hi % 16777216 * 256 + 255
structure Rg (lo hi:Int):Prop where
 l:0≤lo
 m:lo≤hi
 h:hi < 4294967296
theorem Rg.next {lo hi:Int} (h:Rg lo hi) (hs:same lo hi):Rg (nl lo) (nh hi):=by
 obtain ⟨a,b,c⟩:=h
 unfold same at hs
 unfold nl nh
 constructor <;> omega
def nrm:Nat→Int→Int→Nat×Int×Int
 | 0,lo,hi=>(0,lo,hi)
 | n + 1,lo,hi=>if same lo hi then ((nrm n (nl lo) (nh hi)).1 + 1,(nrm n (nl lo) (nh hi)).2) else (0,lo,hi)
def nrmB:Nat→Int→Int→List Int
 | 0,_,_=>[]
 | n + 1,lo,hi=>if same lo hi then lo / 16777216::nrmB n (nl lo) (nh hi) else []
theorem nrmB_len:∀ (n:Nat) (lo hi:Int),(nrmB n lo hi).length = (nrm n lo hi).1
 | 0,_,_=>rfl
 | n + 1,lo,hi=>by
  unfold nrmB nrm
  split
  ·simp [nrmB_len n]
  ·rfl
theorem nrm_le:∀ (n:Nat) (lo hi:Int),(nrm n lo hi).1≤n
 | 0,_,_=>Nat.le_refl _
 | n + 1,lo,hi=>by
  unfold nrm
  split
  ·have:=nrm_le n (nl lo) (nh hi)
   show _ + 1≤n + 1
   omega
  ·exact Nat.zero_le _
theorem nrmB_byte:∀ (n:Nat) {lo hi:Int},Rg lo hi→∀ b ∈ nrmB n lo hi,0≤b∧b≤255
 | 0,_,_,_,b,hb=>by cases hb
 | n + 1,lo,hi,h,b,hb=>by
  unfold nrmB at hb
  split at hb
  ·rename_i hs
   rcases List.mem_cons.1 hb with rfl | hb
   ·obtain ⟨a,b,c⟩:=h
    omega
   ·exact nrmB_byte n (h.next hs) b hb
  ·cases hb
theorem nrm_rg:∀ (n:Nat) {lo hi:Int},Rg lo hi→Rg (nrm n lo hi).2.1 (nrm n lo hi).2.2
 | 0,_,_,h=>h
 | n + 1,lo,hi,h=>by
  unfold nrm
  split
  ·rename_i hs
   exact nrm_rg n (h.next hs)
  ·exact h
theorem nrm_same {n:Nat} {lo hi:Int} (h:same lo hi):(nrm (n + 1) lo hi).2 = (nrm n (nl lo) (nh hi)).2:=by
 rw [nrm,if_pos h]
theorem nrm_diff {n:Nat} {lo hi:Int} (h:¬ same lo hi):(nrm (n + 1) lo hi).2 = (lo,hi):=by
 rw [nrm,if_neg h]
theorem ends4 {lo hi:Int} (h:Rg lo hi) (h1:lo = 0) (h2:hi = 4294967295) {n:Nat}:¬ same (nrm (n + 1) lo hi).2.1 (nrm (n + 1) lo hi).2.2:=by
 have hs:¬ same lo hi:=by unfold same; omega
 rw [nrm_diff hs]
 exact hs
theorem ends3 {lo hi:Int} (h:Rg lo hi) (h1:lo % 16777216 = 0) (h2:hi % 16777216 = 16777215):¬ same (nrm 2 lo hi).2.1 (nrm 2 lo hi).2.2:=by
 by_cases hs:same lo hi
 ·rw [nrm_same hs]
  exact ends4 (h.next hs) (by unfold nl; omega) (by unfold nh; omega)
 ·rw [nrm_diff hs]
  exact hs
theorem ends2 {lo hi:Int} (h:Rg lo hi) (h1:lo % 65536 = 0) (h2:hi % 65536 = 65535):¬ same (nrm 3 lo hi).2.1 (nrm 3 lo hi).2.2:=by
 by_cases hs:same lo hi
 ·rw [nrm_same hs]
  exact ends3 (h.next hs) (by unfold nl; omega) (by unfold nh; omega)
 ·rw [nrm_diff hs]
  exact hs
theorem ends1 {lo hi:Int} (h:Rg lo hi) (h1:lo % 256 = 0) (h2:hi % 256 = 255):¬ same (nrm 4 lo hi).2.1 (nrm 4 lo hi).2.2:=by
 by_cases hs:same lo hi
 ·rw [nrm_same hs]
  exact ends2 (h.next hs) (by unfold nl; omega) (by unfold nh; omega)
 ·rw [nrm_diff hs]
  exact hs
theorem nrm_ends {lo hi:Int} (h:Rg lo hi):¬ same (nrm 5 lo hi).2.1 (nrm 5 lo hi).2.2:=by
 by_cases hs:same lo hi
 ·rw [nrm_same hs]
  exact ends1 (h.next hs) (by unfold nl; omega) (by unfold nh; omega)
 ·rw [nrm_diff hs]
  exact hs
theorem lt_of {lo hi:Int} (h:Rg lo hi) (hs:¬ same lo hi):lo < hi:=by
 obtain ⟨a,b,c⟩:=h
 unfold same at hs
 omega
def Byt (S:Nat→Int):Prop:=∀ n,0≤S n∧S n≤255
def win (S:Nat→Int) (n:Nat):Int:=S n * 16777216 + S (n + 1) * 65536 + S (n + 2) * 256 + S (n + 3)
theorem win_next {S:Nat→Int} (h:Byt S) (n:Nat):win S (n + 1) = win S n % 16777216 * 256 + S (n + 4):=by
 have a:=h n; have b:=h (n + 1); have c:=h (n + 2); have d:=h (n + 3); have e:=h (n + 4)
 have e0:win S n = S n * 16777216 + S (n + 1) * 65536 + S (n + 2) * 256 + S (n + 3):=rfl
 have e1:win S (n + 1) = S (n + 1) * 16777216 + S (n + 2) * 65536 + S (n + 3) * 256 + S (n + 4):=rfl
 omega
theorem win_rg {S:Nat→Int} (h:Byt S) (n:Nat):0≤win S n∧win S n < 4294967296:=by
 have a:=h n; have b:=h (n + 1); have c:=h (n + 2); have d:=h (n + 3)
 have e0:win S n = S n * 16777216 + S (n + 1) * 65536 + S (n + 2) * 256 + S (n + 3):=rfl
 omega
theorem back {S:Nat→Int} (hS:Byt S):∀ (f:Nat) (lo hi:Int) (n:Nat),Rg lo hi→(∀ i,i < (nrm f lo hi).1→S (n + i) = (nrmB f lo hi).getD i 0)→
  (nrm f lo hi).2.1≤win S (n + (nrm f lo hi).1)→win S (n + (nrm f lo hi).1)≤(nrm f lo hi).2.2→lo≤win S n∧win S n≤hi
 | 0,lo,hi,n,_,_,h1,h2=>⟨h1,h2⟩
 | f + 1,lo,hi,n,hr,hb,h1,h2=>by
  by_cases h:same lo hi
  ·have e1:nrm (f + 1) lo hi = ((nrm f (nl lo) (nh hi)).1 + 1,(nrm f (nl lo) (nh hi)).2):=by rw [nrm,if_pos h]
   have e2:nrmB (f + 1) lo hi = lo / 16777216::nrmB f (nl lo) (nh hi):=by rw [nrmB,if_pos h]
   rw [e1] at h1 h2 hb
   rw [e2] at hb
   simp only at h1 h2 hb
   have h0:=hb 0 q0
   simp only [Nat.add_zero,List.getD_cons_zero] at h0
   have ih:=back hS f (nl lo) (nh hi) (n + 1) (hr.next h) (fun i hi'=>by
    have:=hb (i + 1) q0
    rw [List.getD_cons_succ] at this
    rw [← this,show n + 1 + i = n + (i + 1) by omega])
    (by rw [show n + 1 + (nrm f (nl lo) (nh hi)).1 = n + ((nrm f (nl lo) (nh hi)).1 + 1) by omega]; exact h1)
    (by rw [show n + 1 + (nrm f (nl lo) (nh hi)).1 = n + ((nrm f (nl lo) (nh hi)).1 + 1) by omega]; exact h2)
   rw [win_next hS n] at ih
   have a:=hS n; have b:=hS (n + 1); have c:=hS (n + 2); have d:=hS (n + 3); have e:=hS (n + 4)
   have w0:win S n = S n * 16777216 + S (n + 1) * 65536 + S (n + 2) * 256 + S (n + 3):=rfl
   obtain ⟨r1,r2,r3⟩:=hr
   unfold same at h
   unfold nl nh at ih
   generalize win S n = w at *
   omega
  ·have e1:nrm (f + 1) lo hi = (0,lo,hi):=by rw [nrm,if_neg h]
   rw [e1] at h1 h2
   exact ⟨h1,h2⟩
open Go Ev
def q:Nat→Int
 | 0=>2048
 | k + 1=>q k - q k / 8
theorem q_rg:∀ k:Fin 32,1≤q k.val∧q k.val≤2048:=by decide
def pr (kd s:Int):Int:=
 if kd = 1 then min (max ((2 * (s % 256) + 1) * 4096 / (2 * (s / 256) + 2 * (s % 256) + 2)) 1) 4095
 else if 32≤s then 4096 - q (s - 32).toNat else q s.toNat
def most (kd:Int):Int:=if kd = 1 then 65536 else 64
def vst (kd s:Int):Prop:=0≤s∧s < most kd
theorem pr_rg {kd s:Int} (hk:kd = 0∨kd = 1) (h:vst kd s):1≤pr kd s∧pr kd s≤4095:=by
 unfold vst most at h
 unfold pr
 by_cases h1:kd = 1
 ·rw [if_pos h1]
  omega
 ·rw [if_neg h1] at h ⊢
  split
  ·have:=q_rg ⟨(s - 32).toNat,by omega⟩
   simp only at this
   omega
  ·have:=q_rg ⟨s.toNat,by omega⟩
   simp only at this
   omega
def nx (kd s bit:Int):Int:=
 if kd = 1 then
  (if bit = 0 then (if s / 256 = 255 then 256 * 128 + s % 256 / 2 else 256 * (s / 256 + 1) + s % 256)
  else (if s % 256 = 255 then 256 * (s / 256 / 2) + 128 else 256 * (s / 256) + (s % 256 + 1)))
 else if bit = s / 32 then 32 * (s / 32) + min (s % 32 + 1) 31
 else if s % 32 = 0 then 32 * bit
 else 32 * (s / 32) + (s % 32 - (1 + s % 32 / 4))
theorem nx_rg {kd s bit:Int} (hk:kd = 0∨kd = 1) (h:vst kd s) (hb:bit = 0∨bit = 1):vst kd (nx kd s bit):=by
 unfold vst most at *
 unfold nx
 by_cases h1:kd = 1
 ·rw [if_pos h1] at h ⊢
  rw [if_pos h1]
  split <;> split <;> omega
 ·rw [if_neg h1] at h ⊢
  rw [if_neg h1]
  split
  ·omega
  ·split <;> omega
structure Iv where
 st:List Int
 lo:Int
 hi:Int
structure Iv.Ok (kd:Int) (x:Iv):Prop where
 k:kd = 0∨kd = 1
 r:Rg x.lo x.hi
 d:¬ same x.lo x.hi
 s:∀ s ∈ x.st,vst kd s
def Iv.mid (kd:Int) (x:Iv) (c:Int):Int:=Co.mid x.lo x.hi (pr kd (x.st.getD c.toNat 0))
def Iv.clo (kd:Int) (x:Iv) (c b:Int):Int:=if b = 1 then x.lo else x.mid kd c + 1
def Iv.chi (kd:Int) (x:Iv) (c b:Int):Int:=if b = 1 then x.mid kd c else x.hi
def Iv.many (kd:Int) (x:Iv) (c b:Int):Nat:=(nrm 5 (x.clo kd c b) (x.chi kd c b)).1
def Iv.bytes (kd:Int) (x:Iv) (c b:Int):List Int:=nrmB 5 (x.clo kd c b) (x.chi kd c b)
def Iv.next (kd:Int) (x:Iv) (c b:Int):Iv:=
 ⟨x.st.set c.toNat (nx kd (x.st.getD c.toNat 0) b),(nrm 5 (x.clo kd c b) (x.chi kd c b)).2.1,(nrm 5 (x.clo kd c b) (x.chi kd c b)).2.2⟩
theorem Iv.bytes_len (kd:Int) (x:Iv) (c b:Int):(x.bytes kd c b).length = x.many kd c b:=nrmB_len _ _ _
theorem Iv.next_len (kd:Int) (x:Iv) (c b:Int):(x.next kd c b).st.length = x.st.length:=by simp [Iv.next]
theorem Iv.Ok.get {kd:Int} {x:Iv} (h:x.Ok kd) {c:Int} (h0:0≤c) (h1:c < x.st.length):vst kd (x.st.getD c.toNat 0):=h.s _ (getD_mem q0 0)
theorem Iv.Ok.mid_in {kd:Int} {x:Iv} (h:x.Ok kd) {c:Int} (h0:0≤c) (h1:c < x.st.length):x.lo≤x.mid kd c∧x.mid kd c < x.hi:=by
 obtain ⟨a,b⟩:=pr_rg h.k (h.get h0 h1)
 exact Co.mid_in (lt_of h.r h.d) a b
theorem Iv.Ok.cut {kd:Int} {x:Iv} (h:x.Ok kd) {c b:Int} (h0:0≤c) (h1:c < x.st.length):Rg (x.clo kd c b) (x.chi kd c b):=by
 have hm:=h.mid_in h0 h1
 obtain ⟨a,b,c⟩:=h.r
 unfold Iv.clo Iv.chi
 split <;> constructor <;> omega
theorem Iv.Ok.next {kd:Int} {x:Iv} (h:x.Ok kd) {c b:Int} (h0:0≤c) (h1:c < x.st.length) (hb:b = 0∨b = 1):(x.next kd c b).Ok kd:=by
 refine ⟨h.k,nrm_rg 5 (h.cut h0 h1),nrm_ends (h.cut h0 h1),fun s hs=> ?_⟩
 rcases List.mem_or_eq_of_mem_set hs with hs | rfl
 ·exact h.s s hs
 ·exact nx_rg h.k (h.get h0 h1) hb
def run (kd:Int):Iv→List Int→List (Int×Int)→Iv×List Int
 | x,out,[]=>(x,out)
 | x,out,(c,b)::r=>run kd (x.next kd c b) (out++x.bytes kd c b) r
def Evs (n:Nat) (l:List (Int×Int)):Prop:=∀ e ∈ l,0≤e.1∧e.1 < (n:Int)∧(e.2 = 0∨e.2 = 1)
theorem run_append (kd:Int):∀ (a b:List (Int×Int)) (x:Iv) (out:List Int),run kd x out (a++b) = run kd (run kd x out a).1 (run kd x out a).2 b
 | [],b,x,out=>rfl
 | (c,t)::a,b,x,out=>run_append kd a b _ _
theorem run_pre (kd:Int):∀ (l:List (Int×Int)) (x:Iv) (out:List Int),∃ more,(run kd x out l).2 = out++more
 | [],x,out=>⟨[],by simp [run]⟩
 | (c,b)::r,x,out=>by
  obtain ⟨m,e⟩:=run_pre kd r (x.next kd c b) (out++x.bytes kd c b)
  exact ⟨x.bytes kd c b++m,by rw [run,e,List.append_assoc]⟩
theorem run_ok {kd:Int}:∀ (l:List (Int×Int)) {x:Iv} {out:List Int},x.Ok kd→Evs x.st.length l→(run kd x out l).1.Ok kd∧(run kd x out l).1.st.length = x.st.length
 | [],x,out,h,_=>⟨h,rfl⟩
 | (c,b)::r,x,out,h,he=>by
  obtain ⟨h0,h1,hb⟩:=he (c,b) (by simp)
  have h2:=run_ok r (out:=out++x.bytes kd c b) (h.next h0 h1 hb) (by rw [Iv.next_len]; exact fun e he'=>he e (by simp [he']))
  rw [Iv.next_len] at h2
  exact h2
theorem run_byte {kd:Int}:∀ (l:List (Int×Int)) {x:Iv} {out:List Int},x.Ok kd→Evs x.st.length l→(∀ v ∈ out,0≤v∧v≤255)→∀ v ∈ (run kd x out l).2,0≤v∧v≤255
 | [],x,out,h,_,ho=>ho
 | (c,b)::r,x,out,h,he,ho=>by
  obtain ⟨h0,h1,hb⟩:=he (c,b) (by simp)
  refine run_byte r (h.next h0 h1 hb) (by rw [Iv.next_len]; exact fun e he'=>he e (by simp [he'])) fun v hv=> ?_
  rcases List.mem_append.1 hv with hv | hv
  ·exact ho v hv
  ·exact nrmB_byte 5 (h.cut h0 h1) v hv
theorem run_len_le {kd:Int}:∀ (l:List (Int×Int)) {x:Iv} {out:List Int},(run kd x out l).2.length≤out.length + 5 * l.length
 | [],x,out=>by simp [run]
 | (c,b)::r,x,out=>by
  have h:=run_len_le r (kd:=kd) (x:=x.next kd c b) (out:=out++x.bytes kd c b)
  have hb:=x.bytes_len kd c b
  have hm:x.many kd c b≤5:=nrm_le _ _ _
  rw [run]
  rw [List.length_append] at h
  simp only [List.length_cons]
  omega
def Begins (S:Nat→Int) (out:List Int):Prop:=∀ i,i < out.length→S i = out.getD i 0
def Con (S:Nat→Int) (x:Iv) (n:Nat):Prop:=x.lo≤win S n∧win S n≤x.hi
def bitOf (kd:Int) (S:Nat→Int) (x:Iv) (n:Nat) (c:Int):Int:=if win S n≤x.mid kd c then 1 else 0
theorem con_back {kd:Int} {S:Nat→Int} (hS:Byt S) {x:Iv} (h:x.Ok kd) {c b:Int} (h0:0≤c) (h1:c < x.st.length) (hb:b = 0∨b = 1) {out:List Int}
  (hp:Begins S (out++x.bytes kd c b)) (hc:Con S (x.next kd c b) (out.length + x.many kd c b)):Con S x out.length∧bitOf kd S x out.length c = b:=by
 have hk:=back hS 5 (x.clo kd c b) (x.chi kd c b) out.length (h.cut h0 h1) (fun i hi=>by
  have hl:(nrmB 5 (x.clo kd c b) (x.chi kd c b)).length = (nrm 5 (x.clo kd c b) (x.chi kd c b)).1:=nrmB_len _ _ _
  have:=hp (out.length + i) (by rw [List.length_append,Iv.bytes_len]; unfold Iv.many; omega)
  rw [this,List.getD_eq_getElem?_getD,List.getElem?_append_right q0,List.getD_eq_getElem?_getD,Nat.add_sub_cancel_left]
  rfl) hc.1 hc.2
 have hm:=h.mid_in h0 h1
 obtain ⟨r1,r2,r3⟩:=h.r
 unfold Con bitOf
 unfold Iv.clo Iv.chi at hk
 rcases hb with rfl | rfl
 ·rw [if_neg (by decide),if_neg (by decide)] at hk
  exact ⟨by omega,by rw [if_neg q0]⟩
 ·rw [if_pos rfl,if_pos rfl] at hk
  exact ⟨by omega,by rw [if_pos q0]⟩
theorem con_run {kd:Int} {S:Nat→Int} (hS:Byt S):∀ (l:List (Int×Int)) {x:Iv} {out:List Int},x.Ok kd→Evs x.st.length l→Begins S (run kd x out l).2→Con S (run kd x out l).1 (run kd x out l).2.length→Con S x out.length
 | [],x,out,_,_,_,hc=>hc
 | (c,b)::r,x,out,h,he,hp,hc=>by
  obtain ⟨h0,h1,hb⟩:=he (c,b) (by simp)
  have ih:=con_run hS r (h.next h0 h1 hb) (out:=out++x.bytes kd c b) (by rw [Iv.next_len]; exact fun e he'=>he e (by simp [he'])) hp hc
  rw [List.length_append,Iv.bytes_len] at ih
  obtain ⟨m,e⟩:=run_pre kd r (x.next kd c b) (out++x.bytes kd c b)
  refine (con_back hS h h0 h1 hb (fun i hi=> ?_) ih).1
  have hi:i < (out++x.bytes kd c b).length:=hi
  have:=hp i (by rw [run,e,List.length_append]; omega)
  rw [this,run,e,List.getD_eq_getElem?_getD,List.getElem?_append_left hi,List.getD_eq_getElem?_getD]
theorem got {kd:Int} {S:Nat→Int} (hS:Byt S) {l:List (Int×Int)} {c b:Int} {r:List (Int×Int)} {x:Iv} (h:x.Ok kd) (he:Evs x.st.length (l++(c,b)::r))
  (hp:Begins S (run kd x [] (l++(c,b)::r)).2) (hc:Con S (run kd x [] (l++(c,b)::r)).1 (run kd x [] (l++(c,b)::r)).2.length):
  bitOf kd S (run kd x [] l).1 (run kd x [] l).2.length c = b∧(run kd x [] l).2.length + (run kd x [] l).1.many kd c b≤(run kd x [] (l++(c,b)::r)).2.length:=by
 have hl:=run_ok l (out:=[]) h fun e he'=>he e (by simp [he'])
 obtain ⟨h0,h1,hb⟩:=he (c,b) (by simp)
 rw [run_append] at hp hc ⊢
 generalize run kd x [] l = y at *
 obtain ⟨y,out⟩:=y
 obtain ⟨hy,hlen⟩:=hl
 simp only at hy hlen hp hc ⊢
 rw [← hlen] at h1
 have he2:Evs (y.next kd c b).st.length r:=by rw [Iv.next_len,hlen]; exact fun e he'=>he e (by simp [he'])
 have ih:=con_run hS r (hy.next h0 h1 hb) (out:=out++y.bytes kd c b) he2 hp hc
 rw [List.length_append,Iv.bytes_len] at ih
 obtain ⟨m,e⟩:=run_pre kd r (y.next kd c b) (out++y.bytes kd c b)
 refine ⟨(con_back hS hy h0 h1 hb (fun i hi=> ?_) ih).2, ?_⟩
 ·have hi:i < (out++y.bytes kd c b).length:=hi
  have:=hp i (by rw [run,e,List.length_append]; omega)
  rw [this,run,e,List.getD_eq_getElem?_getD,List.getElem?_append_left hi,List.getD_eq_getElem?_getD]
 ·rw [run,e,List.length_append,List.length_append,Iv.bytes_len]
  omega
def endB (lo hi:Int):List Int:=
 if lo≤0 then [] else if lo≤hi / 16777216 * 16777216 then [hi / 16777216] else if lo≤hi / 65536 * 65536 then [hi / 16777216,hi / 65536 % 256]
 else if lo≤hi / 256 * 256 then [hi / 16777216,hi / 65536 % 256,hi / 256 % 256] else [hi / 16777216,hi / 65536 % 256,hi / 256 % 256,hi % 256]
theorem endB_byte {lo hi:Int} (h:Rg lo hi):∀ v ∈ endB lo hi,0≤v∧v≤255:=by
 obtain ⟨a,b,c⟩:=h
 intro v hv
 unfold endB at hv
 repeat' split at hv
 all_goals simp only [List.mem_cons,List.not_mem_nil,or_false] at hv
 all_goals omega
def strm (code:List Int) (n:Nat):Int:=code.getD n 0
theorem strm_byt {code:List Int} (h:∀ v ∈ code,0≤v∧v≤255):Byt (strm code):=by
 intro n
 unfold strm
 by_cases hn:n < code.length
 ·exact h _ (getD_mem hn 0)
 ·rw [List.getD_eq_getElem?_getD,List.getElem?_eq_none q0]
  simp
theorem strm_app {a b:List Int} {i:Nat}:strm (a++b) (a.length + i) = strm b i:=by
 unfold strm
 rw [List.getD_eq_getElem?_getD,List.getElem?_append_right q0,Nat.add_sub_cancel_left,List.getD_eq_getElem?_getD]
theorem strm_zeros (b:List Int) (n i:Nat):strm (b++List.replicate n 0) i = strm b i:=by
 unfold strm
 rw [List.getD_eq_getElem?_getD,List.getD_eq_getElem?_getD,List.getElem?_append]
 split
 ·rfl
 ·rw [List.getElem?_eq_none (l:=b) q0,List.getElem?_replicate]
  split <;> rfl
theorem con_end {x:Iv} (h:Rg x.lo x.hi) (out:List Int) (n:Nat):Con (strm ((out++endB x.lo x.hi)++List.replicate n 0)) x out.length:=by
 have hw:win (strm ((out++endB x.lo x.hi)++List.replicate n 0)) out.length = win (strm (endB x.lo x.hi)) 0:=by
  unfold win
  simp only [strm_zeros]
  rw [strm_app (i:=1),strm_app (i:=2),strm_app (i:=3),show out.length = out.length + 0 from rfl,strm_app (i:=0)]
 unfold Con
 rw [hw]
 obtain ⟨a,b,c⟩:=h
 unfold win strm endB
 split
 ·simp; omega
 ·split
  ·simp; omega
  ·split
   ·simp; omega
   ·split
    ·simp; omega
    ·simp; omega
theorem begins_end {out more:List Int}:Begins (strm (out++more)) out:=fun i hi=>by
 unfold strm
 rw [List.getD_eq_getElem?_getD,List.getElem?_append_left hi,List.getD_eq_getElem?_getD]
def get (kd:Int) (code:List Int) (x:Iv) (k:Nat) (c:Int):Option (Int×Iv×Nat):=
 if code.length < k + x.many kd c (bitOf kd (strm code) x k c) then none
 else some (bitOf kd (strm code) x k c,x.next kd c (bitOf kd (strm code) x k c),k + x.many kd c (bitOf kd (strm code) x k c))
theorem bitOf_01 (kd:Int) (S:Nat→Int) (x:Iv) (n:Nat) (c:Int):bitOf kd S x n c = 0∨bitOf kd S x n c = 1:=by
 unfold bitOf
 split
 ·exact .inr rfl
 ·exact .inl rfl
theorem get_put {kd:Int} {x:Iv} (h:x.Ok kd) {l:List (Int×Int)} {c b:Int} {r:List (Int×Int)} (he:Evs x.st.length (l++(c,b)::r)) {n:Nat}:
  get kd (((run kd x [] (l++(c,b)::r)).2++endB (run kd x [] (l++(c,b)::r)).1.lo (run kd x [] (l++(c,b)::r)).1.hi)++List.replicate n 0) (run kd x [] l).1 (run kd x [] l).2.length c
  = some (b,(run kd x [] (l++ [(c,b)])).1,(run kd x [] (l++ [(c,b)])).2.length):=by
 have hok:=run_ok (l++(c,b)::r) (out:=[]) h he
 have hby:=run_byte (l++(c,b)::r) (out:=[]) h he (fun v hv=>by cases hv)
 have hS:Byt (strm (((run kd x [] (l++(c,b)::r)).2++endB (run kd x [] (l++(c,b)::r)).1.lo (run kd x [] (l++(c,b)::r)).1.hi)++List.replicate n 0)):=by
  refine strm_byt fun v hv=> ?_
  rcases List.mem_append.1 hv with hv | hv
  ·rcases List.mem_append.1 hv with hv | hv
   ·exact hby v hv
   ·exact endB_byte hok.1.r v hv
  ·have:=(List.mem_replicate.1 hv).2
   omega
 obtain ⟨g1,g2⟩:=got hS h he (by rw [List.append_assoc]; exact begins_end) (con_end hok.1.r _ n)
 unfold get
 rw [g1,if_neg (by simp only [List.length_append]; omega),run_append]
 congr 2
 simp only [run,List.length_append,Iv.bytes_len]
open Go Ev
theorem wrapU {x:Int} (h1:0≤x) (h2:x < 18446744073709551616):IntKind.u64.wrap x = x:=by
 simp [IntKind.wrap,IntKind.min,IntKind.max,IntKind.signed,IntKind.bits]
 omega
theorem shrU {x:Int} (h:0≤x):ishr .u64 x 24 = x / 16777216:=by
 unfold ishr
 have hb:min (24:Int).toNat IntKind.u64.bits = 24:=by decide
 rw [hb,Int.fdiv_eq_ediv_of_nonneg _ (by decide)]
 rfl
theorem nlU {x:Int} (h1:0≤x) (h2:x < 4294967296):iand .u64 (ishl .u64 x 8) 4294967295 = nl x:=by
 unfold ishl
 have hb:min (8:Int).toNat IntKind.u64.bits = 8:=by decide
 have e:x * 2 ^ 8 = x * 256:=rfl
 rw [hb,e,wrapU q0 q0]
 unfold iand nl
 have e1:IntKind.u64.bits = 64:=rfl
 rw [e1,BitVec.toNat_and,ofInt_toNat q0 q0,ofInt_toNat q0 q0]
 have h3:(x * 256).toNat&&& (4294967295:Int).toNat = (x * 256).toNat % 2 ^ 32:=Nat.and_two_pow_sub_one_eq_mod _ 32
 rw [h3,wrapU q0 q0]
 omega
theorem nhU {x:Int} (h1:0≤x) (h2:x < 4294967296):ior .u64 (iand .u64 (ishl .u64 x 8) 4294967295) 255 = nh x:=by
 rw [nlU h1 h2]
 unfold ior nh nl
 have e1:IntKind.u64.bits = 64:=rfl
 rw [e1,BitVec.toNat_or,ofInt_toNat q0 q0,ofInt_toNat q0 q0]
 have h3:(x % 16777216 * 256).toNat = (x % 16777216).toNat <<< 8:=by rw [Nat.shiftLeft_eq]; omega
 have h4:(255:Int).toNat = 255:=rfl
 rw [h3,h4, ← Nat.shiftLeft_add_eq_or_of_lt (by decide),Nat.shiftLeft_eq,wrapU q0 q0]
 omega
theorem byteU {x:Int} (h1:0≤x) (h2:x < 4294967296):IntKind.u8.wrap (ishr .u64 x 24) = x / 16777216:=by
 rw [shrU h1]
 exact wrap8 q0 (by omega)
theorem chance0 {fl:Nat}:∀ (n:Fin 64) (K:Int→OA),cv fl 0 (n.val:Int) K = K (pr 0 (n.val:Int))
 | ⟨0,_⟩,K=>rfl
 | ⟨1,_⟩,K=>rfl
 | ⟨2,_⟩,K=>rfl
 | ⟨3,_⟩,K=>rfl
 | ⟨4,_⟩,K=>rfl
 | ⟨5,_⟩,K=>rfl
 | ⟨6,_⟩,K=>rfl
 | ⟨7,_⟩,K=>rfl
 | ⟨8,_⟩,K=>rfl
 | ⟨9,_⟩,K=>rfl
 | ⟨10,_⟩,K=>rfl
 | ⟨11,_⟩,K=>rfl
 | ⟨12,_⟩,K=>rfl
 | ⟨13,_⟩,K=>rfl
 | ⟨14,_⟩,K=>rfl
 | ⟨15,_⟩,K=>rfl
 | ⟨16,_⟩,K=>rfl
 | ⟨17,_⟩,K=>rfl
 | ⟨18,_⟩,K=>rfl
 | ⟨19,_⟩,K=>rfl
 | ⟨20,_⟩,K=>rfl
 | ⟨21,_⟩,K=>rfl
 | ⟨22,_⟩,K=>rfl
 | ⟨23,_⟩,K=>rfl
 | ⟨24,_⟩,K=>rfl
 | ⟨25,_⟩,K=>rfl
 | ⟨26,_⟩,K=>rfl
 | ⟨27,_⟩,K=>rfl
 | ⟨28,_⟩,K=>rfl
 | ⟨29,_⟩,K=>rfl
 | ⟨30,_⟩,K=>rfl
 | ⟨31,_⟩,K=>rfl
 | ⟨32,_⟩,K=>rfl
 | ⟨33,_⟩,K=>rfl
 | ⟨34,_⟩,K=>rfl
 | ⟨35,_⟩,K=>rfl
 | ⟨36,_⟩,K=>rfl
 | ⟨37,_⟩,K=>rfl
 | ⟨38,_⟩,K=>rfl
 | ⟨39,_⟩,K=>rfl
 | ⟨40,_⟩,K=>rfl
 | ⟨41,_⟩,K=>rfl
 | ⟨42,_⟩,K=>rfl
 | ⟨43,_⟩,K=>rfl
 | ⟨44,_⟩,K=>rfl
 | ⟨45,_⟩,K=>rfl
 | ⟨46,_⟩,K=>rfl
 | ⟨47,_⟩,K=>rfl
 | ⟨48,_⟩,K=>rfl
 | ⟨49,_⟩,K=>rfl
 | ⟨50,_⟩,K=>rfl
 | ⟨51,_⟩,K=>rfl
 | ⟨52,_⟩,K=>rfl
 | ⟨53,_⟩,K=>rfl
 | ⟨54,_⟩,K=>rfl
 | ⟨55,_⟩,K=>rfl
 | ⟨56,_⟩,K=>rfl
 | ⟨57,_⟩,K=>rfl
 | ⟨58,_⟩,K=>rfl
 | ⟨59,_⟩,K=>rfl
 | ⟨60,_⟩,K=>rfl
 | ⟨61,_⟩,K=>rfl
 | ⟨62,_⟩,K=>rfl
 | ⟨63,_⟩,K=>rfl
 | ⟨n + 64,h⟩,_=>absurd h (by omega)
theorem tdiv_e {x k:Int} (h:0≤x):x.tdiv k = x / k:=Int.tdiv_eq_ediv_of_nonneg h
theorem tmod_e {x k:Int} (h:0≤x):x.tmod k = x % k:=Int.tmod_eq_emod_of_nonneg h
theorem chance {fl:Nat} {kd s:Int} (hk:kd = 0∨kd = 1) (h:vst kd s) {K:Int→OA}:cv fl kd s K = K (pr kd s):=by
 rcases hk with rfl | rfl
 ·obtain ⟨h0,h1⟩:=h
  have h1:s < 64:=h1
  have:=chance0 (fl:=fl) ⟨s.toNat,by omega⟩ K
  simp only at this
  rwa [show ((s.toNat:Nat):Int) = s by omega] at this
 ·obtain ⟨h0,h1⟩:=h
  have h1:s < 65536:=h1
  unfold cv pr
  rw [cond_t (b:=(1:Int)==1) rfl,if_pos rfl,tdiv_e h0,tmod_e h0]
  have a0:0≤s / 256:=by omega
  have a1:s / 256≤255:=by omega
  have b0:0≤s % 256:=by omega
  have b1:s % 256≤255:=by omega
  generalize s / 256 = a at *
  generalize s % 256 = b at *
  rw [w6 (x:=a),w6 (x:=2 * a),w6 (x:=2 * b),w6 (x:=2 * a + 2 * b),w6 (x:=2 * a + 2 * b + 2),
   w6 (x:=2 * b + 1),w6 (x:=(2 * b + 1) * 4096),tdiv_e (by omega)]
  have q0:0≤(2 * b + 1) * 4096 / (2 * a + 2 * b + 2):=Int.ediv_nonneg (by omega) (by omega)
  have q1:(2 * b + 1) * 4096 / (2 * a + 2 * b + 2)≤(2 * b + 1) * 4096:=Int.ediv_le_self _ (by omega)
  rw [dec_f (by omega),wrap64 (by omega) (by omega)]
  generalize (2 * b + 1) * 4096 / (2 * a + 2 * b + 2) = z at *
  congr 1
  by_cases c1:1 > z
  ·rw [dec_t c1,dec_f (by omega),Int.max_eq_right (by omega),Int.min_eq_left (by omega)]
  ·rw [dec_f c1,Int.max_eq_left (by omega)]
   by_cases c2:4095 < z
   ·rw [dec_t c2,Int.min_eq_right (by omega)]
   ·rw [dec_f c2,Int.min_eq_left (by omega)]
theorem next {fl:Nat} {kd s b:Int} (hk:kd = 0∨kd = 1) (h:vst kd s) (hb:b = 0∨b = 1) {K:Int→OA}:cD fl kd s b K = K (nx kd s b):=by
 obtain ⟨h0,h1⟩:=h
 unfold cD nx
 rw [tdiv_e h0,tdiv_e h0,tmod_e h0,tmod_e h0]
 rcases hk with rfl | rfl
 ·have h1:s < 64:=h1
  rw [cond_f (b:=(0:Int)==1) rfl,if_neg (by decide)]
  have a0:0≤s / 32:=by omega
  have a1:s / 32≤1:=by omega
  have b0:0≤s % 32:=by omega
  have b1:s % 32≤31:=by omega
  generalize s / 32 = m at *
  generalize s % 32 = k at *
  have t4:k.tdiv 4 = k / 4:=tdiv_e b0
  rw [w6 (x:=m),t4,w6 (x:=k + 1),w6 (x:=32 * m)]
  rw [Bm.cb,Bm.cb]
  by_cases c1:b = m
  ·rw [if_pos c1,if_pos c1]
   by_cases c2:31 < k + 1
   ·rw [dec_t c2,wrap64 q0 q0,Int.min_eq_right q0]
   ·rw [dec_f c2,wrap64 q0 q0,Int.min_eq_left q0]
  ·rw [if_neg c1,if_neg c1]
   by_cases c2:k = 0
   ·rw [if_pos c2,if_pos c2,w6 (x:=32 * b),wrap64 q0 q0,c2,Int.add_zero]
   ·rw [if_neg c2,if_neg c2,w6 (x:=k / 4),w6 (x:=1 + k / 4),w6 (x:=k - (1 + k / 4)),wrap64 q0 q0]
 ·have h1:s < 65536:=h1
  rw [cond_t (b:=(1:Int)==1) rfl,if_pos rfl]
  have a0:0≤s / 256:=by omega
  have a1:s / 256≤255:=by omega
  have b0:0≤s % 256:=by omega
  have b1:s % 256≤255:=by omega
  generalize s / 256 = m at *
  generalize s % 256 = k at *
  have t2:k.tdiv 2 = k / 2:=tdiv_e b0
  have t3:m.tdiv 2 = m / 2:=tdiv_e a0
  have w1:IntKind.i64.wrap m = m:=wrap64 q0 q0
  have w2:IntKind.i64.wrap (m / 2) = m / 2:=wrap64 q0 q0
  have w3:IntKind.i64.wrap (k / 2) = k / 2:=wrap64 q0 q0
  rw [w1,t2,t3,w2,w3]
  rcases hb with rfl | rfl
  ·rw [dec_t (p:=(0:Int)≤0∧(0:Int) < ((2:Nat):Int)) (by decide),dec_t (p:=(0:Int) = ((0:Nat):Int)) rfl,if_pos rfl,Bm.cb]
   by_cases c1:m = 255
   ·rw [if_pos c1,if_pos c1]
    simp (disch:=decide) only [dec_t]
    rw [w6 (x:=m / 2 + 1),w6 (x:=256 * (m / 2 + 1)),wrap64 q0 q0]
    congr 1
    omega
   ·rw [if_neg c1,if_neg c1]
    simp (disch:=decide) only [dec_t]
    rw [w6 (x:=m + 1),w6 (x:=256 * (m + 1)),wrap64 q0 q0]
  ·rw [dec_t (p:=(0:Int)≤1∧(1:Int) < ((2:Nat):Int)) (by decide),dec_f (p:=(1:Int) = ((0:Nat):Int)) (by decide),dec_t (p:=(1:Int) = ((1:Nat):Int)) rfl,if_neg (by decide),Bm.cb]
   by_cases c1:k = 255
   ·rw [if_pos c1,if_pos c1]
    simp (disch:=decide) only [dec_t,dec_f]
    rw [w6 (x:=k / 2 + 1),w6 (x:=256 * (m / 2)),wrap64 q0 q0]
    congr 1
    omega
   ·rw [if_neg c1,if_neg c1]
    simp (disch:=decide) only [dec_t,dec_f]
    rw [w6 (x:=k + 1),w6 (x:=256 * m),wrap64 q0 q0]
open Go Ev
theorem shiftsB {V B:Type} {step:V→(V→OA)→B→OA} {b:B} {r:OA} (N:Nat) (σ:List Int→Int→Int→V)
  (hstep:∀ o lo hi c,Rg lo hi→same lo hi→o.length < N→step (σ o lo hi) c b = c (σ (o++ [lo / 16777216]) (nl lo) (nh hi)))
  :∀ (n:Nat) (o:List Int) (lo hi:Int) (m:Nat),Rg lo hi→¬ same (nrm n lo hi).2.1 (nrm n lo hi).2.2→n < m→o.length + n≤N→(∀ c,step (σ (o++nrmB n lo hi) (nrm n lo hi).2.1 (nrm n lo hi).2.2) c b = r)→iter step m (σ o lo hi) b = r
 | n,o,lo,hi,0,_,_,hm,_,_=>by omega
 | 0,o,lo,hi,m + 1,hr,hs,hm,hN,hn=>by
  have:=hn (fun v=>iter step m v b)
  simp only [nrmB,List.append_nil] at this
  exact this
 | n + 1,o,lo,hi,m + 1,hr,hs,hm,hN,hn=>by
  simp only [iter]
  by_cases h:same lo hi
  ·rw [hstep o lo hi _ hr h q0]
   refine shiftsB N σ hstep n (o++ [lo / 16777216]) (nl lo) (nh hi) m (hr.next h) (by rw [← nrm_same h]; exact hs) q0 (by simp; omega) fun c=> ?_
   have e:=hn c
   rw [nrm,if_pos h,nrmB,if_pos h] at e
   rw [List.append_assoc]
   exact e
  ·have e:=hn (fun v=>iter step m v b)
   rw [nrm,if_neg h,nrmB,if_neg h,List.append_nil] at e
   exact e
theorem mid_ok {fl:Nat} {kd:Int} {x:Iv} (h:x.Ok kd) {c:Int} (h0:0≤c) (h1:c < x.st.length) {real:Bool} {out:List Int} {K:Int×Int×Int×Int×Bool×List Int×List Int→OA}:
  dM fl c kd x.lo x.hi real x.st out K = K (x.mid kd c,kd,x.lo,x.hi,real,x.st,out):=by
 unfold dM wT Iv.mid Co.mid
 rw [dec_t ⟨h0,h1⟩,chance h.k (h.get h0 h1)]
 obtain ⟨p1,p2⟩:=pr_rg h.k (h.get h0 h1)
 obtain ⟨r1,r2,r3⟩:=h.r
 obtain ⟨m1,m2,m3,m4⟩:=mid_parts r2 r1 r3 p1 p2
 generalize pr kd (x.st.getD c.toNat 0) = p at *
 rw [wrapU (x:=x.hi - x.lo) q0 q0,tdiv_e q0,tmod_e q0,wrapU (x:=p) q0 q0,wrapU (x:=(x.hi - x.lo) / 4096) q0 q0,
  wrapU (x:=(x.hi - x.lo) / 4096 * p) q0 q0,wrapU (x:=(x.hi - x.lo) % 4096 * p) q0 q0,tdiv_e m3,wrapU (x:=x.lo + (x.hi - x.lo) / 4096 * p) q0 q0,
  wrapU (x:=(x.hi - x.lo) % 4096 * p / 4096) q0 q0,wrapU q0 q0]
theorem take_ok {fl:Nat} {kd:Int} {x:Iv} (h:x.Ok kd) {c b:Int} (h0:0≤c) (h1:c < x.st.length) (hb:b = 0∨b = 1) {real:Bool} {out:List Int} {K:Int×Int×Int×Bool×List Int×List Int→OA}:
  et fl c b (x.mid kd c) kd x.lo x.hi real x.st out K = K (kd,x.clo kd c b,x.chi kd c b,real,x.st.set c.toNat (nx kd (x.st.getD c.toNat 0) b),out):=by
 have hm:=h.mid_in h0 h1
 obtain ⟨r1,r2,r3⟩:=h.r
 unfold et te Iv.clo Iv.chi
 simp only [next h.k (h.get h0 h1) hb]
 rcases hb with rfl | rfl
 ·rw [cond_f (b:=(0:Int)==1) rfl,dec_t ⟨h0,h1⟩,dec_t ⟨h0,h1⟩,if_neg (by decide),if_neg (by decide),wrapU q0 q0]
 ·rw [cond_t (b:=(1:Int)==1) rfl,dec_t ⟨h0,h1⟩,dec_t ⟨h0,h1⟩,if_pos rfl,if_pos rfl]
theorem put_loop {fl:Nat} (hfl:9223372036854775808≤fl) {kd lo hi:Int} (hr:Rg lo hi) {real:Bool} {st out:List Int} (ho:out.length≤1000000000) {K:Int×Int×Int×Bool×List Int×List Int→OA}:
  mq fl (kd,lo,hi,real,st,out) K = K (kd,(nrm 5 lo hi).2.1,(nrm 5 lo hi).2.2,real,st,out++nrmB 5 lo hi):=by
 unfold mq
 refine shiftsB (step:=io fl) 1000000100 (fun o lo hi=>(kd,lo,hi,real,st,o)) (fun o lo hi c hr hs hl=> ?_) 5 out lo hi fl hr (nrm_ends hr) q0 q0 fun c=> ?_
 ·obtain ⟨r1,r2,r3⟩:=hr
  simp only [io,lZ,di,eo,both_same]
  rw [shrU (x:=lo) r1,shrU (x:=hi) q0,cond_t (b:=lo / 16777216==hi / 16777216) (beq_iff_eq.2 hs),dec_t (by simp; omega),nlU r1 q0,nhU q0 r3, ← shrU (x:=lo) r1,byteU r1 q0,shrU r1]
 ·have hr':=nrm_rg 5 hr
  have hs':=nrm_ends hr
  generalize (nrm 5 lo hi).2.1 = lo' at *
  generalize (nrm 5 lo hi).2.2 = hi' at *
  obtain ⟨r1,r2,r3⟩:=hr'
  simp only [io,lZ,di]
  rw [shrU (x:=lo') r1,shrU (x:=hi') q0,cond_f (b:=lo' / 16777216==hi' / 16777216) (beq_eq_false_iff_ne.2 hs')]
theorem put_ok {fl:Nat} (hfl:9223372036854775808≤fl) {kd:Int} {x:Iv} (h:x.Ok kd) {c b:Int} (h0:0≤c) (h1:c < x.st.length) (hb:b = 0∨b = 1) {out:List Int} (ho:out.length≤1000000000)
  {k0 k1:Int×Int×Int×Int×Bool×List Int×List Int→OA}:
  ab fl c b kd x.lo x.hi true x.st out k0 k1 = k1 (0,kd,(x.next kd c b).lo,(x.next kd c b).hi,true,(x.next kd c b).st,out++x.bytes kd c b):=by
 unfold ab ke aw
 dsimp only
 rw [cond_f (b:=!true) rfl,dec_f q0,dec_f q0]
 simp only [mid_ok h h0 h1,take_ok h h0 h1 hb,put_loop hfl (h.cut (b:=b) h0 h1) ho]
 rcases hb with rfl | rfl
 ·rw [cond_f (b:=(0:Int) != 0) rfl]
  rfl
 ·rw [cond_t (b:=(1:Int) != 0) rfl,cond_f (b:=(1:Int) != 1) rfl]
  rfl
theorem put_bad {fl:Nat} {kd lo hi:Int} {st out:List Int} {k0 k1:Int×Int×Int×Int×Bool×List Int×List Int→OA}:
  ab fl (-1) 0 kd lo hi true st out k0 k1 = k0 (2,kd,lo,hi,true,st,out):=by
 unfold ab ke aw
 dsimp only
 rw [cond_f (b:=!true) rfl,dec_t q0]
theorem clone_ok {fl:Nat} {kd:Int} {st:List Int} (h:st.length≤1000000) {K:Int×List Int→OA}:bW fl kd st K = K (kd,st):=by
 unfold bW
 rw [dec_t q0,List.nil_append]
theorem begin_ok {fl:Nat} {kd:Int} {st:List Int} (h:st.length≤1000000) {K:Int×Int×Int×List Int→OA}:ck fl kd st K = K (kd,0,4294967295,st):=by
 unfold ck rI f8
 rw [clone_ok h]
def vM (kd:Int) (st:List Int):Bool:=decide (kd = 0∨kd = 1)&&decide (st.length≤8192)&&st.all fun s=>decide (0≤s∧s < most kd)
theorem valid_loop {fl:Nat} (hfl:9223372036854775808≤fl) {e:Int} {st:List Int} (hl:st.length≤8192) {ret:Bool→OA} {b:Unit→OA}:
  eA fl (e,st,(st.length:Int),0) ret b = if st.all (fun s=>decide (0≤s∧s < e)) = true then b () else ret false:=by
 unfold eA
 rcases all_or_first (fun s=>decide (0≤s∧s < e)) 0 st with ha | ⟨n,hn,hb,hi⟩
 ·rw [if_pos ha]
  refine iter_to (step:=bM fl) (fun i:Nat=>(e,st,(st.length:Int),(i:Int))) st.length (fun i hi c=> ?_) (fun c=> ?_) q0
  ·have g:=all_getD ha 0 hi
   simp only [decide_eq_true_eq] at g
   simp only [bM]
   rw [dec_t q0,dec_t q0,Int.toNat_natCast,dec_f q0,dec_f q0,wrap64 q0 q0]
   rfl
  ·simp only [bM]
   rw [dec_f q0]
 ·rw [if_neg (by rw [not_all hn hb]; simp)]
  refine iter_to (step:=bM fl) (fun i:Nat=>(e,st,(st.length:Int),(i:Int))) n (fun i hin c=> ?_) (fun c=> ?_) q0
  ·have g:=hi i hin
   simp only [decide_eq_true_eq] at g
   simp only [bM]
   rw [dec_t q0,dec_t q0,Int.toNat_natCast,dec_f q0,dec_f q0,wrap64 q0 q0]
   rfl
  ·simp only [decide_eq_false_iff_not] at hb
   simp only [bM]
   rw [dec_t q0,dec_t q0,Int.toNat_natCast]
   by_cases h0:st.getD n 0 < 0
   ·rw [dec_t h0]
   ·rw [dec_f h0,dec_t q0]
theorem cvalid {fl:Nat} (hfl:9223372036854775808≤fl) {kd:Int} {st:List Int} {K:Bool→OA}:aT fl kd st K = K (vM kd st):=by
 unfold aT vM
 by_cases hk:kd = 0∨kd = 1
 ·by_cases hl:st.length≤8192
  ·rcases hk with rfl | rfl
   ·rw [cond_f (b:=(0:Int) != 0) rfl,dec_f q0,cond_f (b:=(0:Int)==1) rfl,valid_loop hfl hl,decide_eq_true hl]
    show (if (st.all fun s=>decide (0≤s∧s < 64)) = true then K true else K false) = K (true&&true&&st.all fun s=>decide (0≤s∧s < 64))
    cases st.all _ <;> rfl
   ·rw [cond_t (b:=(1:Int) != 0) rfl,cond_f (b:=(1:Int) != 1) rfl,dec_f q0,cond_t (b:=(1:Int)==1) rfl,valid_loop hfl hl,decide_eq_true hl]
    show (if (st.all fun s=>decide (0≤s∧s < 65536)) = true then K true else K false) = K (true&&true&&st.all fun s=>decide (0≤s∧s < 65536))
    cases st.all _ <;> rfl
  ·simp (disch:=omega) only [dec_t]
   rw [decide_eq_false hl,Bool.and_false,Bool.false_and]
   cases kd != 0 <;> cases kd != 1 <;> rfl
 ·have h0:(kd != 0) = true:=by simp; omega
  have h1:(kd != 1) = true:=by simp; omega
  rw [h0,h1,decide_eq_false hk]
  rfl
theorem new_enc {fl:Nat} (hfl:9223372036854775808≤fl) {kd:Int} {st:List Int} (hv:vM kd st = true) {k0:Int→OA} {k1:Int×Int×Int×Int×Bool×List Int×List Int→OA}:
  gU fl kd st k0 k1 = k1 (0,kd,0,4294967295,true,st,[]):=by
 have hl:st.length≤8192:=by
  unfold vM at hv
  simp only [Bool.and_eq_true,decide_eq_true_eq] at hv
  exact hv.1.2
 unfold gU um
 rw [cvalid hfl,hv,cond_f (b:=!true) rfl,begin_ok q0]
theorem ok_new {kd:Int} {st:List Int} (hv:vM kd st = true):(Iv.mk st 0 4294967295).Ok kd:=by
 unfold vM at hv
 simp only [Bool.and_eq_true,decide_eq_true_eq,List.all_eq_true] at hv
 exact ⟨hv.1.1,⟨(show (0:Int)≤0 by decide),(show (0:Int)≤4294967295 by decide),(show (4294967295:Int) < 4294967296 by decide)⟩,(show ¬ same 0 4294967295 by decide),fun s hs=>hv.2 s hs⟩
theorem vM_zeros {kd:Int} (hk:kd = 0∨kd = 1) {n:Nat} (hn:n≤8192):vM kd (List.replicate n 0) = true:=by
 unfold vM most
 simp only [Bool.and_eq_true,decide_eq_true_eq,List.all_eq_true,List.length_replicate]
 refine ⟨⟨hk,hn⟩,fun s hs=> ?_⟩
 have:=(List.mem_replicate.1 hs).2
 split <;> omega
open Go Ev
open Go Ev
def Bytes (l:List Int):Prop:=∀ v ∈ l,0≤v∧v≤255
theorem shlU {x b:Int} (h1:0≤x) (h2:x < 4294967296) (b1:0≤b) (b2:b≤255):ior .u64 (iand .u64 (ishl .u64 x 8) 4294967295) b = x % 16777216 * 256 + b:=by
 rw [nlU h1 h2]
 unfold ior nl
 have e1:IntKind.u64.bits = 64:=rfl
 rw [e1,BitVec.toNat_or,ofInt_toNat q0 q0,ofInt_toNat q0 q0]
 have h3:(x % 16777216 * 256).toNat = (x % 16777216).toNat <<< 8:=by rw [Nat.shiftLeft_eq]; omega
 rw [h3, ← Nat.shiftLeft_add_eq_or_of_lt q0,Nat.shiftLeft_eq,wrapU q0 q0]
 omega
def byd (code:List Int) (k:Nat):Int:=((4 + k - code.length:Nat):Int)
theorem strm_get {code:List Int} {n:Nat} (h:n < code.length):code.getD n 0 = strm code n:=rfl
theorem strm_out {code:List Int} {n:Nat} (h:¬ n < code.length):strm code n = 0:=by
 unfold strm
 rw [List.getD_eq_getElem?_getD,List.getElem?_eq_none q0]
 rfl
theorem shift_ok {fl:Nat} {kd lo hi:Int} {code:List Int} (hb:Bytes code) (hl:code.length≤10000000) {k:Nat} (hk:k≤100000000) {e r:Bool} {st:List Int} {K:Int×Int×Int×Int×Int×Int×Bool×Bool×List Int×List Int→OA}:
  bA fl kd lo hi ((4 + k:Nat):Int) (win (strm code) k) (byd code k) e r st code K = K (kd,lo,hi,((4 + (k + 1):Nat):Int),win (strm code) (k + 1),byd code (k + 1),e,r,st,code):=by
 have hS:=strm_byt hb
 obtain ⟨w1,w2⟩:=win_rg hS k
 have hn:=win_next hS k
 unfold bA
 rw [w6 (x:=((4 + k:Nat):Int) + 1)]
 by_cases h:4 + k < code.length
 ·have hv:=hb _ (getD_mem h 0)
  have e4:strm code (4 + k) = strm code (k + 4):=by rw [Nat.add_comm]
  rw [dec_t q0,dec_t q0,Int.toNat_natCast,wrapU q0 q0,shlU w1 w2 hv.1 hv.2,strm_get h,e4, ← hn]
  congr 1
  unfold byd
  rw [show 4 + k - code.length = 4 + (k + 1) - code.length by omega]
  rfl
 ·rw [dec_f q0,wrapU q0 q0,shlU w1 w2 q0 q0]
  have h0:strm code (k + 4) = 0:=strm_out q0
  rw [h0] at hn
  rw [← hn]
  congr 1
  unfold byd
  rw [wrap64 q0 q0,show ((4 + k - code.length:Nat):Int) + 1 = ((4 + (k + 1) - code.length:Nat):Int) by omega]
  rfl
theorem dmid_ok {fl:Nat} {kd:Int} {x:Iv} (h:x.Ok kd) {c:Int} (h0:0≤c) (h1:c < x.st.length) {at' v by':Int} {e r:Bool} {code:List Int} {K:Int×Int×Int×Int×Int×Int×Int×Bool×Bool×List Int×List Int→OA}:
  eI fl c kd x.lo x.hi at' v by' e r x.st code K = K (x.mid kd c,kd,x.lo,x.hi,at',v,by',e,r,x.st,code):=by
 unfold eI pg Iv.mid Co.mid
 rw [dec_t ⟨h0,h1⟩,chance h.k (h.get h0 h1)]
 obtain ⟨p1,p2⟩:=pr_rg h.k (h.get h0 h1)
 obtain ⟨r1,r2,r3⟩:=h.r
 obtain ⟨m1,m2,m3,m4⟩:=mid_parts r2 r1 r3 p1 p2
 generalize pr kd (x.st.getD c.toNat 0) = p at *
 rw [wrapU (x:=x.hi - x.lo) q0 q0,tdiv_e q0,tmod_e q0,wrapU (x:=p) q0 q0,wrapU (x:=(x.hi - x.lo) / 4096) q0 q0,
  wrapU (x:=(x.hi - x.lo) / 4096 * p) q0 q0,wrapU (x:=(x.hi - x.lo) % 4096 * p) q0 q0,tdiv_e m3,wrapU (x:=x.lo + (x.hi - x.lo) / 4096 * p) q0 q0,
  wrapU (x:=(x.hi - x.lo) % 4096 * p / 4096) q0 q0,wrapU q0 q0]
theorem dtake_ok {fl:Nat} {kd:Int} {x:Iv} (h:x.Ok kd) {c b:Int} (h0:0≤c) (h1:c < x.st.length) (hb:b = 0∨b = 1) {at' v by':Int} {e r:Bool} {code:List Int} {K:Int×Int×Int×Int×Int×Int×Bool×Bool×List Int×List Int→OA}:
  dm fl c b (x.mid kd c) kd x.lo x.hi at' v by' e r x.st code K = K (kd,x.clo kd c b,x.chi kd c b,at',v,by',e,r,x.st.set c.toNat (nx kd (x.st.getD c.toNat 0) b),code):=by
 have hm:=h.mid_in h0 h1
 obtain ⟨r1,r2,r3⟩:=h.r
 unfold dm tT Iv.clo Iv.chi
 simp only [next h.k (h.get h0 h1) hb]
 rcases hb with rfl | rfl
 ·rw [cond_f (b:=(0:Int)==1) rfl,dec_t ⟨h0,h1⟩,dec_t ⟨h0,h1⟩,if_neg (by decide),if_neg (by decide),wrapU q0 q0]
 ·rw [cond_t (b:=(1:Int)==1) rfl,dec_t ⟨h0,h1⟩,dec_t ⟨h0,h1⟩,if_pos rfl,if_pos rfl]
theorem shiftsK {V B:Type} {step:V→(V→OA)→B→OA} {b:B} {r:OA} (N:Nat) (σ:Nat→Int→Int→V)
  (hstep:∀ k lo hi c,Rg lo hi→same lo hi→k < N→step (σ k lo hi) c b = c (σ (k + 1) (nl lo) (nh hi)))
  :∀ (n:Nat) (k:Nat) (lo hi:Int) (m:Nat),Rg lo hi→¬ same (nrm n lo hi).2.1 (nrm n lo hi).2.2→n < m→k + n≤N→(∀ c,step (σ (k + (nrm n lo hi).1) (nrm n lo hi).2.1 (nrm n lo hi).2.2) c b = r)→iter step m (σ k lo hi) b = r
 | n,k,lo,hi,0,_,_,hm,_,_=>by omega
 | 0,k,lo,hi,m + 1,hr,hs,hm,hN,hn=>hn _
 | n + 1,k,lo,hi,m + 1,hr,hs,hm,hN,hn=>by
  simp only [iter]
  by_cases h:same lo hi
  ·rw [hstep k lo hi _ hr h q0]
   refine shiftsK N σ hstep n (k + 1) (nl lo) (nh hi) m (hr.next h) (by rw [← nrm_same h]; exact hs) q0 q0 fun c=> ?_
   have e:=hn c
   rw [nrm,if_pos h] at e
   rw [show k + 1 + (nrm n (nl lo) (nh hi)).1 = k + ((nrm n (nl lo) (nh hi)).1 + 1) by omega]
   exact e
  ·have e:=hn (fun v=>iter step m v b)
   rw [nrm,if_neg h] at e
   exact e
abbrev DL:=Int×Int×Int×Int×Int×Int×Int×Int×Int×Bool×Bool×List Int×List Int×Int×Int×Int×Int×Int×Int×Bool×Bool
theorem get_loop {fl:Nat} (hfl:9223372036854775808≤fl) {c b s kd lo hi:Int} (hr:Rg lo hi) {code:List Int} (hb:Bytes code) (hl:code.length≤10000000) {k:Nat} (hk:k≤10000000) {e r:Bool} {st:List Int} {o1 o2 o3 o4 o5 o6:Int} {o7 o8:Bool} {K:DL→OA}:
  dA fl (c,b,s,kd,lo,hi,((4 + k:Nat):Int),win (strm code) k,byd code k,e,r,st,code,o1,o2,o3,o4,o5,o6,o7,o8) K
  = K (c,b,s,kd,(nrm 5 lo hi).2.1,(nrm 5 lo hi).2.2,((4 + (k + (nrm 5 lo hi).1):Nat):Int),win (strm code) (k + (nrm 5 lo hi).1),byd code (k + (nrm 5 lo hi).1),e,r,st,code,o1,o2,o3,o4,o5,o6,o7,o8):=by
 unfold dA
 refine shiftsK (step:=gp fl) 20000000 (fun k lo hi=>(c,b,s,kd,lo,hi,((4 + k:Nat):Int),win (strm code) k,byd code k,e,r,st,code,o1,o2,o3,o4,o5,o6,o7,o8)) (fun k lo hi c hr hs hk=> ?_) 5 k lo hi fl hr (nrm_ends hr) q0 q0 fun c=> ?_
 ·obtain ⟨r1,r2,r3⟩:=hr
  simp only [gp,mr,du,dK]
  rw [shrU (x:=lo) r1,shrU (x:=hi) q0,cond_t (b:=lo / 16777216==hi / 16777216) (beq_iff_eq.2 hs),nlU r1 q0,nhU q0 r3,shift_ok hb hl q0]
 ·have hr':=nrm_rg 5 hr
  have hs':=nrm_ends hr
  generalize (nrm 5 lo hi).2.1 = lo' at *
  generalize (nrm 5 lo hi).2.2 = hi' at *
  obtain ⟨r1,r2,r3⟩:=hr'
  simp only [gp,mr,du]
  rw [shrU (x:=lo') r1,shrU (x:=hi') q0,cond_f (b:=lo' / 16777216==hi' / 16777216) (beq_eq_false_iff_ne.2 hs')]
theorem set_back {st:List Int} {i:Nat} {v:Int}:(st.set i v).set i (st.getD i 0) = st:=by
 rw [List.set_set]
 by_cases h:i < st.length
 ·rw [getD_lt h,List.set_getElem_self]
 ·exact List.set_eq_of_length_le (by omega)
theorem get_okB {fl:Nat} (hfl:9223372036854775808≤fl) {kd:Int} {x:Iv} (h:x.Ok kd) {c:Int} (h0:0≤c) (h1:c < x.st.length) {code:List Int} (hb:Bytes code) (hl:code.length≤10000000) {k:Nat} (hk:k≤10000000)
  {K:Int×Int×Int×Int×Int×Int×Int×Int×Bool×Bool×List Int×List Int→OA}:
  aa fl c kd x.lo x.hi ((4 + k:Nat):Int) (win (strm code) k) (byd code k) false true x.st code K
  = match get kd code x k c with
   | some (b,x',k')=>K (b,0,kd,x'.lo,x'.hi,((4 + k':Nat):Int),win (strm code) k',byd code k',false,true,x'.st,code)
   | none=>K (0,6,kd,x.lo,x.hi,((4 + k:Nat):Int),win (strm code) k,byd code k,true,true,x.st,code):=by
 unfold aa nI aS
 dsimp only
 rw [cond_f (b:=!true) rfl,dec_f q0,dec_f q0,cond_false,dmid_ok h h0 h1]
 dsimp only
 have gen:∀ b,b = 0∨b = 1→bitOf kd (strm code) x k c = b→
   (dm fl c b (x.mid kd c) kd x.lo x.hi ((4 + k:Nat):Int) (win (strm code) k) (byd code k) false true x.st code fun y=>
    dA fl (c,b,x.st.getD c.toNat 0,y.1,y.2.1,y.2.2.1,y.2.2.2.1,y.2.2.2.2.1,y.2.2.2.2.2.1,y.2.2.2.2.2.2.1,y.2.2.2.2.2.2.2.1,y.2.2.2.2.2.2.2.2.1,y.2.2.2.2.2.2.2.2.2,kd,x.lo,x.hi,((4 + k:Nat):Int),win (strm code) k,byd code k,false,true) fun z=>
     bif decide (z.2.2.2.2.2.2.2.2.1 > 4) then
      (bif decide (0≤z.1∧z.1 < (z.2.2.2.2.2.2.2.2.2.2.2.1.length:Int)) then K (0,6,z.2.2.2.2.2.2.2.2.2.2.2.2.2.1,z.2.2.2.2.2.2.2.2.2.2.2.2.2.2.1,z.2.2.2.2.2.2.2.2.2.2.2.2.2.2.2.1,z.2.2.2.2.2.2.2.2.2.2.2.2.2.2.2.2.1,z.2.2.2.2.2.2.2.2.2.2.2.2.2.2.2.2.2.1,z.2.2.2.2.2.2.2.2.2.2.2.2.2.2.2.2.2.2.1,true,z.2.2.2.2.2.2.2.2.2.2.2.2.2.2.2.2.2.2.2.2,z.2.2.2.2.2.2.2.2.2.2.2.1.set z.1.toNat z.2.2.1,z.2.2.2.2.2.2.2.2.2.2.2.2.1) else none)
     else K (z.2.1,0,z.2.2.2.1,z.2.2.2.2.1,z.2.2.2.2.2.1,z.2.2.2.2.2.2.1,z.2.2.2.2.2.2.2.1,z.2.2.2.2.2.2.2.2.1,z.2.2.2.2.2.2.2.2.2.1,z.2.2.2.2.2.2.2.2.2.2.1,z.2.2.2.2.2.2.2.2.2.2.2.1,z.2.2.2.2.2.2.2.2.2.2.2.2.1))
   = match get kd code x k c with
    | some (b,x',k')=>K (b,0,kd,x'.lo,x'.hi,((4 + k':Nat):Int),win (strm code) k',byd code k',false,true,x'.st,code)
    | none=>K (0,6,kd,x.lo,x.hi,((4 + k:Nat):Int),win (strm code) k,byd code k,true,true,x.st,code):=by
  intro b hb' hbit
  rw [dtake_ok h h0 h1 hb',get_loop hfl (h.cut (b:=b) h0 h1) hb hl hk]
  dsimp only
  unfold get
  rw [hbit]
  have hm:(nrm 5 (x.clo kd c b) (x.chi kd c b)).1 = x.many kd c b:=rfl
  rw [hm]
  by_cases hc:code.length < k + x.many kd c b
  ·rw [if_pos hc,dec_t (by unfold byd; omega),dec_t (by rw [List.length_set]; omega),set_back]
  ·rw [if_neg hc,dec_f (by unfold byd; omega)]
   rfl
 by_cases hv:win (strm code) k≤x.mid kd c
 ·have hbit:bitOf kd (strm code) x k c = 1:=if_pos hv
  rw [dec_t hv,dec_t ⟨h0,h1⟩]
  simp only [both_same]
  exact gen 1 (.inr rfl) hbit
 ·have hbit:bitOf kd (strm code) x k c = 0:=if_neg hv
  rw [dec_f hv,dec_t ⟨h0,h1⟩]
  simp only [both_same]
  exact gen 0 (.inl rfl) hbit
theorem get_ok {fl:Nat} (hfl:9223372036854775808≤fl) {kd:Int} {x:Iv} (h:x.Ok kd) {c:Int} (h0:0≤c) (h1:c < x.st.length) {code:List Int} (hb:Bytes code) (hl:code.length≤1000000) {k:Nat} (hk:k≤10000000)
  {K:Int×Int×Int×Int×Int×Int×Int×Int×Bool×Bool×List Int×List Int→OA}:
  aa fl c kd x.lo x.hi ((4 + k:Nat):Int) (win (strm code) k) (byd code k) false true x.st code K
  = match get kd code x k c with
   | some (b,x',k')=>K (b,0,kd,x'.lo,x'.hi,((4 + k':Nat):Int),win (strm code) k',byd code k',false,true,x'.st,code)
   | none=>K (0,6,kd,x.lo,x.hi,((4 + k:Nat):Int),win (strm code) k,byd code k,true,true,x.st,code):=
 get_okB hfl h h0 h1 hb q0 hk
theorem get_bad {fl:Nat} {kd lo hi at' v by':Int} {e:Bool} {st code:List Int} {K:Int×Int×Int×Int×Int×Int×Int×Int×Bool×Bool×List Int×List Int→OA}:
  aa fl (-1) kd lo hi at' v by' e true st code K = K (0,2,kd,lo,hi,at',v,by',e,true,st,code):=by
 unfold aa nI aS
 dsimp only
 rw [cond_f (b:=!true) rfl,dec_t q0]
def pv (S:Nat→Int):Nat→Int
 | 0=>0
 | 1=>S 0
 | 2=>S 0 * 256 + S 1
 | 3=>S 0 * 65536 + S 1 * 256 + S 2
 | _=>win S 0
theorem pv_step {S:Nat→Int} (h:Byt S) {i:Nat} (hi:i < 4):0≤pv S i∧pv S i < 4294967296∧pv S (i + 1) = pv S i % 16777216 * 256 + S i∧pv S (i + 1) = pv S i * 256 + S i:=by
 have a:=h 0; have b:=h 1; have c:=h 2; have d:=h 3
 have e0:win S 0 = S 0 * 16777216 + S 1 * 65536 + S 2 * 256 + S 3:=rfl
 have f0:pv S 0 = 0:=rfl
 have f1:pv S 1 = S 0:=rfl
 have f2:pv S 2 = S 0 * 256 + S 1:=rfl
 have f3:pv S 3 = S 0 * 65536 + S 1 * 256 + S 2:=rfl
 match i,hi with
 | 0,_=>
  have e1:pv S (0 + 1) = S 0:=rfl
  omega
 | 1,_=>
  have e1:pv S (1 + 1) = S 0 * 256 + S 1:=rfl
  omega
 | 2,_=>
  have e1:pv S (2 + 1) = S 0 * 65536 + S 1 * 256 + S 2:=rfl
  omega
 | 3,_=>
  have e1:pv S (3 + 1) = win S 0:=rfl
  have e2:pv S 3 = S 0 * 65536 + S 1 * 256 + S 2:=rfl
  rw [e1,e2]
  omega
theorem new_decB {fl:Nat} (hfl:9223372036854775808≤fl) {kd:Int} {st:List Int} (hv:vM kd st = true) {code:List Int} (hb:Bytes code) (hl:code.length≤10000000) {k0:Int→OA} {k1:Int×Int×Int×Int×Int×Int×Int×Bool×Bool×List Int×List Int→OA}:
  eh fl kd st code k0 k1 = k1 (0,kd,0,4294967295,((4 + 0:Nat):Int),win (strm code) 0,byd code 0,false,true,st,code):=by
 have hl':st.length≤8192:=by
  unfold vM at hv
  simp only [Bool.and_eq_true,decide_eq_true_eq] at hv
  exact hv.1.2
 have hS:=strm_byt hb
 unfold eh su
 rw [cvalid hfl,hv,cond_f (b:=!true) rfl,begin_ok q0]
 dsimp only
 rw [dec_t q0,List.nil_append]
 unfold zc
 refine iter_seq (step:=hZ fl) (fun i:Nat=>((i:Int),kd,0,4294967295,(i:Int),pv (strm code) i,((i - code.length:Nat):Int),false,true,st,code)) 4 (by simp [pv]) (fun i hi c=> ?_) (fun c=> ?_) q0
 ·obtain ⟨p1,p2,p3,_⟩:=pv_step hS hi
  simp only [hZ,od,bA]
  rw [dec_t q0,w6 (x:=(i:Int) + 1)]
  by_cases h:i < code.length
  ·have hv:=hb _ (getD_mem h 0)
   rw [dec_t q0,dec_t q0,Int.toNat_natCast,wrapU (x:=code.getD i 0) hv.1 q0,shlU p1 p2 hv.1 hv.2,strm_get h, ← p3,show i - code.length = i + 1 - code.length by omega]
   rfl
  ·rw [dec_f q0,wrapU q0 q0,shlU p1 p2 q0 q0]
   rw [strm_out h] at p3
   rw [← p3,wrap64 q0 q0,show ((i - code.length:Nat):Int) + 1 = ((i + 1 - code.length:Nat):Int) by omega]
   rfl
 ·simp only [hZ,od]
  rw [dec_f q0]
  rfl
open Go Ev
theorem wrap8mod {x:Int} (h:0≤x):IntKind.u8.wrap x = x % 256:=by
 simp [IntKind.wrap,IntKind.min,IntKind.max,IntKind.signed,IntKind.bits]
theorem shrN {x:Int} (h:0≤x) {y:Nat} (hy:y≤63):ishr .u64 x (y:Int) = x / 2 ^ y:=by
 unfold ishr
 have hb:min ((y:Int)).toNat IntKind.u64.bits = y:=by
  have:IntKind.u64.bits = 64:=rfl
  rw [this]
  omega
 rw [hb,Int.fdiv_eq_ediv_of_nonneg _ (Int.le_of_lt (Int.pow_pos q0))]
theorem shlN {x:Int} (h:0≤x) {y:Nat} (hy:y≤63) (hx:x * 2 ^ y < 18446744073709551616):ishl .u64 x (y:Int) = x * 2 ^ y:=by
 unfold ishl
 have hb:min ((y:Int)).toNat IntKind.u64.bits = y:=by
  have:IntKind.u64.bits = 64:=rfl
  rw [this]
  omega
 rw [hb]
 exact wrapU (Int.mul_nonneg h (Int.le_of_lt (Int.pow_pos q0))) hx
def topB (hi:Int) (n:Nat):List Int:=(List.range n).map fun i=>hi / 2 ^ (24 - 8 * i) % 256
def topV (hi:Int) (n:Nat):Int:=hi / 2 ^ (32 - 8 * n) * 2 ^ (32 - 8 * n)
theorem topV_rg {hi:Int} (h0:0≤hi) (n:Nat):0≤topV hi n∧topV hi n≤hi:=by
 unfold topV
 have hp:(0:Int) < 2 ^ (32 - 8 * n):=Int.pow_pos q0
 exact ⟨Int.mul_nonneg (Int.ediv_nonneg h0 (Int.le_of_lt hp)) (Int.le_of_lt hp),Int.ediv_mul_le _ (Int.ne_of_gt hp)⟩
theorem end_first {lo hi:Int} (h:Rg lo hi):∃ n,n < 5∧lo≤topV hi n∧(∀ i,i < n→¬ lo≤topV hi i)∧endB lo hi = topB hi n:=by
 obtain ⟨r1,r2,r3⟩:=h
 have v0:topV hi 0 = hi / 4294967296 * 4294967296:=rfl
 have v1:topV hi 1 = hi / 16777216 * 16777216:=rfl
 have v2:topV hi 2 = hi / 65536 * 65536:=rfl
 have v3:topV hi 3 = hi / 256 * 256:=rfl
 have v4:topV hi 4 = hi / 1 * 1:=rfl
 rcases nat_or_first (fun i=>¬ lo≤topV hi i) 5 with h | ⟨n,hn,hb,hi'⟩
 ·exact absurd q0 (h 4 q0)
 ·simp only [Decidable.not_not] at hb
  refine ⟨n,hn,hb,hi', ?_⟩
  unfold endB topB
  match n,hn with
  | 0,_=>rw [if_pos q0]; rfl
  | 1,_=>
   have:=hi' 0 q0
   rw [if_neg q0,if_pos q0]
   simp [List.range,List.range.loop]
   omega
  | 2,_=>
   have:=hi' 0 (by omega); have:=hi' 1 q0
   rw [if_neg q0,if_neg q0,if_pos q0]
   simp [List.range,List.range.loop]
   omega
  | 3,_=>
   have:=hi' 0 (by omega); have:=hi' 1 (by omega); have:=hi' 2 q0
   rw [if_neg q0,if_neg q0,if_neg q0,if_pos q0]
   simp [List.range,List.range.loop]
   omega
  | 4,_=>
   have:=hi' 0 (by omega); have:=hi' 1 (by omega); have:=hi' 2 (by omega); have:=hi' 3 q0
   rw [if_neg q0,if_neg q0,if_neg q0,if_neg q0]
   simp [List.range,List.range.loop]
   omega
theorem topB_succ (hi:Int) (n:Nat):topB hi (n + 1) = topB hi n++ [hi / 2 ^ (24 - 8 * n) % 256]:=range_map_succ _ n
theorem topB_len (hi:Int) (n:Nat):(topB hi n).length = n:=by simp [topB]
theorem endB_len (lo hi:Int):(endB lo hi).length≤4:=by
 unfold endB
 repeat' split
 all_goals simp
theorem end_inner {fl:Nat} (hfl:9223372036854775808≤fl) {n:Nat} (hn:n≤4) {kd lo hi:Int} (h0:0≤hi) {real:Bool} {st out acc:List Int} (hl:acc.length≤1000000000) {K:Int×Int×Int×Bool×List Int×List Int×List Int→OA}:
  rf fl ((n:Int),0,kd,lo,hi,real,st,out,acc) K = K (kd,lo,hi,real,st,out,acc++topB hi n):=by
 unfold rf
 refine iter_seq (step:=gd fl) (fun i:Nat=>((n:Int),(i:Int),kd,lo,hi,real,st,out,acc++topB hi i)) n (by simp [topB]) (fun i hi' c=> ?_) (fun c=> ?_) q0
 ·simp only [gd,mu]
  have e:(24:Int) - 8 * (i:Int) = ((24 - 8 * i:Nat):Int):=by omega
  rw [dec_t q0,w6 (x:=8 * (i:Int)),w6 (x:=24 - 8 * (i:Int)),w6 (x:=(i:Int) + 1),dec_f q0,e,shrN h0 q0,
   wrap8mod (Int.ediv_nonneg h0 (Int.le_of_lt (Int.pow_pos q0))),dec_t (by simp [topB_len]; omega),topB_succ,List.append_assoc]
  rfl
 ·simp only [gd,mu]
  rw [dec_f q0]
theorem end_ok {fl:Nat} (hfl:9223372036854775808≤fl) {kd:Int} {x:Iv} (h:Rg x.lo x.hi) {out:List Int} (hl:out.length≤1000000000) {K:Int×Int×Int×Bool×List Int×List Int×List Int→OA}:
  gW fl kd x.lo x.hi true x.st out K = K (kd,x.lo,x.hi,true,x.st,out,out++endB x.lo x.hi):=by
 obtain ⟨n,hn,hb,hbe,he⟩:=end_first h
 rw [he]
 obtain ⟨r1,r2,r3⟩:=h
 unfold gW xT aw
 dsimp only
 rw [cond_f (b:=!true) rfl,dec_t q0,List.nil_append]
 unfold Cb
 have cutv:∀ i:Nat,i < 5→ishl .u64 (ishr .u64 x.hi (IntKind.u64.wrap (IntKind.i64.wrap (32 - IntKind.i64.wrap (8 * (i:Int)))))) (IntKind.u64.wrap (IntKind.i64.wrap (32 - IntKind.i64.wrap (8 * (i:Int))))) = topV x.hi i∧¬ IntKind.u64.wrap (IntKind.i64.wrap (32 - IntKind.i64.wrap (8 * (i:Int)))) < 0:=by
  intro i hi'
  have hx:=topV_rg (hi:=x.hi) q0 i
  have e:(32:Int) - 8 * (i:Int) = ((32 - 8 * i:Nat):Int):=by omega
  rw [w6 (x:=8 * (i:Int)),w6 (x:=32 - 8 * (i:Int)),wrapU q0 q0,e,shrN q0 q0]
  refine ⟨?_,by omega⟩
  unfold topV at hx ⊢
  exact shlN (Int.ediv_nonneg q0 (Int.le_of_lt (Int.pow_pos q0))) q0 q0
 refine iter_to (step:=gz fl) (fun i:Nat=>((i:Int),kd,x.lo,x.hi,true,x.st,out,out)) n (fun i hi' c=> ?_) (fun c=> ?_) q0
 ·obtain ⟨c1,c2⟩:=cutv i q0
  simp only [gz,ny]
  rw [dec_t q0,dec_f c2,dec_f c2,c1,dec_f (by have:=hbe i hi'; omega),wrap64 q0 q0]
  rfl
 ·obtain ⟨c1,c2⟩:=cutv n hn
  simp only [gz,ny]
  rw [dec_t q0,dec_f c2,dec_f c2,c1,dec_t q0,end_inner hfl q0 q0 hl]
theorem emodel_ok {fl:Nat} {kd lo hi:Int} {st out:List Int} (hl:st.length≤1000000) {K:Int×Int×Int×Int×Bool×List Int×List Int×List Int→OA}:
  am fl kd lo hi true st out K = K (kd,kd,lo,hi,true,st,out,st):=by
 unfold am tN aw
 dsimp only
 rw [cond_f (b:=!true) rfl,clone_ok hl]
end Go.Proofs.YtohnjbmiaegofaaGreat.Co
namespace Go.Proofs.YtohnjbmiaegofaaGreat.Dc
open Go Ev Bm Co
theorem get_some {kx:Int} {x:Iv} (h:x.Ok kx) {c:Int} (h0:0≤c) (h1:c < x.st.length) {code:List Int} {k:Nat} {b:Int} {x':Iv} {k':Nat} (e:Co.get kx code x k c = some (b,x',k')):
  (b = 0∨b = 1)∧x'.Ok kx∧x'.st.length = x.st.length∧k'≤code.length:=by
 unfold Co.get at e
 split at e
 ·exact absurd e (by simp)
 ·injection e with e
  injection e with e1 e
  injection e with e2 e3
  have hb:=bitOf_01 kx (strm code) x k c
  rw [← e1, ← e2, ← e3]
  exact ⟨hb,h.next h0 h1 hb,Iv.next_len _ _ _ _,by omega⟩
def codeOf (kx:Int) (x0:Iv) (E:List (Int×Int)) (z:Nat):List Int:=((run kx x0 [] E).2++endB (run kx x0 [] E).1.lo (run kx x0 [] E).1.hi)++List.replicate z 0
theorem get_ev {kx:Int} {x0:Iv} (hx:x0.Ok kx) {E L:List (Int×Int)} {c b:Int} (hE:∃ r,E = (L++ [(c,b)])++r) (he:Evs x0.st.length E) (z:Nat):
  Co.get kx (codeOf kx x0 E z) (run kx x0 [] L).1 (run kx x0 [] L).2.length c = some (b,(run kx x0 [] (L++ [(c,b)])).1,(run kx x0 [] (L++ [(c,b)])).2.length):=by
 obtain ⟨r,hr⟩:=hE
 have hE:E = L++(c,b)::r:=by rw [hr,List.append_assoc]; rfl
 unfold codeOf
 rw [hE] at he ⊢
 exact get_put hx he
inductive Dec (α:Type) where
 | ret (a:α)
 | bad (e:Int)
 | get (c:Int) (k:Int→Dec α)
def Dec.bind {α β:Type}:Dec α→(α→Dec β)→Dec β
 | .ret a,f=>f a
 | .bad e,_=>.bad e
 | .get c k,f=>.get c fun b=>(k b).bind f
structure S where
 ok:Bool
 x:Iv
 k:Nat
def Dec.run {α:Type} (kx:Int) (code:List Int):Dec α→S→(Int ⊕ α)×S
 | .ret a,s=>(.inr a,s)
 | .bad e,s=>(.inl e,s)
 | .get c f,s=>match Co.get kx code s.x s.k c with
  | some (b,x',k')=>(f b).run kx code ⟨true,x',k'⟩
  | none=>(.inl 6,⟨false,s.x,s.k⟩)
theorem run_bind {α β:Type} {kx:Int} {code:List Int} {f:α→Dec β}:∀ (d:Dec α) (s:S),(d.bind f).run kx code s = match d.run kx code s with | (.inl e,s')=>(.inl e,s') | (.inr a,s')=>(f a).run kx code s'
 | .ret a,s=>rfl
 | .bad e,s=>rfl
 | .get c k,s=>by
  simp only [Dec.bind,Dec.run]
  cases Co.get kx code s.x s.k c with
  | none=>rfl
  | some v=>
   obtain ⟨b,x',k'⟩:=v
   exact run_bind (k b) ⟨true,x',k'⟩
theorem bind_assoc {α β γ:Type} {f:α→Dec β} {g:β→Dec γ}:∀ (d:Dec α),(d.bind f).bind g = d.bind fun a=>(f a).bind g
 | .ret a=>rfl
 | .bad e=>rfl
 | .get c k=>by
  simp only [Dec.bind]
  congr 1
  funext b
  exact bind_assoc (k b)
def Fol {α:Type}:Dec α→List (Int×Int)→α→Prop
 | .ret a,E,b=>E = []∧a = b
 | .bad _,_,_=>False
 | .get c k,E,a=>∃ b r,E = (c,b)::r∧Fol (k b) r a
theorem fol_bind {α β:Type} {f:α→Dec β} {b:β} {a:α} {F:List (Int×Int)}:∀ (d:Dec α) {E:List (Int×Int)},Fol d E a→Fol (f a) F b→Fol (d.bind f) (E++F) b
 | .ret a',E,h,h2=>by
  obtain ⟨rfl,rfl⟩:=h
  exact h2
 | .bad e,E,h,h2=>by cases h
 | .get c k,E,h,h2=>by
  obtain ⟨v,r,rfl,h⟩:=h
  exact ⟨v,r++F,rfl,fol_bind (k v) h h2⟩
theorem fol_run {α:Type} {kx:Int} {x0:Iv} (hx:x0.Ok kx) {E:List (Int×Int)} (he:Evs x0.st.length E) (z:Nat) {a:α}:∀ (d:Dec α) {L F:List (Int×Int)},(∃ r,E = (L++F)++r)→Fol d F a→
  d.run kx (codeOf kx x0 E z) ⟨true,(run kx x0 [] L).1,(run kx x0 [] L).2.length⟩ = (.inr a,⟨true,(run kx x0 [] (L++F)).1,(run kx x0 [] (L++F)).2.length⟩)
 | .ret a',L,F,hE,h=>by
  obtain ⟨rfl,rfl⟩:=h
  rw [List.append_nil]
  rfl
 | .bad e,L,F,hE,h=>by cases h
 | .get c k,L,F,hE,h=>by
  obtain ⟨b,r,rfl,h⟩:=h
  have hE2:∃ r',E = ((L++ [(c,b)])++r)++r':=by
   obtain ⟨r',e⟩:=hE
   exact ⟨r',by rw [e]; simp only [List.append_assoc,List.cons_append,List.nil_append]⟩
  have hE1:∃ r',E = (L++ [(c,b)])++r':=by
   obtain ⟨r',e⟩:=hE2
   exact ⟨r++r',by rw [e,List.append_assoc]⟩
  simp only [Dec.run]
  rw [get_ev hx hE1 he z]
  dsimp only
  rw [fol_run hx he z (k b) hE2 h]
  simp only [List.append_assoc,List.cons_append,List.nil_append]
def Dec.All {α:Type} (n:Nat) (P:α→Prop):Dec α→Prop
 | .ret a=>P a
 | .bad e=>e = 3
 | .get c k=>(0≤c∧c < (n:Int))∧∀ b,b = 0∨b = 1→(k b).All n P
theorem Dec.All.mono {α:Type} {n:Nat} {P Q:α→Prop} (h:∀ a,P a→Q a):∀ (d:Dec α),d.All n P→d.All n Q
 | .ret a,hd=>h a hd
 | .bad _,hd=>hd
 | .get c k,hd=>⟨hd.1,fun b hb=>Dec.All.mono h (k b) (hd.2 b hb)⟩
theorem Dec.All.bind {α β:Type} {n:Nat} {P:α→Prop} {Q:β→Prop} {f:α→Dec β} (hf:∀ a,P a→(f a).All n Q):∀ (d:Dec α),d.All n P→(d.bind f).All n Q
 | .ret a,hd=>hf a hd
 | .bad _,hd=>hd
 | .get c k,hd=>⟨hd.1,fun b hb=>Dec.All.bind hf (k b) (hd.2 b hb)⟩
structure St (kx:Int) (code:List Int) (n:Nat) (s:S):Prop where
 ok:s.ok = true
 x:s.x.Ok kx
 sl:s.x.st.length = n
 k:s.k≤code.length
def Ends {α:Type} (kx:Int) (code:List Int) (n:Nat) (P:α→Prop):(Int ⊕ α)×S→Prop
 | (.inr a,s)=>P a∧St kx code n s
 | (.inl e,s)=>(e = 6∧s.ok = false)∨(e = 3∧St kx code n s)
theorem run_ends {α:Type} {kx:Int} {code:List Int} {n:Nat} {P:α→Prop}:∀ (d:Dec α) {s:S},d.All n P→St kx code n s→Ends kx code n P (d.run kx code s)
 | .ret a,s,hd,hs=>⟨hd,hs⟩
 | .bad e,s,hd,hs=>.inr ⟨hd,hs⟩
 | .get c k,s,hd,hs=>by
  obtain ⟨⟨h0,h1⟩,h2⟩:=hd
  simp only [Dec.run]
  cases e:Co.get kx code s.x s.k c with
  | none=>exact .inl ⟨rfl,rfl⟩
  | some v=>
   obtain ⟨b,x',k'⟩:=v
   obtain ⟨g1,g2,g3,g4⟩:=get_some hs.x h0 (by rw [hs.sl]; exact h1) e
   exact run_ends (k b) (h2 b g1) ⟨rfl,g2,by rw [g3]; exact hs.sl,g4⟩
def loopD {A:Type} (bd:Nat→A→Dec A):Nat→Nat→A→Dec A
 | 0,_,a=>.ret a
 | n + 1,i,a=>(bd i a).bind (loopD bd n (i + 1))
theorem loopD_all {A:Type} {N:Nat} {I:Nat→A→Prop} {bd:Nat→A→Dec A}:∀ (n i:Nat) (a:A),(∀ j a,i≤j→j < i + n→I j a→(bd j a).All N (I (j + 1)))→I i a→(loopD bd n i a).All N (I (i + n))
 | 0,i,a,h,ha=>ha
 | n + 1,i,a,h,ha=>by
  refine Dec.All.bind (P:=I (i + 1)) (fun a' ha'=> ?_) _ (h i a (Nat.le_refl _) q0 ha)
  have:=loopD_all n (i + 1) a' (fun j a h1 h2=>h j a q0 q0) ha'
  rwa [show i + 1 + n = i + (n + 1) by omega] at this
def Aft {A:Type} (E:A→S→OA) (R:Int→S→OA):(Int ⊕ A)×S→OA
 | (.inr a,s)=>E a s
 | (.inl e,s)=>R e s
theorem fin_bind {A B:Type} {E:B→S→OA} {R:Int→S→OA} {kx:Int} {code:List Int} {f:A→Dec B} {d:Dec A} {s:S}:Aft E R ((d.bind f).run kx code s) = Aft (fun a s=>Aft E R ((f a).run kx code s)) R (d.run kx code s):=by
 rw [run_bind]
 cases d.run kx code s with
 | mk r s'=>cases r <;> rfl
theorem fin_congr {A:Type} {E E':A→S→OA} {R R':Int→S→OA} {kx:Int} {code:List Int} {n:Nat} {P:A→Prop} {d:Dec A} {s:S} (hd:d.All n P) (hs:St kx code n s) (hE:∀ a s,P a→St kx code n s→E a s = E' a s) (hR:∀ e s,e ≠ 0→R e s = R' e s):Aft E R (d.run kx code s) = Aft E' R' (d.run kx code s):=by
 have he:=run_ends d hd hs
 cases hr:d.run kx code s with
 | mk r s'=>
  rw [hr] at he
  cases r with
  | inl e=>
   refine hR e s' ?_
   rcases he with ⟨rfl,_⟩ | ⟨rfl,_⟩ <;> decide
  | inr a=>exact hE a s' he.1 he.2
theorem iter_dec {V B A:Type} {step:V→(V→OA)→B→OA} {b:B} {kx:Int} {code:List Int} {N:Nat} (I:Nat→A→Prop) (bd:Nat→A→Dec A) (σ:Nat→A→S→V) (R:Int→S→OA) (E:A→S→OA) (n:Nat)
  (hall:∀ i a,i < n→I i a→(bd i a).All N (I (i + 1)))
  (hstep:∀ i a s,i < n→I i a→St kx code N s→∀ c,step (σ i a s) c b = Aft (fun a' s'=>c (σ (i + 1) a' s')) R ((bd i a).run kx code s))
  (hend:∀ a s,I n a→St kx code N s→∀ c,step (σ n a s) c b = E a s) {v:V} {a:A} {s:S} (hv:v = σ 0 a s) (hI:I 0 a) (hs:St kx code N s) {m:Nat} (hm:n < m):
  iter step m v b = Aft E R ((loopD bd n 0 a).run kx code s):=by
 subst hv
 have key:∀ d i a s m,i + d = n→I i a→St kx code N s→d < m→iter step m (σ i a s) b = Aft E R ((loopD bd d i a).run kx code s):=by
  intro d
  induction d with
  | zero=>
   intro i a s m hi hI hs hm
   obtain ⟨m,rfl⟩:∃ k,m = k + 1:=⟨m - 1,by omega⟩
   have:i = n:=by omega
   subst this
   exact hend a s hI hs _
  | succ d ih=>
   intro i a s m hi hI hs hm
   obtain ⟨m,rfl⟩:∃ k,m = k + 1:=⟨m - 1,by omega⟩
   simp only [iter,loopD]
   rw [hstep i a s q0 hI hs,run_bind]
   have he:=run_ends (bd i a) (hall i a q0 hI) hs
   cases hr:(bd i a).run kx code s with
   | mk r s'=>
    rw [hr] at he
    cases r with
    | inl e=>rfl
    | inr a'=>exact ih (i + 1) a' s' m q0 he.1 he.2 q0
 exact key n 0 a s m q0 hI hs hm
open Go Ev Bm Co
def digC (c j:Nat):Int:=if j = 0 then 23 + c else min (43 + j) 47
def digEv (base:Int) (v c:Nat):Nat→List (Int×Int)
 | 0=>[]
 | j + 1=>digEv base v c j++ [(base + digC c j,((v / 2 ^ (c - 1 - j) % 2:Nat):Int))]
def onesEv (base:Int):Nat→List (Int×Int)
 | 0=>[]
 | i + 1=>onesEv base i++ [(base + 1 + i,1)]
def numEv (base:Int) (none:Bool) (n:Int):List (Int×Int):=
 if none = true then [(base,1)]
 else (((base,0)::onesEv base (Nat.log2 (n.natAbs + 1)))++(if Nat.log2 (n.natAbs + 1) < 20 then [(base + 1 + (Nat.log2 (n.natAbs + 1):Int),0)] else [])
  ++digEv base (n.natAbs + 1) (Nat.log2 (n.natAbs + 1)) (Nat.log2 (n.natAbs + 1)))++(if n = 0 then [] else [(base + 22,if n < 0 then 1 else 0)])
def cntD {β:Type} (base:Int) (k:Nat→Dec β):Nat→Nat→Dec β
 | 0,c=>k c
 | f + 1,c=>.get (base + 1 + c) fun b=>if b = 0 then k c else cntD base k f (c + 1)
def digD {β:Type} (base:Int) (c:Nat) (k:Int→Dec β):Nat→Nat→Int→Dec β
 | 0,_,v=>k v
 | l + 1,i,v=>.get (base + digC c i) fun b=>digD base c k l (i + 1) (2 * v + b)
def numD (base:Int):Dec (Bool×Int):=
 .get base fun b=>if b = 1 then .ret (true,0) else
  cntD base (fun c=>digD base c (fun v=>if v > 1048577 then .bad 3 else if v = 1 then .ret (false,0) else .get (base + 22) fun s=>.ret (false,(v - 1) * (1 - 2 * s))) c 0 1) 20 0
theorem fol_cnt {β:Type} {base:Int} {k:Nat→Dec β} {a:β} {E:List (Int×Int)}:∀ (c i f:Nat),i≤c→c + f = i + f + (c - i)→c - i≤f→Fol (k c) E a→
  Fol (cntD base k f i) (((List.range (c - i)).map fun j=>(base + 1 + ((i + j:Nat):Int),(1:Int)))++((if c - i < f then [(base + 1 + (c:Int),0)] else [])++E)) a:=by
 intro c i f
 induction f generalizing i with
 | zero=>
  intro h1 _ h2 h
  have:c = i:=by omega
  subst this
  simpa [cntD] using h
 | succ f ih=>
  intro h1 _ h2 h
  by_cases hc:c = i
  ·subst hc
   unfold cntD
   refine ⟨0,E,by simp, ?_⟩
   show Fol (if (0:Int) = 0 then _ else _) E a
   rw [if_pos rfl]
   exact h
  ·have h3:=ih (i + 1) q0 q0 q0 h
   unfold cntD
   refine ⟨1,_, ?_,by show Fol (if (1:Int) = 0 then _ else _) _ a; rw [if_neg (by decide)]; exact h3⟩
   rw [show c - i = (c - (i + 1)) + 1 by omega,List.range_succ_eq_map,List.map_cons,List.map_map]
   simp only [List.cons_append,Nat.add_zero]
   have e1:((fun j:Nat=>(base + 1 + ((i + j:Nat):Int),(1:Int))) ∘ Nat.succ) = fun j:Nat=>(base + 1 + ((i + 1 + j:Nat):Int),(1:Int)):=by
    funext j
    simp only [Function.comp,Nat.succ_eq_add_one]
    rw [show i + (j + 1) = i + 1 + j by omega]
   rw [e1]
   congr 3
   by_cases h4:c - (i + 1) < f
   ·rw [if_pos h4,if_pos q0]
   ·rw [if_neg h4,if_neg q0]
theorem onesEv_map (base:Int):∀ c:Nat,onesEv base c = (List.range c).map fun j=>(base + 1 + ((0 + j:Nat):Int),(1:Int))
 | 0=>rfl
 | c + 1=>by
  rw [onesEv,onesEv_map base c,List.range_succ,List.map_append]
  simp
theorem fol_dig {β:Type} {base:Int} {v c:Nat} {k:Int→Dec β} {a:β} {E:List (Int×Int)} (h:Fol (k (v:Int)) E a):∀ (l j:Nat),j + l = c→Fol (digD base c k l j ((v / 2 ^ l:Nat):Int)) (((List.range l).map fun i=>(base + digC c (j + i),((v / 2 ^ (l - 1 - i) % 2:Nat):Int)))++E) a
 | 0,j,hj=>by simpa [digD] using h
 | l + 1,j,hj=>by
  unfold digD
  have ih:=fol_dig (base:=base) (c:=c) h l (j + 1) q0
  refine ⟨((v / 2 ^ l % 2:Nat):Int),((List.range l).map fun i=>(base + digC c (j + 1 + i),((v / 2 ^ (l - 1 - i) % 2:Nat):Int)))++E, ?_, ?_⟩
  ·rw [List.range_succ_eq_map,List.map_cons,List.map_map]
   simp only [List.cons_append,Nat.add_zero,Nat.sub_zero,Nat.add_sub_cancel]
   congr 2
   apply List.map_congr_left
   intro i _
   simp only [Function.comp,Nat.succ_eq_add_one]
   rw [show j + (i + 1) = j + 1 + i by omega,show l - (i + 1) = l - 1 - i by omega]
  ·have e:2 * ((v / 2 ^ (l + 1):Nat):Int) + ((v / 2 ^ l % 2:Nat):Int) = ((v / 2 ^ l:Nat):Int):=by
    rw [Nat.pow_succ, ← Nat.div_div_eq_div_mul]
    omega
   dsimp only
   rw [e]
   exact ih
theorem digEv_map (base:Int) (v c:Nat):∀ l:Nat,digEv base v c l = (List.range l).map fun i=>(base + digC c (0 + i),((v / 2 ^ (c - 1 - i) % 2:Nat):Int))
 | 0=>rfl
 | l + 1=>by
  rw [digEv,digEv_map base v c l,List.range_succ,List.map_append]
  simp
theorem fol_num {base:Int} {none:Bool} {n:Int} (hn:none = true→n = 0) (h0: -1048576≤n) (h1:n≤1048576):Fol (numD base) (numEv base none n) (none,n):=by
 unfold numEv numD
 cases none with
 | true=>
  have:=hn rfl
  subst this
  exact ⟨1,[],rfl,by show Fol (if (1:Int) = 1 then _ else _) _ _; rw [if_pos rfl]; exact ⟨rfl,rfl⟩⟩
 | false=>
  rw [if_neg (by simp)]
  generalize hv:n.natAbs + 1 = v
  have hv0:v ≠ 0:=by omega
  have hlo:2 ^ Nat.log2 v≤v:=Nat.log2_self_le hv0
  have hhi:v < 2 ^ (Nat.log2 v + 1):=Nat.lt_log2_self
  have hc20:Nat.log2 v≤20:=by
   have:Nat.log2 v < 21:=(Nat.log2_lt hv0).2 q0
   omega
  have hfirst:v / 2 ^ Nat.log2 v = 1:=by
   rw [Nat.pow_succ] at hhi
   have hp:0 < 2 ^ Nat.log2 v:=Nat.pow_pos q0
   refine Nat.div_eq_of_lt_le q0 q0
  generalize Nat.log2 v = c at *
  refine ⟨0,_,rfl, ?_⟩
  show Fol (if (0:Int) = 1 then _ else _) _ _
  rw [if_neg (by decide)]
  have hlast:Fol (if (v:Int) > 1048577 then (.bad 3:Dec (Bool×Int)) else if (v:Int) = 1 then .ret (false,0) else .get (base + 22) fun s=>.ret (false,((v:Int) - 1) * (1 - 2 * s))) (if n = 0 then [] else [(base + 22,if n < 0 then 1 else 0)]) (false,n):=by
   rw [if_neg q0]
   by_cases hz:n = 0
   ·rw [if_pos hz,if_pos q0]
    exact ⟨rfl,by rw [hz]⟩
   ·rw [if_neg hz,if_neg q0]
    refine ⟨_,[],rfl,rfl, ?_⟩
    congr 1
    by_cases hneg:n < 0
    ·rw [if_pos hneg]
     omega
    ·rw [if_neg hneg]
     omega
  have hd:=fol_dig (base:=base) (v:=v) (c:=c) (k:=fun v=>if v > 1048577 then (.bad 3:Dec (Bool×Int)) else if v = 1 then .ret (false,0) else .get (base + 22) fun s=>.ret (false,(v - 1) * (1 - 2 * s))) hlast c 0 q0
  rw [hfirst, ← digEv_map] at hd
  have hk:=fol_cnt (base:=base) (k:=fun c=>digD base c (fun v=>if v > 1048577 then (.bad 3:Dec (Bool×Int)) else if v = 1 then .ret (false,0) else .get (base + 22) fun s=>.ret (false,(v - 1) * (1 - 2 * s))) c 0 1) c 0 20 q0 q0 q0 hd
  rw [Nat.sub_zero, ← onesEv_map] at hk
  show Fol _ (((onesEv base c++(if c < 20 then [(base + 1 + (c:Int),0)] else []))++digEv base v c c)++(if n = 0 then [] else [(base + 22,if n < 0 then 1 else 0)])) _
  simpa only [List.append_assoc] using hk
def idEv (base:Int) (k id:Nat):Nat→List (Int×Int)
 | 0=>[]
 | j + 1=>idEv base k id j++ [(base + ((2 ^ j + id / 2 ^ (k - j):Nat):Int) - 1,((id / 2 ^ (k - 1 - j) % 2:Nat):Int))]
def idD {β:Type} (base:Int) (k:Int→Dec β):Nat→Int→Dec β
 | 0,p=>k p
 | l + 1,p=>.get (base + p - 1) fun b=>idD base k l (2 * p + b)
theorem fol_id {β:Type} {base:Int} {K id:Nat} (hid:id < 2 ^ K) {k:Int→Dec β} {a:β} {E:List (Int×Int)} (h:Fol (k ((2 ^ K + id:Nat):Int)) E a):∀ (l j:Nat),j + l = K→Fol (idD base k l ((2 ^ j + id / 2 ^ l:Nat):Int)) (((List.range l).map fun i=>(base + ((2 ^ (j + i) + id / 2 ^ (l - i):Nat):Int) - 1,((id / 2 ^ (l - 1 - i) % 2:Nat):Int)))++E) a
 | 0,j,hj=>by
  have:j = K:=by omega
  subst this
  simpa [idD] using h
 | l + 1,j,hj=>by
  unfold idD
  have ih:=fol_id (base:=base) hid h l (j + 1) q0
  refine ⟨((id / 2 ^ l % 2:Nat):Int),((List.range l).map fun i=>(base + ((2 ^ (j + 1 + i) + id / 2 ^ (l - i):Nat):Int) - 1,((id / 2 ^ (l - 1 - i) % 2:Nat):Int)))++E, ?_, ?_⟩
  ·rw [List.range_succ_eq_map,List.map_cons,List.map_map]
   simp only [List.cons_append,Nat.add_zero,Nat.sub_zero,Nat.add_sub_cancel]
   congr 2
   apply List.map_congr_left
   intro i _
   simp only [Function.comp,Nat.succ_eq_add_one]
   rw [show j + (i + 1) = j + 1 + i by omega,show l + 1 - (i + 1) = l - i by omega,show l - (i + 1) = l - 1 - i by omega]
  ·have e:2 * ((2 ^ j + id / 2 ^ (l + 1):Nat):Int) + ((id / 2 ^ l % 2:Nat):Int) = ((2 ^ (j + 1) + id / 2 ^ l:Nat):Int):=by
    rw [Nat.pow_succ 2 l, ← Nat.div_div_eq_div_mul,Nat.pow_succ]
    omega
   dsimp only
   rw [e]
   exact ih
theorem idEv_map (base:Int) (k id:Nat):∀ l:Nat,idEv base k id l = (List.range l).map fun i=>(base + ((2 ^ (0 + i) + id / 2 ^ (k - i):Nat):Int) - 1,((id / 2 ^ (k - 1 - i) % 2:Nat):Int))
 | 0=>rfl
 | l + 1=>by
  rw [idEv,idEv_map base k id l,List.range_succ,List.map_append]
  simp
theorem fol_idK {base:Int} {K id:Nat} (hid:id < 2 ^ K):Fol (idD base (fun p=>.ret (p - ((2 ^ K:Nat):Int))) K 1) (idEv base K id K) (id:Int):=by
 have h0:id / 2 ^ K = 0:=Nat.div_eq_of_lt hid
 have:=fol_id (base:=base) hid (k:=fun p=>.ret (p - ((2 ^ K:Nat):Int))) (a:=(id:Int)) (E:=[]) ⟨rfl,by omega⟩ K 0 q0
 rw [h0,List.append_nil, ← idEv_map] at this
 exact this
open Go Ev Bm Co
def blen (n:Nat):Nat:=if n = 0 then 0 else Nat.log2 n + 1
theorem blen_div {v:Nat} {k:Nat} (h:2 ^ k≤v):blen (v / 2 ^ k) + k = blen v:=by
 have hp:0 < 2 ^ k:=Nat.pow_pos q0
 have h1:1≤v / 2 ^ k:=(Nat.le_div_iff_mul_le hp).2 q0
 unfold blen
 rw [if_neg q0,if_neg q0]
 have h2:=Nat.log2_self_le (n:=v / 2 ^ k) q0
 have h3:=Nat.lt_log2_self (n:=v / 2 ^ k)
 generalize Nat.log2 (v / 2 ^ k) = c at *
 have:Nat.log2 v = c + k:=(Nat.log2_eq_iff q0).2 ⟨by
  rw [Nat.pow_add]
  exact (Nat.le_div_iff_mul_le hp).1 h2,by
  rw [show c + k + 1 = (c + 1) + k by omega,Nat.pow_add]
  exact (Nat.div_lt_iff_lt_mul hp).1 h3⟩
 omega
theorem blen_le {v n:Nat} (h:v < 2 ^ n):blen v≤n:=by
 unfold blen
 split
 ·omega
 ·rename_i hv
  have:=(Nat.log2_lt hv).2 h
  omega
theorem len64 {fl:Nat} {v:Nat} (hv:v < 4194304) {K:Int→OA}:fI fl (v:Int) K = K (blen v:Int):=by
 unfold fI
 generalize hT:ByteArray.mk _ = T
 have hs:T.size = 256:=by rw [← hT]; decide +kernel
 have ht:∀ i:Fin 256,(T.data.toList.getD i.val 0).toNat = blen i.val:=by rw [← hT]; decide +kernel
 clear hT
 have ht:∀ i:Nat,i < 256→(T.data.toList.getD i 0).toNat = blen i:=fun i hi=>ht ⟨i,hi⟩
 rw [dec_f q0,hs]
 by_cases h1:v≥65536
 ·have e16:ishr .u64 (v:Int) 16 = ((v / 65536:Nat):Int):=by rw [show (16:Int) = ((16:Nat):Int) from rfl,shrN q0 q0]; omega
  have hb:blen (v / 65536) + 16 = blen v:=blen_div (v:=v) (k:=16) h1
  have hl:=blen_le (v:=v / 65536) (n:=8) q0
  rw [dec_t q0,e16,dec_f q0,wrap8 q0 q0,dec_t q0,Int.toNat_natCast,ht _ q0,w6 (x:=0 + 16),w6 (x:=((blen (v / 65536):Nat):Int)),wrap64 q0 q0]
  congr 1
  omega
 rw [dec_f q0]
 by_cases h2:v≥256
 ·have e8:ishr .u64 (v:Int) 8 = ((v / 256:Nat):Int):=by rw [show (8:Int) = ((8:Nat):Int) from rfl,shrN q0 q0]; omega
  have hb:blen (v / 256) + 8 = blen v:=blen_div (v:=v) (k:=8) h2
  have hl:=blen_le (v:=v / 256) (n:=8) q0
  rw [dec_t q0,e8,wrap8 q0 q0,dec_t q0,Int.toNat_natCast,ht _ q0,w6 (x:=0 + 8),w6 (x:=((blen (v / 256):Nat):Int)),wrap64 q0 q0]
  congr 1
  omega
 ·have hl:=blen_le (v:=v) (n:=8) q0
  rw [dec_f q0,wrap8 q0 q0,dec_t q0,Int.toNat_natCast,ht _ q0,w6 (x:=((blen v:Nat):Int)),wrap64 q0 q0]
  congr 1
  omega
theorem blen_pos {v:Nat} (h:0 < v):blen v = Nat.log2 v + 1:=by unfold blen; rw [if_neg q0]
theorem ishr_nat {v n:Nat} (hn:n≤62):ishr .i64 (v:Int) (n:Int) = ((v / 2 ^ n:Nat):Int):=by
 unfold ishr
 have hb:min ((n:Int)).toNat IntKind.i64.bits = n:=by
  have:IntKind.i64.bits = 64:=rfl
  rw [this]
  omega
 rw [hb,Int.fdiv_eq_ediv_of_nonneg _ (Int.le_of_lt (Int.pow_pos q0))]
 rw [Int.natCast_ediv,Int.natCast_pow]
 rfl
theorem bit_nat {v n:Nat} (hv:v < 9223372036854775808) (hn:n≤62):iand .i64 (ishr .i64 (v:Int) (n:Int)) 1 = ((v / 2 ^ n % 2:Nat):Int):=by
 rw [ishr_nat hn]
 have:=Nat.div_le_self v (2 ^ n)
 generalize v / 2 ^ n = q at *
 rw [iand_one q0 q0]
 omega
theorem onesEv_len (base:Int):∀ c,(onesEv base c).length = c
 | 0=>rfl
 | c + 1=>by rw [onesEv,List.length_append,onesEv_len base c]; rfl
theorem digEv_len (base:Int) (v c:Nat):∀ j,(digEv base v c j).length = j
 | 0=>rfl
 | j + 1=>by rw [digEv,List.length_append,digEv_len base v c j]; rfl
def tailN (j:Nat):Int:=if j = 0 then 44 else ((min (43 + j) 47:Nat):Int)
section
variable {fl:Nat} (hfl:9223372036854775808≤fl)
include hfl
theorem dig_loop {base:Int} (hb:0≤base) (hb2:base≤100000) {v c:Nat} (hv:v≤1048577) (hc:c≤20) {o:Bool} {n:Int} {pre:List (Int×Int)} (hp:pre.length≤100) {K:Int×Bool×Int×List (Int×Int)→OA}:
  md fl (base,(v:Int),(c:Int),IntKind.i64.wrap ((c:Int) - 1),o,n,pre,44) K = K (base,o,n,pre++digEv base v c c):=by
 unfold md
 refine iter_seq (step:=ic fl) (fun j:Nat=>(base,(v:Int),(c:Int),(c:Int) - 1 - (j:Int),o,n,pre++digEv base v c j,tailN j)) c (by
  rw [wrap64 q0 q0]
  simp [digEv,tailN]) (fun j hj k=> ?_) (fun k=> ?_) q0
 ·have hl:=digEv_len base v c j
  have e:(c:Int) - 1 - (j:Int) = ((c - 1 - j:Nat):Int):=by omega
  simp only [ic,nW]
  rw [dec_t q0,w6 (x:=(c:Int) - 1),w6 (x:=(c:Int) - 1 - (j:Int) - 1),e,bit_nat q0 q0]
  by_cases hj0:j = 0
  ·subst hj0
   have ht:(tailN 0:Int) = tailN 1:=rfl
   rw [dec_f q0,dec_f q0,w6 (x:=23 + (c:Int)),w6 (x:=base + (23 + (c:Int))),dec_t (by simp; omega)]
   rw [List.append_assoc]
   congr 1
   have e5:((c - 1 - 0:Nat):Int) - 1 = (c:Int) - 1 - ((0 + 1:Nat):Int):=by omega
   rw [e5]
   rfl
  ·have hd:(tailN j:Int) = digC c j:=by unfold tailN digC; rw [if_neg hj0,if_neg hj0]; omega
   have hd0:44≤digC c j∧digC c j≤47:=by unfold digC; rw [if_neg hj0]; omega
   unfold aJ
   rw [dec_t q0]
   dsimp only
   rw [dec_f q0,hd,w6 (x:=base + digC c j),dec_t (by simp; omega),w6 (x:=digC c j + 1)]
   have hn:(bif decide (47 < digC c j + 1) then (47:Int) else digC c j + 1) = tailN (j + 1):=by
    unfold digC tailN
    rw [if_neg hj0,if_neg q0]
    by_cases h:(47:Int) < min (43 + (j:Int)) 47 + 1
    ·rw [dec_t h]; omega
    ·rw [dec_f h]; omega
   rw [hn,List.append_assoc]
   congr 1
   have e5:((c - 1 - j:Nat):Int) - 1 = (c:Int) - 1 - ((j + 1:Nat):Int):=by omega
   rw [e5]
   rfl
 ·simp only [ic,nW]
  rw [dec_f q0]
theorem events_ok {base:Int} (hb:0≤base) (hb2:base≤100000) {o:Bool} {n:Int} (h0: -1048576≤n) (h1:n≤1048576) {K:List (Int×Int)→OA}:fE fl base o n K = K (numEv base o n):=by
 unfold fE pz numEv
 cases o with
 | true=>rfl
 | false=>
 have hm:(bif decide (IntKind.i64.wrap (0 - n) > n) then IntKind.i64.wrap (0 - n) else n) = ((n.natAbs:Nat):Int):=by
  rw [wrap64 q0 q0]
  by_cases h:0 - n > n
  ·rw [dec_t h]; omega
  ·rw [dec_f h]; omega
 rw [cond_false,hm,if_neg (by simp)]
 have hv0:0 < n.natAbs + 1:=by omega
 have hv1:n.natAbs + 1≤1048577:=by omega
 have hz:(n = 0) = (n.natAbs + 1 = 1):=by apply propext; omega
 have e1:((n.natAbs:Nat):Int) + 1 = ((n.natAbs + 1:Nat):Int):=by omega
 rw [e1]
 generalize hv:n.natAbs + 1 = v at *
 have hc:=blen_pos hv0
 have hc20:=blen_le (v:=v) (n:=21) q0
 unfold cg yL
 rw [w6 (x:=(v:Int)),wrapU (x:=(v:Int)) q0 q0,len64 q0,hc]
 try dsimp only
 rw [hc] at hc20
 have e2:IntKind.i64.wrap (((Nat.log2 v + 1:Nat):Int) - 1) = ((Nat.log2 v:Nat):Int):=by rw [wrap64 q0 q0]; omega
 rw [e2]
 generalize hcc:Nat.log2 v = c at *
 unfold AP
 refine iter_seq (step:=iH fl) (fun i:Nat=>(base,(v:Int),(c:Int),(c:Int),(i:Int),false,n,(base,0)::onesEv base i)) c rfl (fun i hi k=> ?_) (fun k=> ?_) q0
 ·have hl:=onesEv_len base i
  simp only [iH,mB]
  rw [dec_t q0,w6 (x:=base + 1),w6 (x:=base + 1 + (i:Int)),dec_t (by simp; omega),w6 (x:=(i:Int) + 1)]
  rfl
 ·have hl:=onesEv_len base c
  have hdl:=digEv_len base v c c
  simp only [iH,mB]
  rw [dec_f q0]
  have tail:∀ L:List (Int×Int),L.length≤200→(bif n != 0 then
       (bif decide (n < 0) then
        (bif decide ((L.length + [(IntKind.i64.wrap (base + 22),(1:Int))].length) * (16:Nat)≤(140737488355328:Nat)∧L.length + [(IntKind.i64.wrap (base + 22),(1:Int))].length≤(140737488355328:Nat)) then
        K (L++ [(IntKind.i64.wrap (base + 22),1)])
        else none)
       else
        (bif decide ((L.length + [(IntKind.i64.wrap (base + 22),(0:Int))].length) * (16:Nat)≤(140737488355328:Nat)∧L.length + [(IntKind.i64.wrap (base + 22),(0:Int))].length≤(140737488355328:Nat)) then
        K (L++ [(IntKind.i64.wrap (base + 22),0)])
        else none))
       else
       K L) = K (L++if n = 0 then [] else [(base + 22,if n < 0 then 1 else 0)]):=by
   intro L hL
   rw [w6 (x:=base + 22),cn]
   by_cases hn:n = 0
   ·rw [if_pos hn,if_pos hn,List.append_nil]
   ·rw [if_neg hn,if_neg hn]
    by_cases hneg:n < 0
    ·rw [dec_t hneg,dec_t (by simp; omega),if_pos hneg]
    ·rw [dec_f hneg,dec_t (by simp; omega),if_neg hneg]
  by_cases h20:c < 20
  ·rw [dec_t q0,w6 (x:=base + 1),w6 (x:=base + 1 + (c:Int)),dec_t (by simp; omega),dig_loop hfl hb hb2 hv1 q0 (by simp; omega)]
   dsimp only
   rw [tail _ (by simp; omega),if_pos h20]
   try rfl
  ·rw [dec_f q0,dig_loop hfl hb hb2 hv1 q0 (by simp; omega)]
   dsimp only
   rw [tail _ (by simp; omega),if_neg h20,List.append_nil]
theorem nput_ok {kd:Int} {x:Iv} (h:x.Ok kd) {l:List (Int×Int)} (he:Evs x.st.length l) (hll:l.length≤1000000) {out:List Int} (ho:out.length≤900000000) {K:Int×Int×Int×Int×Bool×List Int×List Int→OA}:
  bU fl l kd x.lo x.hi true x.st out K = K (0,kd,(run kd x out l).1.lo,(run kd x out l).1.hi,true,(run kd x out l).1.st,(run kd x out l).2):=by
 unfold bU sN D7
 refine iter_seq (step:=iM fl) (fun i:Nat=>(l,(l.length:Int),(i:Int),kd,(run kd x out (l.take i)).1.lo,(run kd x out (l.take i)).1.hi,true,(run kd x out (l.take i)).1.st,(run kd x out (l.take i)).2)) l.length rfl (fun i hi c=> ?_) (fun c=> ?_) q0
 ·have hm:=he _ (getD_mem hi (0,0))
  have he':Evs x.st.length (l.take i):=fun e he2=>he e (List.mem_of_mem_take he2)
  obtain ⟨ok,okl⟩:=run_ok (l.take i) (out:=out) h he'
  have hol:=run_len_le (l.take i) (kd:=kd) (x:=x) (out:=out)
  have htl:(l.take i).length≤1000000:=by rw [List.length_take]; omega
  simp only [iM,nz]
  rw [take_succ_getD hi (0,0),run_append]
  generalize run kd x out (l.take i) = R at *
  obtain ⟨X,O⟩:=R
  simp only at ok okl hol ⊢
  rw [dec_t q0,dec_t q0,Int.toNat_natCast,put_ok hfl ok hm.1 (by rw [okl]; exact hm.2.1) hm.2.2 q0]
  dsimp only
  rw [cond_f (b:=(0:Int) != 0) rfl,wrap64 q0 q0]
  rfl
 ·simp only [iM,nz]
  rw [dec_f q0,List.take_length]
end
theorem digEv_evs {base:Int} {v c n:Nat} (h0:0≤base) (h1:base + 48≤(n:Int)) (hc:c≤20):∀ j,Evs n (digEv base v c j)
 | 0=>fun e he=>by cases he
 | j + 1=>fun e he=>by
  rcases List.mem_append.1 he with he | he
  ·exact digEv_evs h0 h1 hc j e he
  ·rw [List.mem_singleton] at he
   subst he
   have:0≤digC c j∧digC c j≤47:=by unfold digC; split <;> omega
   exact ⟨by simp only; omega,by simp only; omega,by simp only; omega⟩
theorem onesEv_evs {base:Int} {n:Nat} (h0:0≤base) (h1:base + 48≤(n:Int)):∀ c,c≤20→Evs n (onesEv base c)
 | 0,_=>fun e he=>by cases he
 | c + 1,hc=>fun e he=>by
  rcases List.mem_append.1 he with he | he
  ·exact onesEv_evs h0 h1 c q0 e he
  ·rw [List.mem_singleton] at he
   subst he
   exact ⟨by simp only; omega,by simp only; omega,.inr rfl⟩
theorem Evs.app {n:Nat} {a b:List (Int×Int)} (ha:Evs n a) (hb:Evs n b):Evs n (a++b):=fun e he=>by
 rcases List.mem_append.1 he with he | he
 ·exact ha e he
 ·exact hb e he
theorem Evs.one {n:Nat} {c b:Int} (h0:0≤c) (h1:c < (n:Int)) (hb:b = 0∨b = 1):Evs n [(c,b)]:=fun e he=>by
 rw [List.mem_singleton] at he
 subst he
 exact ⟨h0,h1,hb⟩
theorem Evs.nil (n:Nat):Evs n []:=fun e he=>by cases he
theorem numEv_ok {base:Int} {n:Nat} (h0:0≤base) (h1:base + 48≤(n:Int)) (o:Bool) {v:Int} (hv0: -1048576≤v) (hv1:v≤1048576):Evs n (numEv base o v)∧(numEv base o v).length≤50:=by
 unfold numEv
 cases o with
 | true=>exact ⟨Evs.one h0 q0 (.inr rfl),by simp⟩
 | false=>
 rw [if_neg (by simp)]
 have hc:Nat.log2 (v.natAbs + 1)≤20:=by
  have:=(Nat.log2_lt (n:=v.natAbs + 1) (k:=21) q0).2 q0
  omega
 generalize Nat.log2 (v.natAbs + 1) = c at *
 have h22:Evs n (if v = 0 then [] else [(base + 22,if v < 0 then (1:Int) else 0)]):=by
  split
  ·exact Evs.nil n
  ·refine Evs.one q0 q0 ?_
   split
   ·exact .inr rfl
   ·exact .inl rfl
 have h20:Evs n (if c < 20 then [(base + 1 + (c:Int),(0:Int))] else []):=by
  split
  ·exact Evs.one q0 q0 (.inl rfl)
  ·exact Evs.nil n
 refine ⟨Evs.app (Evs.app (Evs.app (Evs.app (a:=[(base,0)]) (Evs.one h0 q0 (.inl rfl)) (onesEv_evs h0 h1 c hc)) h20) (digEv_evs h0 h1 hc c)) h22, ?_⟩
 have a:=onesEv_len base c
 have b:=digEv_len base (v.natAbs + 1) c c
 have d:(if v = 0 then [] else [(base + 22,if v < 0 then (1:Int) else 0)]).length≤1:=by split <;> simp
 have e:(if c < 20 then [(base + 1 + (c:Int),(0:Int))] else []).length≤1:=by split <;> simp
 simp only [List.length_append,List.length_cons]
 omega
theorem idEv_len (base:Int) (k id:Nat):∀ j,(idEv base k id j).length = j
 | 0=>rfl
 | j + 1=>by rw [idEv,List.length_append,idEv_len base k id j]; rfl
theorem idEv_evs {base:Int} {n k id:Nat} (h0:0≤base) (h1:base + 2 ^ k - 1≤(n:Int)) (hid:id < 2 ^ k):∀ j,j≤k→Evs n (idEv base k id j)
 | 0,_=>fun e he=>by cases he
 | j + 1,hj=>fun e he=>by
  rcases List.mem_append.1 he with he | he
  ·exact idEv_evs h0 h1 hid j q0 e he
  ·rw [List.mem_singleton] at he
   subst he
   have hp:0 < 2 ^ j:=Nat.pow_pos q0
   have e1:2 ^ k = 2 ^ j * 2 ^ (k - j):=by rw [← Nat.pow_add]; congr 1; omega
   have h2:id / 2 ^ (k - j) < 2 ^ j:=(Nat.div_lt_iff_lt_mul (Nat.pow_pos q0)).2 (by rw [← e1]; exact hid)
   have h3:2 ^ (j + 1)≤2 ^ k:=Nat.pow_le_pow_right q0 hj
   have h3':2 ^ j + 2 ^ j≤2 ^ k:=by rw [Nat.pow_succ] at h3; omega
   have h4:((2 ^ k:Nat):Int) = (2:Int) ^ k:=by rw [Int.natCast_pow]; rfl
   rw [← h4] at h1
   clear e1
   generalize id / 2 ^ (k - j) = u at *
   generalize id / 2 ^ (k - 1 - j) = u2 at *
   generalize 2 ^ k = P at *
   generalize 2 ^ j = Q at *
   exact ⟨by simp only; omega,by simp only; omega,by simp only; omega⟩
section
variable {fl:Nat} (hfl:9223372036854775808≤fl)
include hfl
theorem Put_ok {kd:Int} {x:Iv} (h:x.Ok kd) (hn:x.st.length≤8192) {base:Int} (hb:0≤base) (hb2:base + 48≤(x.st.length:Int)) {o:Bool} {n:Int} (hon:o = true→n = 0) (h0: -1048576≤n) (h1:n≤1048576) {out:List Int} (ho:out.length≤900000000)
  {K:Int×Int×Int×Int×Bool×List Int×List Int→OA}:
  bx fl base o n kd x.lo x.hi true x.st out K = K (0,kd,(run kd x out (numEv base o n)).1.lo,(run kd x out (numEv base o n)).1.hi,true,(run kd x out (numEv base o n)).1.st,(run kd x out (numEv base o n)).2):=by
 obtain ⟨he,hl⟩:=numEv_ok hb hb2 o h0 h1
 unfold bx
 rw [put_bad]
 dsimp only
 have hv:dO fl o n = fun K=>K true:=by
  funext K
  unfold dO
  cases o with
  | true=>rw [cond_true,hon rfl]; rfl
  | false=>rw [cond_false,dec_t q0,decide_eq_true q0]
 rw [cond_f (b:=(2:Int)==7) rfl,hv]
 dsimp only
 rw [cond_f (b:=!true) rfl,emodel_ok q0]
 dsimp only
 unfold au
 rw [dec_f q0,w6 (x:=(x.st.length:Int) - 48),dec_f q0]
 dsimp only
 rw [cond_f (b:=(0:Int) != 0) rfl,events_ok hfl hb q0 h0 h1,nput_ok hfl h he q0 ho]
theorem PutId_ok {kd:Int} {x:Iv} (h:x.Ok kd) (hn:x.st.length≤8192) {base:Int} (hb:0≤base) {k id:Nat} (hk:k≤10) (hid:id < 2 ^ k) (hb2:base + 2 ^ k - 1≤(x.st.length:Int)) {out:List Int} (ho:out.length≤900000000)
  {K:Int×Int×Int×Int×Bool×List Int×List Int→OA}:
  dq fl base (k:Int) (id:Int) kd x.lo x.hi true x.st out K = K (0,kd,(run kd x out (idEv base k id k)).1.lo,(run kd x out (idEv base k id k)).1.hi,true,(run kd x out (idEv base k id k)).1.st,(run kd x out (idEv base k id k)).2):=by
 have he:=idEv_evs hb hb2 hid k (Nat.le_refl _)
 have hl:=idEv_len base k id k
 have hp:0 < 2 ^ k:=Nat.pow_pos q0
 have hp2:2 ^ k≤2 ^ 10:=Nat.pow_le_pow_right q0 hk
 have e2:(2:Int) ^ k = ((2 ^ k:Nat):Int):=by rw [Int.natCast_pow]; rfl
 have es:ishl .i64 1 (k:Int) = ((2 ^ k:Nat):Int):=by rw [ishl_one q0 q0,Int.toNat_natCast,e2]
 rw [e2] at hb2
 unfold dq
 rw [put_bad]
 dsimp only
 rw [cond_f (b:=(2:Int)==7) rfl,dec_f q0,dec_f q0,dec_f q0,dec_f q0,es,dec_f q0,dec_f q0,emodel_ok q0]
 dsimp only
 unfold au
 rw [w6 (x:=((2 ^ k:Nat):Int) - 1),dec_f q0,w6 (x:=(x.st.length:Int) - _),dec_f q0]
 dsimp only
 rw [cond_f (b:=(0:Int) != 0) rfl]
 unfold jc
 refine iter_seq (step:=gO fl) (fun j:Nat=>(base,(id:Int),((2 ^ j + id / 2 ^ (k - j):Nat):Int),(k:Int) - 1 - (j:Int),kd,x.lo,x.hi,true,x.st,out,idEv base k id j)) k (by
  rw [wrap64 q0 q0,Nat.sub_zero,Nat.div_eq_of_lt hid]
  simp [idEv]) (fun j hj c=> ?_) (fun c=> ?_) q0
 ·have hjl:=idEv_len base k id j
  have e:(k:Int) - 1 - (j:Int) = ((k - 1 - j:Nat):Int):=by omega
  have e1:2 ^ k = 2 ^ j * 2 ^ (k - j):=by rw [← Nat.pow_add]; congr 1; omega
  have h2:id / 2 ^ (k - j) < 2 ^ j:=(Nat.div_lt_iff_lt_mul (Nat.pow_pos q0)).2 (by rw [← e1]; exact hid)
  have h3:2 ^ j≤2 ^ k:=Nat.pow_le_pow_right q0 q0
  have e3:id / 2 ^ (k - 1 - j) = 2 * (id / 2 ^ (k - j)) + id / 2 ^ (k - 1 - j) % 2:=by
   rw [show k - j = (k - 1 - j) + 1 by omega,Nat.pow_succ, ← Nat.div_div_eq_div_mul]
   omega
  simp only [gO,lr]
  rw [w6 (x:=(k:Int) - 1 - (j:Int) - 1),e,bit_nat q0 q0,dec_t q0,dec_f q0,w6 (x:=base + _),w6 (x:=base + _ - 1),dec_t (by simp; omega),w6 (x:=2 * _),wrap64 q0 q0]
  congr 1
  have e4:2 * ((2 ^ j + id / 2 ^ (k - j):Nat):Int) + ((id / 2 ^ (k - 1 - j) % 2:Nat):Int) = ((2 ^ (j + 1) + id / 2 ^ (k - (j + 1)):Nat):Int):=by
   rw [show k - (j + 1) = k - 1 - j by omega,Nat.pow_succ]
   clear es e2 hb2 he hid e1
   generalize id / 2 ^ (k - j) = u at *
   generalize id / 2 ^ (k - 1 - j) = u2 at *
   generalize 2 ^ j = Q at *
   omega
  have e5:((k - 1 - j:Nat):Int) - 1 = (k:Int) - 1 - ((j + 1:Nat):Int):=by omega
  rw [e4,e5]
  rfl
 ·simp only [gO,lr]
  rw [dec_f q0,nput_ok hfl h he q0 ho]
end
end Go.Proofs.YtohnjbmiaegofaaGreat.Dc
namespace Go.Proofs.YtohnjbmiaegofaaGreat.Gen
open Go Ev Bm Co
def skb (sp:List Int) (i:Nat):Bool:=decide (sp.getD i 0 = 1)
def Sk (w h:Int) (sp:List Int):Prop:=sp = []∨(sp.length:Int) = w * h
theorem skips_ok {fl:Nat} {w h sw sh:Int} {sp:List Int} (hs:Sk w h sp) {i:Nat} (hi:(i:Int) < w * h) {K:Bool→OA}:ah fl sw sh sp (i:Int) K = K (skb sp i):=by
 unfold ah skb
 rcases hs with rfl | hs
 ·rw [dec_f (by simp)]
  try rfl
 ·rw [dec_t q0,dec_t q0,Int.toNat_natCast]
  congr 1
theorem place_nat {w h:Int} {x y:Nat} (hx:(x:Int) < w) (hy:(y:Int) < h):((y * w.toNat + x:Nat):Int) = (y:Int) * w + x∧(y:Int) * w + x < w * h∧(y:Int) * w + w≤w * h:=by
 have hp:=place (w:=w) (h:=h) (x:=x) (y:=y) ⟨by omega,by omega,hx,hy⟩
 have hw:((w.toNat:Nat):Int) = w:=by omega
 refine ⟨by rw [Int.natCast_add,Int.natCast_mul,hw],hp.2, ?_⟩
 have:((y:Int) + 1) * w≤h * w:=Int.mul_le_mul_of_nonneg_right q0 q0
 rw [Int.add_mul,Int.one_mul,Int.mul_comm h w] at this
 exact this
theorem px_in {w h:Int} {p:List Int} {x y:Nat} (hx:(x:Int) < w) (hy:(y:Int) < h):px w h p (x:Int) (y:Int) = p.getD (y * w.toNat + x) 0:=by
 unfold px
 rw [if_pos ⟨by omega,by omega,hx,hy⟩]
 congr 1
 have:=(place_nat hx hy).1
 omega
section
variable (t ax ay base w h:Int) (ty:Bool) (p sp:List Int)
def pixEv (y x:Nat):List (Int×Int):=if skb sp (y * w.toNat + x) = true then [] else [(base + ctxv w h p (x:Int) (y:Int) (around t ax ay),p.getD (y * w.toNat + x) 0)]
def pixEvs (y:Nat):Nat→List (Int×Int)
 | 0=>[]
 | n + 1=>pixEvs y n++pixEv t ax ay base w h p sp y n
def aboveL (y:Nat):List Int:=(List.range w.toNat).map fun x=>if skb sp (y * w.toNat + x) = true then 0 else px w h p (x:Int) ((y:Int) - 1)
def rowL (y:Nat):List Int:=(p.drop (y * w.toNat)).take w.toNat
def tb (y:Nat):Bool:=(strOfNums (aboveL w h p sp y)).toList==(strOfNums (rowL w p y)).toList
def rowEv (y:Nat):List (Int×Int):=
 if ty = true then (if tb w h p sp y = true then [(base + (size t - 1),1)] else (base + (size t - 1),0)::pixEvs t ax ay base w h p sp y w.toNat) else pixEvs t ax ay base w h p sp y w.toNat
def allEv:Nat→List (Int×Int)
 | 0=>[]
 | y + 1=>allEv y++rowEv t ax ay base w h ty p sp y
end
structure Reg (t ax ay kd base w h:Int) (p sp:List Int) (n:Nat):Prop where
 v:vr t ax ay kd = true
 p:Pix w h p
 s:Sk w h sp
 b0:0≤base
 b1:base + size t≤(n:Int)
theorem around_near {t ax ay kd:Int} (hv:vr t ax ay kd = true):∀ d ∈ around t ax ay, -8≤d.1∧d.1≤8∧ -8≤d.2∧d.2≤0:=by
 obtain ⟨_,_,_,v1,v2,v3,v4,_⟩:=vr_iff.1 hv
 intro d hd
 unfold around at hd
 rcases List.mem_append.1 hd with hd | hd
 ·exact tpl_near t d hd
 ·simp at hd; subst hd; exact ⟨v1,v2,v3,v4⟩
theorem around_le (t ax ay:Int):(around t ax ay).length≤11:=by have:=tpl_len t; rw [around_len]; omega
theorem ctx_rg {w h:Int} {p:List Int} (h0:∀ v ∈ p,0≤v∧v≤1) (t ax ay x y:Int):0≤ctxv w h p x y (around t ax ay)∧ctxv w h p x y (around t ax ay) < size t - 1:=by
 have:=ctxv_lt (w:=w) (h:=h) (x:=x) (y:=y) h0 (around t ax ay).length (Nat.le_refl _)
 rw [List.take_length,around_len] at this
 unfold size
 omega
theorem getD_01 {p:List Int} (h0:∀ v ∈ p,0≤v∧v≤1) (i:Nat):p.getD i 0 = 0∨p.getD i 0 = 1:=by
 by_cases hi:i < p.length
 ·have:=h0 _ (getD_mem hi 0)
  omega
 ·rw [List.getD_eq_getElem?_getD,List.getElem?_eq_none q0]
  exact .inl rfl
theorem pixEv_ok {t ax ay kd base w h:Int} {p sp:List Int} {n:Nat} (hr:Reg t ax ay kd base w h p sp n) (y x:Nat):Evs n (pixEv t ax ay base w h p sp y x)∧(pixEv t ax ay base w h p sp y x).length≤1:=by
 unfold pixEv
 split
 ·exact ⟨fun e he=>by simp at he,by simp⟩
 ·refine ⟨fun e he=> ?_,by simp⟩
  rw [List.mem_singleton] at he
  subst he
  have c:=ctx_rg hr.p.bit (w:=w) (h:=h) t ax ay x y
  have:=hr.b0
  have:=hr.b1
  exact ⟨by omega,by omega,getD_01 hr.p.bit _⟩
theorem Evs.append {n:Nat} {a b:List (Int×Int)} (ha:Evs n a) (hb:Evs n b):Evs n (a++b):=fun e he=>by
 rcases List.mem_append.1 he with he | he
 ·exact ha e he
 ·exact hb e he
theorem pixEvs_ok {t ax ay kd base w h:Int} {p sp:List Int} {n:Nat} (hr:Reg t ax ay kd base w h p sp n) (y:Nat):∀ m,Evs n (pixEvs t ax ay base w h p sp y m)∧(pixEvs t ax ay base w h p sp y m).length≤m
 | 0=>⟨fun e he=>(by cases he),Nat.le_refl _⟩
 | m + 1=>by
  obtain ⟨a,b⟩:=pixEvs_ok hr y m
  obtain ⟨c,d⟩:=pixEv_ok hr y m
  refine ⟨Evs.append a c, ?_⟩
  rw [pixEvs,List.length_append]
  omega
theorem rowEv_ok {t ax ay kd base w h:Int} {p sp:List Int} {n:Nat} (hr:Reg t ax ay kd base w h p sp n) (ty:Bool) (y:Nat):Evs n (rowEv t ax ay base w h ty p sp y)∧(rowEv t ax ay base w h ty p sp y).length≤w.toNat + 1:=by
 obtain ⟨a,b⟩:=pixEvs_ok hr y w.toNat
 have sz:=size_eq (t:=t)
 have:=hr.b0
 have:=hr.b1
 unfold rowEv
 split
 ·split
  ·exact ⟨fun e he=>by rw [List.mem_singleton] at he; subst he; exact ⟨by simp only; omega,by simp only; omega,.inr rfl⟩,by simp⟩
  ·refine ⟨fun e he=> ?_,by simp; omega⟩
   rcases List.mem_cons.1 he with rfl | he
   ·exact ⟨by simp only; omega,by simp only; omega,.inl rfl⟩
   ·exact a e he
 ·exact ⟨a,by omega⟩
theorem allEv_ok {t ax ay kd base w h:Int} {p sp:List Int} {n:Nat} (hr:Reg t ax ay kd base w h p sp n) (ty:Bool):∀ m,Evs n (allEv t ax ay base w h ty p sp m)∧(allEv t ax ay base w h ty p sp m).length≤(w.toNat + 1) * m
 | 0=>⟨fun e he=>(by cases he),Nat.zero_le _⟩
 | m + 1=>by
  obtain ⟨a,b⟩:=allEv_ok hr ty m
  obtain ⟨c,d⟩:=rowEv_ok hr ty m
  refine ⟨Evs.append a c, ?_⟩
  rw [allEv,List.length_append,Nat.mul_add]
  omega
theorem put_pix {fl:Nat} (hfl:9223372036854775808≤fl) {t ax ay kd base w h:Int} {p sp:List Int} {kx:Int} {x:Iv} (hx:x.Ok kx) (hr:Reg t ax ay kd base w h p sp x.st.length) (hn:x.st.length≤8192) {out:List Int} (ho:out.length≤500000000) {ty:Bool} {sw sh:Int} {y:Nat} (hy:(y:Int) < h) {K}:
  jr fl (base,(y:Int),h,(y:Int),w,0,kx,x.lo,x.hi,true,x.st,out,t,ax,ay,ty,kd,w,h,p,sw,sh,sp,w,h,p,around t ax ay) K
  = K (base,h,(y:Int),kx,(run kx x out (pixEvs t ax ay base w h p sp y w.toNat)).1.lo,(run kx x out (pixEvs t ax ay base w h p sp y w.toNat)).1.hi,true,(run kx x out (pixEvs t ax ay base w h p sp y w.toNat)).1.st,(run kx x out (pixEvs t ax ay base w h p sp y w.toNat)).2,t,ax,ay,ty,kd,w,h,p,sw,sh,sp,w,h,p,around t ax ay):=by
 have hw0:=hr.p.w0; have hw1:=hr.p.w1; have hh1:=hr.p.h1; have hwh:=hr.p.n; have hlen:=hr.p.len
 unfold jr
 refine iter_to (step:=gH fl) (fun i:Nat=>(base,(y:Int),h,(y:Int),w,(i:Int),kx,(run kx x out (pixEvs t ax ay base w h p sp y i)).1.lo,(run kx x out (pixEvs t ax ay base w h p sp y i)).1.hi,true,(run kx x out (pixEvs t ax ay base w h p sp y i)).1.st,(run kx x out (pixEvs t ax ay base w h p sp y i)).2,t,ax,ay,ty,kd,w,h,p,sw,sh,sp,w,h,p,around t ax ay)) w.toNat (fun i hi c=> ?_) (fun c=> ?_) q0
 ·obtain ⟨p1,p2,p3⟩:=place_nat (w:=w) (h:=h) (x:=i) (y:=y) q0 hy
  have hyw:0≤(y:Int) * w:=Int.mul_nonneg q0 hw0
  obtain ⟨e1,e2⟩:=pixEvs_ok hr y i
  obtain ⟨g1,g2⟩:=pixEv_ok hr y i
  obtain ⟨ok,okl⟩:=run_ok (pixEvs t ax ay base w h p sp y i) (out:=out) hx e1
  have hol:=run_len_le (pixEvs t ax ay base w h p sp y i) (kd:=kx) (x:=x) (out:=out)
  have er:run kx x out (pixEvs t ax ay base w h p sp y (i + 1)) = run kx (run kx x out (pixEvs t ax ay base w h p sp y i)).1 (run kx x out (pixEvs t ax ay base w h p sp y i)).2 (pixEv t ax ay base w h p sp y i):=run_append kx _ _ _ _
  simp only [gH,nA]
  rw [er]
  generalize run kx x out (pixEvs t ax ay base w h p sp y i) = R at *
  obtain ⟨X,O⟩:=R
  simp only at ok okl hol ⊢
  rw [dec_t q0,w6 (x:=(y:Int) * w),w6 (x:=(y:Int) * w + (i:Int)), ← p1,skips_ok hr.s q0,w6 (x:=(i:Int) + 1)]
  unfold pixEv at g1 ⊢
  by_cases hsk:skb sp (y * w.toNat + i) = true
  ·rw [hsk,cond_f (b:=!true) rfl,if_pos rfl]
   rfl
  ·have hsk:=Bool.eq_false_iff.2 hsk
   rw [hsk] at g1 ⊢
   rw [if_neg (by simp)] at g1
   obtain ⟨c0,c1,c2⟩:=g1 _ (List.mem_singleton.2 rfl)
   simp only at c0 c1 c2
   rw [cond_t (b:=!false) rfl,if_neg (by simp),dec_t q0,gcontext hfl hr.p q0 q0 (around_le t ax ay) (around_near hr.v),Int.toNat_natCast]
   dsimp only
   have hb:=getD_01 hr.p.bit (y * w.toNat + i)
   rw [w6 (x:=base + _),w6 (x:=p.getD (y * w.toNat + i) 0),Co.put_ok hfl ok c0 q0 c2 q0]
   rfl
 ·simp only [gH,nA]
  rw [dec_f q0]
theorem fillL_skip {u:Nat→Int} {n i:Nat} (h:u i = 0):fillL u n i = fillL u n (i + 1):=by
 apply List.ext_getElem (by simp [fillL])
 intro j h1 h2
 simp only [fillL,List.getElem_map,List.getElem_range]
 by_cases hj:j < i
 ·rw [if_pos hj,if_pos q0]
 ·rw [if_neg hj]
  by_cases hji:j = i
  ·subst hji
   rw [if_pos q0,h]
  ·rw [if_neg q0]
theorem above_ok {fl:Nat} (hfl:9223372036854775808≤fl) {w h:Int} {p sp:List Int} (hp:Pix w h p) (hs:Sk w h sp) {sw sh:Int} {y:Nat} (hy:(y:Int) < h) {l:List (Int×Int)} {K}:
  cM fl (y:Int) sw sh sp w h p l K = K (w,h,p,l,aboveL w h p sp y):=by
 have hw0:=hp.w0; have hw1:=hp.w1; have hh1:=hp.h1; have hwh:=hp.n
 unfold cM vc Bl
 rw [dec_t (by refine ⟨by omega, ?_,by omega,by omega⟩; first | rfl | trivial)]
 generalize hu:(fun x:Nat=>if skb sp (y * w.toNat + x) = true then (0:Int) else px w h p (x:Int) ((y:Int) - 1)) = u
 refine iter_seq (step:=gK fl) (fun i:Nat=>((y:Int),w,(i:Int),w,h,p,l,sw,sh,sp,fillL u w.toNat i)) w.toNat (by
  rw [fillL_zero,List.length_replicate]
  simp
  omega) (fun i hi c=> ?_) (fun c=> ?_) q0
 ·obtain ⟨p1,p2,p3⟩:=place_nat (w:=w) (h:=h) (x:=i) (y:=y) q0 hy
  have hyw:0≤(y:Int) * w:=Int.mul_nonneg q0 hw0
  have hui:u i = if skb sp (y * w.toNat + i) = true then (0:Int) else px w h p (i:Int) ((y:Int) - 1):=by rw [← hu]
  simp only [gK,me]
  rw [dec_t q0,w6 (x:=(y:Int) * w),w6 (x:=(y:Int) * w + (i:Int)), ← p1,skips_ok hs q0,w6 (x:=(i:Int) + 1),w6 (x:=(y:Int) - 1)]
  cases hsk:skb sp (y * w.toNat + i) with
  | true=>
   rw [cond_f (b:=!true) rfl]
   rw [hsk,if_pos rfl] at hui
   rw [fillL_skip hui]
   rfl
  | false=>
   rw [hsk,if_neg (by simp)] at hui
   rw [cond_t (b:=!false) rfl,gat hp]
   dsimp only
   rw [fillL_len,dec_t q0,Int.toNat_natCast, ← hui,fillL_set]
   rfl
 ·simp only [gK,me]
  rw [dec_f q0,fillL_all, ← hu]
  rfl
theorem row_slice {w h:Int} {p:List Int} (hp:Pix w h p) {y:Nat} (hy:(y:Int) < h):
  List.take (hiOf (some (((y:Int) + 1) * w)) (p.length:Int) - loOf (some ((y:Int) * w))).toNat (List.drop (loOf (some ((y:Int) * w))).toNat p) = rowL w p y:=by
 have hw0:=hp.w0
 have hyw:0≤(y:Int) * w:=Int.mul_nonneg q0 hw0
 have e:((y:Int) + 1) * w - (y:Int) * w = w:=by rw [Int.add_mul,Int.one_mul]; omega
 have e2:((y:Int) * w).toNat = y * w.toNat:=by
  have:((y * w.toNat:Nat):Int) = (y:Int) * w:=by rw [Int.natCast_mul]; congr 1; omega
  omega
 show List.take (((y:Int) + 1) * w - (y:Int) * w).toNat (List.drop ((y:Int) * w).toNat p) = _
 rw [e,e2]
 rfl
theorem put_all {fl:Nat} (hfl:9223372036854775808≤fl) {t ax ay kd base w h:Int} {p sp:List Int} {kx:Int} {x:Iv} (hx:x.Ok kx) (hr:Reg t ax ay kd base w h p sp x.st.length) (hn:x.st.length≤8192) {out:List Int} (ho:out.length≤300000000) {ty:Bool} {sw sh:Int} {K}:
  se fl (base,h,0,kx,x.lo,x.hi,true,x.st,out,t,ax,ay,ty,kd,w,h,p,sw,sh,sp,w,h,p,around t ax ay) K
  = K (kx,(run kx x out (allEv t ax ay base w h ty p sp h.toNat)).1.lo,(run kx x out (allEv t ax ay base w h ty p sp h.toNat)).1.hi,true,(run kx x out (allEv t ax ay base w h ty p sp h.toNat)).1.st,(run kx x out (allEv t ax ay base w h ty p sp h.toNat)).2):=by
 have hw0:=hr.p.w0; have hw1:=hr.p.w1; have hh0:=hr.p.h0; have hh1:=hr.p.h1; have hwh:=hr.p.n; have hlen:=hr.p.len
 have sz:=size_eq (t:=t)
 have hb0:=hr.b0; have hb1:=hr.b1
 unfold se
 refine iter_to (step:=gG fl) (fun i:Nat=>(base,h,(i:Int),kx,(run kx x out (allEv t ax ay base w h ty p sp i)).1.lo,(run kx x out (allEv t ax ay base w h ty p sp i)).1.hi,true,(run kx x out (allEv t ax ay base w h ty p sp i)).1.st,(run kx x out (allEv t ax ay base w h ty p sp i)).2,t,ax,ay,ty,kd,w,h,p,sw,sh,sp,w,h,p,around t ax ay)) h.toNat (fun y hi c=> ?_) (fun c=> ?_) q0
 ·have hy:(y:Int) < h:=by omega
  have hyw:0≤(y:Int) * w:=Int.mul_nonneg q0 hw0
  have hyw2:((y:Int) + 1) * w≤h * w:=Int.mul_le_mul_of_nonneg_right q0 q0
  rw [Int.mul_comm h w] at hyw2
  have hyw3:((y:Int) + 1) * w = (y:Int) * w + w:=by rw [Int.add_mul,Int.one_mul]
  obtain ⟨e1,e2⟩:=allEv_ok hr ty y
  have e2':(allEv t ax ay base w h ty p sp y).length≤201 * 200:=Nat.le_trans e2 (Nat.mul_le_mul q0 q0)
  obtain ⟨ok,okl⟩:=run_ok (allEv t ax ay base w h ty p sp y) (out:=out) hx e1
  have hol:=run_len_le (allEv t ax ay base w h ty p sp y) (kd:=kx) (x:=x) (out:=out)
  have er:run kx x out (allEv t ax ay base w h ty p sp (y + 1)) = run kx (run kx x out (allEv t ax ay base w h ty p sp y)).1 (run kx x out (allEv t ax ay base w h ty p sp y)).2 (rowEv t ax ay base w h ty p sp y):=run_append kx _ _ _ _
  simp only [gG,lM]
  rw [er]
  generalize run kx x out (allEv t ax ay base w h ty p sp y) = R at *
  obtain ⟨X,O⟩:=R
  simp only at ok okl hol ⊢
  have hrX:Reg t ax ay kd base w h p sp X.st.length:=⟨hr.v,hr.p,hr.s,hr.b0,by rw [okl]; exact hr.b1⟩
  rw [dec_t q0,w6 (x:=(y:Int) + 1),w6 (x:=(y:Int) * w),w6 (x:=((y:Int) + 1) * w)]
  unfold rowEv
  cases ty with
  | false=>
   rw [cond_false,if_neg (by simp),put_pix hfl ok hrX q0 q0 hy]
   dsimp only
   rw [w6 (x:=(y:Int) + 1)]
   rfl
  | true=>
   rw [cond_true,if_pos rfl,dec_t (show (0:Int)≤loOf (some ((y:Int) * w))∧loOf (some ((y:Int) * w))≤hiOf (some (((y:Int) + 1) * w)) (p.length:Int)∧hiOf (some (((y:Int) + 1) * w)) (p.length:Int)≤(p.length:Int) by simp only [loOf_some,hiOf_some]; omega),above_ok hfl hr.p hr.s hy,row_slice hr.p hy]
   dsimp only
   unfold dd
   have htb:((strOfNums (aboveL w h p sp y)).toList==(strOfNums (rowL w p y)).toList) = tb w h p sp y:=rfl
   rw [htb]
   dsimp only
   cases htt:tb w h p sp y with
   | true=>
    rw [cond_true,if_pos rfl,gcontexts,w6 (x:=base + (size t - 1)),Co.put_ok hfl ok q0 q0 (.inr rfl) q0]
    rfl
   | false=>
    rw [cond_false,if_neg (by simp),gcontexts,w6 (x:=base + (size t - 1)),Co.put_ok hfl ok q0 q0 (.inl rfl) q0]
    dsimp only
    have ok2:=ok.next (c:=base + (size t - 1)) (b:=0) q0 q0 (.inl rfl)
    have hl2:=X.next_len kx (base + (size t - 1)) 0
    have hb5:X.many kx (base + (size t - 1)) 0≤5:=nrm_le _ _ _
    have hbl:=X.bytes_len kx (base + (size t - 1)) 0
    rw [put_pix hfl ok2 ⟨hr.v,hr.p,hr.s,hr.b0,by rw [hl2,okl]; exact hr.b1⟩ q0 (by rw [List.length_append]; omega) hy]
    dsimp only
    rw [w6 (x:=(y:Int) + 1)]
    rfl
 ·simp only [gG,lM]
  rw [dec_f q0]
theorem put_reg {fl:Nat} (hfl:9223372036854775808≤fl) {t ax ay kd base w h:Int} {p sp:List Int} {kx:Int} {x:Iv} (hx:x.Ok kx) (hr:Reg t ax ay kd base w h p sp x.st.length) (hn:x.st.length≤8192) {out:List Int} (ho:out.length≤300000000) {ty:Bool} {sw sh:Int} {K}:
  ip fl base t ax ay ty kd w h p sw sh sp kx x.lo x.hi true x.st out K
  = K (kx,(run kx x out (allEv t ax ay base w h ty p sp h.toNat)).1.lo,(run kx x out (allEv t ax ay base w h ty p sp h.toNat)).1.hi,true,(run kx x out (allEv t ax ay base w h ty p sp h.toNat)).1.st,(run kx x out (allEv t ax ay base w h ty p sp h.toNat)).2):=by
 unfold ip qp
 rw [gplane hr.p.mul0 (by have:=hr.p.n; omega)]
 dsimp only
 rw [put_all hfl hx hr hn ho]
theorem skb_nil (i:Nat):skb [] i = false:=by simp [skb]
end Go.Proofs.YtohnjbmiaegofaaGreat.Gen
namespace Go.Proofs.YtohnjbmiaegofaaGreat.Rf
open Go Ev Bm Co Gen Dc
def fr (t:Int):List (Int×Int):=if t = 0 then [(-1, -1),(0, -1),(1, -1),(-1,0)] else [(0, -1),(-1,0)]
def bs:List (Int×Int):=[(0,0),(-1,0),(1,0),(0, -1),(0,1)]
def csz (t:Int):Int:=if t = 0 then 512 else 128
theorem csz_eq (t:Int):csz t = 512∨csz t = 128:=by unfold csz; split <;> omega
theorem fr_near (t:Int):∀ d ∈ fr t, -1≤d.1∧d.1≤1∧ -1≤d.2∧d.2≤0:=by
 unfold fr
 split <;> decide
theorem bs_near:∀ d ∈ bs, -1≤d.1∧d.1≤1∧ -1≤d.2∧d.2≤1:=by decide
theorem fr_len (t:Int):(fr t).length≤4∧(32:Int) * 2 ^ (fr t).length = csz t:=by
 unfold fr csz
 split <;> decide
def fold (w h:Int) (p:List Int) (x y:Int) (l:List (Int×Int)) (a:Int):Int:=l.foldl (fun n d=>2 * n + px w h p (x + d.1) (y + d.2)) a
theorem fold_take {w h:Int} {p:List Int} {x y a:Int} {l:List (Int×Int)} {i:Nat} (hi:i < l.length):
  fold w h p x y (l.take (i + 1)) a = 2 * fold w h p x y (l.take i) a + px w h p (x + (l.getD i (0,0)).1) (y + (l.getD i (0,0)).2):=by
 unfold fold
 rw [take_succ_getD hi (0,0),List.foldl_append]
 rfl
theorem fold_rg {w h:Int} {p:List Int} (h0:∀ v ∈ p,0≤v∧v≤1) {x y:Int}:∀ (l:List (Int×Int)) {a M:Int},0≤a→a < M→0≤fold w h p x y l a∧fold w h p x y l a < M * 2 ^ l.length
 | [],a,M,ha,hM=>by
  unfold fold
  simp
  omega
 | d::l,a,M,ha,hM=>by
  have b:=px_01 (w:=w) (h:=h) h0 (x + d.1) (y + d.2)
  have:=fold_rg (w:=w) (h:=h) h0 (x:=x) (y:=y) l (a:=2 * a + px w h p (x + d.1) (y + d.2)) (M:=M * 2) q0 q0
  rw [List.length_cons,Int.pow_succ]
  rw [show M * (2 ^ l.length * 2) = M * 2 * 2 ^ l.length by rw [Int.mul_assoc,Int.mul_comm 2]]
  exact this
def rctx (t dx dy w h:Int) (p:List Int) (rw rh:Int) (rp:List Int) (x y:Int):Int:=fold rw rh rp (x - dx) (y - dy) bs (fold w h p x y (fr t) 0)
theorem rctx_rg {t dx dy w h:Int} {p:List Int} {rw rh:Int} {rp:List Int} (hp:∀ v ∈ p,0≤v∧v≤1) (hr:∀ v ∈ rp,0≤v∧v≤1) (x y:Int):0≤rctx t dx dy w h p rw rh rp x y∧rctx t dx dy w h p rw rh rp x y < csz t:=by
 obtain ⟨_,h2⟩:=fr_len t
 have a:=fold_rg hp (w:=w) (h:=h) (x:=x) (y:=y) (fr t) (a:=0) (M:=1) q0 q0
 have b:=fold_rg hr (w:=rw) (h:=rh) (x:=x - dx) (y:=y - dy) bs a.1 a.2
 unfold rctx
 have e:(1:Int) * 2 ^ (fr t).length * 2 ^ bs.length = csz t:=by
  rw [← h2]
  show 1 * 2 ^ (fr t).length * 2 ^ 5 = _
  rw [Int.one_mul,Int.mul_comm]
  rfl
 rw [e] at b
 exact b
theorem grid_ok {fl:Nat} {w h:Int} {p:List Int} (hp:Pix w h p) {x y:Int} {K:Int→OA}:ac fl w h p x y K = K (px w h p x y):=by
 have hl:=hp.len
 have hn:=hp.n
 unfold ac px
 simp only [cd]
 by_cases hi:ins w h x y
 ·have hq:=place hi
  have hy:=place_y hi
  rw [if_pos hi]
  obtain ⟨h1,h2,h3,h4⟩:=hi
  rw [if_neg q0,if_neg q0,if_neg q0,if_neg q0,w6 (x:=y * w),w6 (x:=y * w + x),if_pos q0]
 ·rw [if_neg hi]
  unfold ins at hi
  repeat' split
  all_goals first | rfl | omega
def flatv (dx dy rw rh:Int) (rp:List Int) (x y:Int):Int×Bool:=
 if (List.range 9).all (fun i=>decide (px rw rh rp (x - dx + ((i % 3:Nat):Int) - 1) (y - dy + ((i / 3:Nat):Int) - 1) = px rw rh rp (x - dx) (y - dy))) = true then (px rw rh rp (x - dx) (y - dy),true) else (0,false)
structure RR (t dx dy kd w h:Int) (p:List Int) (rw rh:Int) (rp:List Int):Prop where
 t:t = 0∨t = 1
 k:kd = 0∨kd = 1
 x: -200≤dx∧dx≤200
 y: -200≤dy∧dy≤200
 p:Pix w h p
 r:Pix rw rh rp
section
variable {fl:Nat} (hfl:9223372036854775808≤fl) {t dx dy kd w h:Int} {p:List Int} {rw rh:Int} {rp:List Int} {ty:Bool}
include hfl
theorem flat_ok (hr:RR t dx dy kd w h p rw rh rp) {x y:Int} (hx: -1000≤x∧x≤1000) (hy: -1000≤y∧y≤1000) {K:Int×Bool×Int×Int×Int×Bool×Int×Int×Int×List Int×Int×Int×List Int→OA}:
  bH fl x y t dx dy ty kd w h p rw rh rp K = K ((flatv dx dy rw rh rp x y).1,(flatv dx dy rw rh rp x y).2,t,dx,dy,ty,kd,w,h,p,rw,rh,rp):=by
 have h1:=hr.x
 have h2:=hr.y
 unfold bH rF
 rw [grid_ok hr.r,w6 (x:=x - dx),w6 (x:=y - dy)]
 try dsimp only
 unfold Db flatv
 generalize hc:px rw rh rp (x - dx) (y - dy) = c
 have step:∀ i:Nat,i < 9→∀ (ret:Int×Bool×Int×Int×Int×Bool×Int×Int×Int×List Int×Int×Int×List Int→OA) (b:Int×Int×Int×Int×Bool×Int×Int×Int×List Int×Int×Int×List Int→OA) k,eD fl (x,y,c,(i:Int),t,dx,dy,ty,kd,w,h,p,rw,rh,rp) k (ret,b)
   = if px rw rh rp (x - dx + ((i % 3:Nat):Int) - 1) (y - dy + ((i / 3:Nat):Int) - 1) = c then k (x,y,c,((i + 1:Nat):Int),t,dx,dy,ty,kd,w,h,p,rw,rh,rp) else ret (0,false,t,dx,dy,ty,kd,w,h,p,rw,rh,rp):=by
  intro i hi ret b k
  have e1:((i:Int)).tmod 3 = ((i % 3:Nat):Int):=by rw [tmod_e q0]; omega
  have e2:((i:Int)).tdiv 3 = ((i / 3:Nat):Int):=by rw [tdiv_e q0]; omega
  simp only [eD,mF]
  rw [dec_t q0,e1,e2,w6 (x:=x - dx),w6 (x:=y - dy),w6 (x:=((i / 3:Nat):Int)),w6 (x:=x - dx + _),w6 (x:=x - dx + _ - 1),w6 (x:=y - dy + _),w6 (x:=y - dy + _ - 1),grid_ok hr.r]
  try dsimp only
  rw [cn]
  split
  ·rw [wrap64 q0 q0]
   rfl
  ·rfl
 rcases nat_or_first (fun i=>px rw rh rp (x - dx + ((i % 3:Nat):Int) - 1) (y - dy + ((i / 3:Nat):Int) - 1) = c) 9 with ha | ⟨n,hn,hb,hi⟩
 ·rw [if_pos (by rw [List.all_eq_true]; exact fun i hi=>decide_eq_true (ha i (List.mem_range.1 hi)))]
  refine iter_seq (step:=eD fl) (fun i:Nat=>(x,y,c,(i:Int),t,dx,dy,ty,kd,w,h,p,rw,rh,rp)) 9 rfl (fun i hi k=> ?_) (fun k=> ?_) q0
  ·rw [step i hi,if_pos (ha i hi)]
  ·simp only [eD,mF]
   rw [dec_f q0]
 ·rw [if_neg (by
   rw [List.all_eq_true]
   exact fun h=>hb (of_decide_eq_true (h n (List.mem_range.2 hn))))]
  refine iter_seq (step:=eD fl) (fun i:Nat=>(x,y,c,(i:Int),t,dx,dy,ty,kd,w,h,p,rw,rh,rp)) n rfl (fun i hin k=> ?_) (fun k=> ?_) q0
  ·rw [step i q0,if_pos (hi i hin)]
  ·rw [step n hn,if_neg hb]
theorem ctx_ok (hr:RR t dx dy kd w h p rw rh rp) {x y:Int} (hx: -1000≤x∧x≤1000) (hy: -1000≤y∧y≤1000) {K:Int×Int×Int×Int×Bool×Int×Int×Int×List Int×Int×Int×List Int→OA}:
  dw fl x y t dx dy ty kd w h p rw rh rp K = K (rctx t dx dy w h p rw rh rp x y,t,dx,dy,ty,kd,w,h,p,rw,rh,rp):=by
 have h1:=hr.x
 have h2:=hr.y
 have hf:∀ K:List (Int×Int)→OA,ap fl t K = K (fr t):=fun K=>by
  unfold ap fr
  rw [cb]
  split <;> rfl
 have hl:=(fr_len t).1
 unfold dw xn
 rw [hf]
 try dsimp only
 unfold Bx
 refine iter_seq (step:=ge fl) (fun i:Nat=>(x,y,fold w h p x y ((fr t).take i) 0,((fr t).length:Int),(i:Int),t,dx,dy,ty,kd,w,h,p,rw,rh,rp,fr t)) (fr t).length rfl (fun i hi c=> ?_) (fun c=> ?_) q0
 ·have e:=fr_near t _ (getD_mem hi (0,0))
  have a:=fold_rg hr.p.bit (w:=w) (h:=h) (x:=x) (y:=y) ((fr t).take i) (a:=0) (M:=1) q0 q0
  have hle:(2:Int) ^ ((fr t).take i).length≤2 ^ 4:=by
   have:=Nat.pow_le_pow_right (n:=2) q0 (show ((fr t).take i).length≤4 by rw [List.length_take]; omega)
   exact_mod_cast this
  have b:=px_01 (w:=w) (h:=h) hr.p.bit (x + ((fr t).getD i (0,0)).1) (y + ((fr t).getD i (0,0)).2)
  simp (disch:=omega) only [ge,nZ,dec_t,Int.toNat_natCast,wrap64,grid_ok hr.p]
  rw [fold_take hi]
  rfl
 ·simp (disch:=omega) only [ge,nZ,dec_f,List.take_length]
  unfold aI DJ
  have a:=fold_rg hr.p.bit (w:=w) (h:=h) (x:=x) (y:=y) (fr t) (a:=0) (M:=1) q0 q0
  have hle:(2:Int) ^ (fr t).length≤2 ^ 4:=by
   have:=Nat.pow_le_pow_right (n:=2) q0 hl
   exact_mod_cast this
  unfold rctx
  generalize fold w h p x y (fr t) 0 = g at *
  refine iter_seq (step:=gg fl) (fun i:Nat=>(x,y,fold rw rh rp (x - dx) (y - dy) (bs.take i) g,(bs.length:Int),(i:Int),t,dx,dy,ty,kd,w,h,p,rw,rh,rp,bs)) bs.length rfl (fun i hi c=> ?_) (fun c=> ?_) (by show 5 < fl; omega)
  ·have e:=bs_near _ (getD_mem hi (0,0))
   have a':=fold_rg hr.r.bit (w:=rw) (h:=rh) (x:=x - dx) (y:=y - dy) (bs.take i) (a:=g) (M:=16) q0 q0
   have hle2:(2:Int) ^ (bs.take i).length≤2 ^ 5:=by
    have:=Nat.pow_le_pow_right (n:=2) q0 (show (bs.take i).length≤5 by rw [List.length_take]; exact Nat.min_le_right _ _)
    exact_mod_cast this
   have b:=px_01 (w:=rw) (h:=rh) hr.r.bit (x - dx + (bs.getD i (0,0)).1) (y - dy + (bs.getD i (0,0)).2)
   have hb5:bs.length = 5:=rfl
   simp (disch:=omega) only [gg,oN,dec_t,Int.toNat_natCast,wrap64,grid_ok hr.r]
   rw [fold_take hi]
   rfl
  ·simp (disch:=omega) only [gg,oN,dec_f,List.take_length]
end
section
variable (t dx dy base w h:Int) (p:List Int) (rw rh:Int) (rp:List Int)
def pxE (y:Nat):Nat→List (Int×Int)
 | 0=>[]
 | x + 1=>pxE y x++ [(base + rctx t dx dy w h p rw rh rp (x:Int) (y:Int),p.getD (y * w.toNat + x) 0)]
def rwE:Nat→List (Int×Int)
 | 0=>[]
 | y + 1=>rwE y++pxE t dx dy base w h p rw rh rp y w.toNat
end
section
variable {t dx dy base w h kd:Int} {p:List Int} {rw rh:Int} {rp:List Int} {n:Nat}
theorem pxE_ok (hr:RR t dx dy kd w h p rw rh rp) (h0:0≤base) (h1:base + csz t + 1≤(n:Int)) (y:Nat):∀ x:Nat,Evs n (pxE t dx dy base w h p rw rh rp y x)∧(pxE t dx dy base w h p rw rh rp y x).length = x
 | 0=>⟨Evs.nil n,rfl⟩
 | x + 1=>by
  obtain ⟨a,b⟩:=pxE_ok hr h0 h1 y x
  have c:=rctx_rg (t:=t) (dx:=dx) (dy:=dy) (w:=w) (h:=h) (rw:=rw) (rh:=rh) hr.p.bit hr.r.bit (x:Int) (y:Int)
  refine ⟨Evs.app a (Evs.one q0 q0 (getD_01 hr.p.bit _)), ?_⟩
  rw [pxE,List.length_append,b]
  rfl
theorem rwE_ok (hr:RR t dx dy kd w h p rw rh rp) (h0:0≤base) (h1:base + csz t + 1≤(n:Int)):∀ y:Nat,Evs n (rwE t dx dy base w h p rw rh rp y)∧(rwE t dx dy base w h p rw rh rp y).length = y * w.toNat
 | 0=>⟨Evs.nil n,by simp [rwE]⟩
 | y + 1=>by
  obtain ⟨a,b⟩:=rwE_ok hr h0 h1 y
  obtain ⟨c,d⟩:=pxE_ok hr h0 h1 y w.toNat
  refine ⟨Evs.app a c, ?_⟩
  rw [rwE,List.length_append,b,d,Nat.succ_mul]
end
section
variable {fl:Nat} (hfl:9223372036854775808≤fl) {t dx dy base w h kd:Int} {p:List Int} {rw rh:Int} {rp:List Int}
include hfl
theorem put_row (hr:RR t dx dy kd w h p rw rh rp) {kx:Int} {x:Iv} (hx:x.Ok kx) (hn:x.st.length≤8192) (h0:0≤base) (h1:base + csz t + 1≤(x.st.length:Int)) {y:Nat} (hy:(y:Int) < h) {out:List Int} (ho:out.length≤900000000) {K}:
  de fl (base,(y:Int),false,h,(y:Int),w,0,kx,x.lo,x.hi,true,x.st,out,t,dx,dy,false,kd,w,h,p,t,dx,dy,false,kd,w,h,p,rw,rh,rp) K
  = K (base,h,(y:Int),kx,(run kx x out (pxE t dx dy base w h p rw rh rp y w.toNat)).1.lo,(run kx x out (pxE t dx dy base w h p rw rh rp y w.toNat)).1.hi,true,(run kx x out (pxE t dx dy base w h p rw rh rp y w.toNat)).1.st,(run kx x out (pxE t dx dy base w h p rw rh rp y w.toNat)).2,t,dx,dy,false,kd,w,h,p,t,dx,dy,false,kd,w,h,p,rw,rh,rp):=by
 have hw0:=hr.p.w0; have hw1:=hr.p.w1; have hh1:=hr.p.h1
 unfold de
 refine iter_seq (step:=ie fl) (fun i:Nat=>(base,(y:Int),false,h,(y:Int),w,(i:Int),kx,(run kx x out (pxE t dx dy base w h p rw rh rp y i)).1.lo,(run kx x out (pxE t dx dy base w h p rw rh rp y i)).1.hi,true,(run kx x out (pxE t dx dy base w h p rw rh rp y i)).1.st,(run kx x out (pxE t dx dy base w h p rw rh rp y i)).2,t,dx,dy,false,kd,w,h,p,t,dx,dy,false,kd,w,h,p,rw,rh,rp)) w.toNat rfl (fun i hi c=> ?_) (fun c=> ?_) q0
 ·obtain ⟨e1,e2⟩:=pxE_ok hr h0 h1 y i
  obtain ⟨ok,okl⟩:=run_ok (pxE t dx dy base w h p rw rh rp y i) (out:=out) hx e1
  have hol:=run_len_le (pxE t dx dy base w h p rw rh rp y i) (kd:=kx) (x:=x) (out:=out)
  have er:run kx x out (pxE t dx dy base w h p rw rh rp y (i + 1)) = run kx (run kx x out (pxE t dx dy base w h p rw rh rp y i)).1 (run kx x out (pxE t dx dy base w h p rw rh rp y i)).2 [(base + rctx t dx dy w h p rw rh rp (i:Int) (y:Int),p.getD (y * w.toNat + i) 0)]:=run_append kx _ _ _ _
  have hc:=rctx_rg (t:=t) (dx:=dx) (dy:=dy) (w:=w) (h:=h) (rw:=rw) (rh:=rh) hr.p.bit hr.r.bit (i:Int) (y:Int)
  have hcs:=csz_eq t
  have hpx:px w h p (i:Int) (y:Int) = p.getD (y * w.toNat + i) 0:=px_in q0 hy
  have hb:=getD_01 hr.p.bit (y * w.toNat + i)
  have hcc:=fun K=>ctx_ok hfl hr (ty:=false) (x:=(i:Int)) (y:=(y:Int)) q0 q0 (K:=K)
  simp only [ie,mh]
  rw [er]
  generalize run kx x out (pxE t dx dy base w h p rw rh rp y i) = R at *
  obtain ⟨X,O⟩:=R
  simp only at ok okl hol ⊢
  rw [dec_t q0,flat_ok hfl hr q0 q0]
  try dsimp only
  rw [cond_t (b:=!false) rfl,hcc,hcc]
  try dsimp only
  rw [both_same,grid_ok hr.p,hpx]
  try dsimp only
  rw [w6 (x:=base + _),w6 (x:=p.getD (y * w.toNat + i) 0),Co.put_ok hfl ok q0 q0 hb q0,w6 (x:=(i:Int) + 1)]
  rfl
 ·simp only [ie,mh]
  rw [dec_f q0]
theorem rvalid_ok2 (hr:RR t dx dy kd w h p rw rh rp) {ty:Bool} {K:Bool→OA}:aY fl t dx dy ty kd K = K true:=by
 have h1:=hr.x
 have h2:=hr.y
 have hA:(bif decide (dy < dx) then dy else dx)≥ -200:=by
  by_cases h:dy < dx
  ·rw [dec_t h]; omega
  ·rw [dec_f h]; omega
 have im:∀ a b:Int,a≤200→b≤200→imax a b≤200:=fun a b ha hb=>by
  unfold imax
  by_cases h:b > a
  ·rw [dec_t h]; exact hb
  ·rw [dec_f h]; exact ha
 have hB:imax (imax (imax dx (IntKind.i64.wrap (0 - dx))) dy) (IntKind.i64.wrap (0 - dy))≤200:=by
  rw [w6 (x:=0 - dx),w6 (x:=0 - dy)]
  exact im _ _ (im _ _ (im _ _ q0 q0) q0) q0
 unfold aY
 simp only [decide_eq_true hA,decide_eq_true hB,cond_true]
 rcases hr.t with rfl | rfl <;> rcases hr.k with rfl | rfl <;> rfl
theorem rput_ok2 (hr:RR t dx dy kd w h p rw rh rp) {kx:Int} {x:Iv} (hx:x.Ok kx) (hn:x.st.length≤8192) (h0:0≤base) (h1:base + csz t + 1≤(x.st.length:Int)) {out:List Int} (ho:out.length≤800000000) {K}:
  cC fl base t dx dy false kd w h p rw rh rp kx x.lo x.hi true x.st out K
  = K (0,kx,(run kx x out (rwE t dx dy base w h p rw rh rp h.toNat)).1.lo,(run kx x out (rwE t dx dy base w h p rw rh rp h.toNat)).1.hi,true,(run kx x out (rwE t dx dy base w h p rw rh rp h.toNat)).1.st,(run kx x out (rwE t dx dy base w h p rw rh rp h.toNat)).2):=by
 have hcs:=csz_eq t
 have hw0:=hr.p.w0; have hw1:=hr.p.w1; have hh1:=hr.p.h1; have hh0:=hr.p.h0
 unfold cC
 rw [put_bad]
 try dsimp only
 have hc:∀ K:Int→OA,az fl t K = K (csz t):=fun K=>by
  unfold az oO ap csz
  rw [cb]
  rcases hr.t with rfl | rfl
  ·rfl
  ·rfl
 have hv:∀ {w h:Int} {p:List Int},Pix w h p→valid w h p = true:=fun {w h p} hp=>valid_iff.2 ⟨⟨hp.w0,hp.h0,hp.w1,hp.h1,hp.n⟩,hp.len,fun v hv=>(hp.bit v hv).2⟩
 rw [cond_f (b:=(2:Int)==7) rfl,rvalid_ok2 hfl hr]
 try dsimp only
 rw [cond_f (b:=!true) rfl,valid_ok hfl,hv hr.p]
 try dsimp only
 rw [cond_f (b:=!true) rfl,valid_ok hfl,hv hr.r]
 try dsimp only
 rw [cond_f (b:=!true) rfl,emodel_ok q0]
 try dsimp only
 unfold be mj cm
 rw [dec_t q0,hc]
 try dsimp only
 rw [w6 (x:=(x.st.length:Int) - csz t),wrap64 q0 q0,decide_eq_true q0,cond_f (b:=!true) rfl]
 unfold ku
 refine iter_seq (step:=gm fl) (fun i:Nat=>(base,h,(i:Int),kx,(run kx x out (rwE t dx dy base w h p rw rh rp i)).1.lo,(run kx x out (rwE t dx dy base w h p rw rh rp i)).1.hi,true,(run kx x out (rwE t dx dy base w h p rw rh rp i)).1.st,(run kx x out (rwE t dx dy base w h p rw rh rp i)).2,t,dx,dy,false,kd,w,h,p,t,dx,dy,false,kd,w,h,p,rw,rh,rp)) h.toNat rfl (fun i hi c=> ?_) (fun c=> ?_) q0
 ·obtain ⟨e1,e2⟩:=rwE_ok hr h0 h1 i
  have e3:i * w.toNat≤200 * 200:=Nat.mul_le_mul q0 q0
  obtain ⟨ok,okl⟩:=run_ok (rwE t dx dy base w h p rw rh rp i) (out:=out) hx e1
  have hol:=run_len_le (rwE t dx dy base w h p rw rh rp i) (kd:=kx) (x:=x) (out:=out)
  have er:run kx x out (rwE t dx dy base w h p rw rh rp (i + 1)) = run kx (run kx x out (rwE t dx dy base w h p rw rh rp i)).1 (run kx x out (rwE t dx dy base w h p rw rh rp i)).2 (pxE t dx dy base w h p rw rh rp i w.toNat):=run_append kx _ _ _ _
  simp only [gm,mW]
  rw [er]
  generalize run kx x out (rwE t dx dy base w h p rw rh rp i) = R at *
  obtain ⟨X,O⟩:=R
  simp only at ok okl hol ⊢
  rw [dec_t q0,cond_false,cond_false,put_row hfl hr ok q0 h0 q0 q0 q0]
  try dsimp only
  rw [wrap64 q0 q0]
  rfl
 ·simp only [gm,mW]
  rw [dec_f q0]
end
end Go.Proofs.YtohnjbmiaegofaaGreat.Rf
namespace Go.Proofs.YtohnjbmiaegofaaGreat.Di
open Go Ev Bm Gen Rf
def dv (t ax ay:Int) (ty:Bool) (kd tm:Int):Bool:=vr t ax ay kd&&!ty&&decide (tm = 0∨tm = 1)
theorem dv_iff {t ax ay kd tm:Int} {ty:Bool}:dv t ax ay ty kd tm = true↔vr t ax ay kd = true∧ty = false∧(tm = 0∨tm = 1):=by simp [dv,and_assoc]
theorem svalid {fl:Nat} {t ax ay kd tm:Int} {ty:Bool} {K:Bool→OA}:iB fl t ax ay ty kd tm K = K (dv t ax ay ty kd tm):=by
 unfold iB uf dv
 rw [gvalid]
 cases vr t ax ay kd with
 | false=>rfl
 | true=>
  cases ty with
  | true=>rfl
  | false=>
   rw [cond_true,cond_t (b:=!false) rfl,cb]
   split
   ·rename_i h
    rw [decide_eq_true (.inl h)]
    rfl
   ·rename_i h
    congr 1
    have:(tm==1) = decide (tm = 1):=rfl
    rw [this,show (true&&!false&&decide (tm = 0∨tm = 1)) = decide (tm = 0∨tm = 1) from rfl,decide_eq_decide]
    omega
theorem rsvalid {fl:Nat} {t ax ay kd tm:Int} {ty:Bool} {K:Bool→OA}:bc fl t ax ay ty kd tm K = K (dv t ax ay ty kd tm):=by
 unfold bc rV dv
 rw [rvalid]
 cases vr t ax ay kd with
 | false=>rfl
 | true=>
  cases ty with
  | true=>rfl
  | false=>
   rw [cond_true,cond_t (b:=!false) rfl,cb]
   split
   ·rename_i h
    rw [decide_eq_true (.inl h)]
    rfl
   ·rename_i h
    congr 1
    have:(tm==1) = decide (tm = 1):=rfl
    rw [this,show (true&&!false&&decide (tm = 0∨tm = 1)) = decide (tm = 0∨tm = 1) from rfl,decide_eq_decide]
    omega
def wd (n:Nat):Nat:=bif Nat.ble n 1 then 0 else bif Nat.ble n 2 then 1 else bif Nat.ble n 4 then 2 else bif Nat.ble n 8 then 3 else bif Nat.ble n 16 then 4 else bif Nat.ble n 32 then 5 else 6
theorem width_at (fl:Nat) (K:Int→OA):∀ n:Nat,n≤64→gv fl (n:Int) K = K ((wd n:Nat):Int)
 | 0,_ | 1,_ | 2,_ | 3,_ | 4,_ | 5,_ | 6,_ | 7,_ | 8,_ | 9,_ | 10,_ | 11,_ | 12,_ | 13,_ | 14,_ | 15,_ | 16,_ | 17,_ | 18,_ | 19,_ | 20,_ | 21,_ | 22,_ | 23,_ | 24,_ | 25,_ | 26,_ | 27,_ | 28,_ | 29,_ | 30,_ | 31,_ | 32,_ | 33,_ | 34,_ | 35,_ | 36,_ | 37,_ | 38,_ | 39,_ | 40,_ | 41,_ | 42,_ | 43,_ | 44,_ | 45,_ | 46,_ | 47,_ | 48,_ | 49,_ | 50,_ | 51,_ | 52,_ | 53,_ | 54,_ | 55,_ | 56,_ | 57,_ | 58,_ | 59,_ | 60,_ | 61,_ | 62,_ | 63,_ | 64,_=>by kernel_rfl
 | n + 65,h=>by omega
theorem wd_ok:∀ n:Fin 65,n.val≤2 ^ wd n.val∧wd n.val≤6∧(wd n.val = 0→n.val≤1):=by decide +kernel
def dir (n:Nat):Int:=((240 + 2 ^ wd n:Nat):Int)
def lik (t:Int) (n:Nat):Int:=dir n + size t
def tot (t tm:Int) (n:Nat):Int:=lik t n + (csz tm + 1)
theorem wd_rg {n:Nat} (h:n≤60):n≤2 ^ wd n∧wd n≤6∧1≤2 ^ wd n∧2 ^ wd n≤64:=by
 have a:=wd_ok ⟨n,by omega⟩
 have b:2 ^ wd n≤2 ^ 6:=Nat.pow_le_pow_right q0 a.2.1
 exact ⟨a.1,a.2.1,Nat.pow_pos q0,b⟩
theorem lay_rg (t tm:Int) {n:Nat} (h:n≤60):241≤dir n∧dir n≤304∧dir n + 33≤lik t n∧lik t n≤2353∧lik t n + 129≤tot t tm n∧tot t tm n≤2866∧tot t tm n = dir n + size t + csz tm + 1:=by
 obtain ⟨_,_,c,d⟩:=wd_rg h
 have hs:=size_eq (t:=t)
 have hc:=csz_eq tm
 unfold tot lik dir
 refine ⟨?_, ?_, ?_, ?_, ?_, ?_, ?_⟩ <;> omega
theorem rsz {fl:Nat} {tm:Int} (h7:tm = 0∨tm = 1) (K:Int×Int→OA):kS fl tm K = K (csz tm + 1,0):=by
 rcases h7 with rfl | rfl <;> rfl
theorem lay_ok {fl:Nat} {t ax ay kd tm:Int} {ty:Bool} {n:Nat} (hn:n≤60) (hv:dv t ax ay ty kd tm = true) {K:Int×Int×Int×Bool×Int×Int×Int×Int×Int×Int→OA}:
  bt fl t ax ay ty kd tm (n:Int) K = K (t,ax,ay,ty,kd,tm,(wd n:Int),dir n,lik t n,tot t tm n):=by
 obtain ⟨v1,v2,v3⟩:=dv_iff.1 hv
 obtain ⟨a,b,c,d⟩:=wd_rg hn
 obtain ⟨e1,e2,e3,e4,e5,e6,e7⟩:=lay_rg t tm hn
 have e2':(2:Int) ^ wd n = ((2 ^ wd n:Nat):Int):=by rw [Int.natCast_pow]; rfl
 have es:ishl .i64 1 (wd n:Int) = ((2 ^ wd n:Nat):Int):=by rw [ishl_one q0 q0,Int.toNat_natCast,e2']
 have hw:∀ K:Int→OA,gv fl (n:Int) K = K ((wd n:Nat):Int):=fun K=>width_at fl K _ q0
 have hg:∀ K:Int×Int→OA,eZ fl t ax ay ty kd K = K (size t,0):=fun K=>by rw [gsize,sizeR,if_pos v1]
 have hd:IntKind.i64.wrap (IntKind.i64.wrap (241 + ((2 ^ wd n:Nat):Int)) - 1) = dir n:=by
  unfold dir
  rw [w6 (x:=241 + _),wrap64 q0 q0]
  omega
 have hl:IntKind.i64.wrap (dir n + size t) = lik t n:=wrap64 (by unfold lik at *; omega) (by unfold lik at *; omega)
 have ht:IntKind.i64.wrap (lik t n + (csz tm + 1)) = tot t tm n:=wrap64 (by unfold tot at *; omega) (by unfold tot at *; omega)
 unfold bt sC
 simp only [hw,hg,rsz v3,es,hd,hl,ht,both_same]
 rw [dec_f q0]
def nk (t tm:Int):Int:=size t + csz tm + 1
def keptR (t ax ay:Int) (ty:Bool) (kd tm:Int):Int×Int:=if dv t ax ay ty kd tm = true then (nk t tm,0) else (0,2)
theorem kept_ok {fl:Nat} {t ax ay kd tm:Int} {ty:Bool} {K:Int×Int→OA}:il fl t ax ay ty kd tm K = K (keptR t ax ay ty kd tm):=by
 unfold il yZ keptR
 rw [svalid]
 cases h:dv t ax ay ty kd tm with
 | false=>rfl
 | true=>
  rw [cond_f (b:=!true) rfl,if_pos rfl]
  have key:∀ K,bt fl t ax ay ty kd tm 0 K = K (t,ax,ay,ty,kd,tm,(wd 0:Int),dir 0,lik t 0,tot t tm 0):=fun K=>lay_ok (fl:=fl) (n:=0) q0 h
  rw [key]
  try dsimp only
  obtain ⟨e1,e2,e3,e4,e5,e6,e7⟩:=lay_rg t tm (n:=0) q0
  rw [w6 (x:=tot t tm 0 - dir 0),show tot t tm 0 - dir 0 = nk t tm by unfold nk; omega]
end Go.Proofs.YtohnjbmiaegofaaGreat.Di
set_option maxHeartbeats 1000000
namespace Go.Proofs.YtohnjbmiaegofaaGreat.Di
open Go Ev Bm Gen
abbrev Sh:Type:=Bmp×Int
def dS:Sh:=((0,0,[]),0)
def shpS (s:Sh):Bool:=shp s.1
def okAt (old:Nat) (l:List Sh) (i:Nat):Prop:= -1≤(l.getD i dS).2∧(l.getD i dS).2 < (old:Int) + (i:Int)∧(i = 0∨(l.getD (i - 1) dS).1.2.1≤(l.getD i dS).1.2.1)
theorem okAt_mk {old:Nat} {l:List Sh} {i:Nat} (h1: -1≤(l.getD i dS).2) (h2:(l.getD i dS).2 < (old:Int) + (i:Int)) (h3:i = 0∨(l.getD (i - 1) dS).1.2.1≤(l.getD i dS).1.2.1):okAt old l i:=And.intro h1 (And.intro h2 h3)
theorem okAt_get {old:Nat} {l:List Sh} {i:Nat} (h:okAt old l i): -1≤(l.getD i dS).2∧(l.getD i dS).2 < (old:Int) + (i:Int)∧(i = 0∨(l.getD (i - 1) dS).1.2.1≤(l.getD i dS).1.2.1):=h
instance (old:Nat) (l:List Sh) (i:Nat):Decidable (okAt old l i):=by unfold okAt; infer_instance
def rsErr (old:List Bmp) (l:List Sh):Int:=if l.all shpS = true then (if (List.range l.length).all (fun i=>decide (okAt old.length l i)) = true then (if old.length + l.length > 60 then 2 else 0) else 2) else 30
theorem range_all {n:Nat} {p:Nat→Bool} (h:∀ i,i < n→p i = true):(List.range n).all p = true:=List.all_eq_true.2 fun i hi=>h i (List.mem_range.1 hi)
theorem range_not {n k:Nat} {p:Nat→Bool} (hk:k < n) (h:p k = false):(List.range n).all p = false:=by
 rw [List.all_eq_false]
 exact ⟨k,List.mem_range.2 hk,by rw [h]; simp⟩
theorem sane {fl:Nat} {K:Bool→OA}:bu fl K = K true:=rfl
theorem cloneB {fl:Nat} {p:List Int} (hp:p.length≤140737488351232) {K:List Int→OA}:fw fl p K = K p:=by
 unfold fw
 rw [dec_t (p:=(0 + p.length) * 1≤140737488355328∧0 + p.length≤140737488355328) q0,List.nil_append]
 by_cases h:(p.length:Int) = 0
 ·have:p = []:=List.eq_nil_of_length_eq_zero q0
  subst this
  rw [dec_t h,both_same]
 ·rw [dec_f h]
theorem cloneM {fl:Nat} {p:List Bmp} (hp:p.length≤1000000) {K:List Bmp→OA}:aF fl p K = K p:=by
 unfold aF
 rw [dec_t (p:=(0 + p.length) * 40≤140737488355328∧0 + p.length≤140737488355328) q0,List.nil_append]
 by_cases h:(p.length:Int) = 0
 ·have:p = []:=List.eq_nil_of_length_eq_zero q0
  subst this
  rw [dec_t h,both_same]
 ·rw [dec_f h]
def exN (all:List Bmp) (ex:List Bool):Nat→List Bmp
 | 0=>[]
 | n + 1=>exN all ex n++(if ex.getD n false = true then [all.getD n (0,0,[])] else [])
theorem exN_len (all:List Bmp) (ex:List Bool):∀ n,(exN all ex n).length≤n
 | 0=>Nat.le_refl _
 | n + 1=>by
  have:=exN_len all ex n
  unfold exN
  rw [List.length_append]
  split
  ·simp only [List.length_cons,List.length_nil]; omega
  ·simp only [List.length_nil]; omega
def xErr (old:List Bmp) (l:List Sh) (ex:List Bool):Int:=if old.all shp = true then (if rsErr old l = 0 then (if ex.length = old.length + l.length then 0 else 2) else rsErr old l) else 30
def xRes (old:List Bmp) (l:List Sh) (ex:List Bool):Int×List Bmp:=if xErr old l ex = 0 then (0,exN (old++l.map (·.1)) ex ex.length) else (xErr old l ex,[])
theorem rs_parts {old:List Bmp} {l:List Sh} (h:rsErr old l = 0):l.all shpS = true∧(∀ i,i < l.length→okAt old.length l i)∧old.length + l.length≤60:=by
 unfold rsErr at h
 split at h
 ·rename_i h1
  split at h
  ·rename_i h2
   split at h
   ·omega
   ·exact ⟨h1,fun i hi=>of_decide_eq_true (List.all_eq_true.1 h2 i (List.mem_range.2 hi)),by omega⟩
  ·omega
 ·omega
theorem take_snoc {α:Type} {l:List α} {d:α} {i:Nat} (hi:i < l.length):l.take i++ [l.getD i d] = l.take (i + 1):=by
 rw [List.getD_eq_getElem?_getD,List.getElem?_eq_getElem hi,Option.getD_some,List.take_succ_eq_append_getElem hi]
section
variable {fl:Nat} (hfl:9223372036854775808≤fl)
include hfl
theorem has_exp {l:List Bmp} (hl:l.length≤1000000000000000) {K:Bool→OA}:cG fl l K = K (!l.all shp):=by
 unfold cG rU jx wO BG
 have st:∀ i:Nat,i < l.length→∀ c ret b,dZ fl (l,(l.length:Int),(i:Int)) c (ret,b) = if shp (l.getD i (0,0,[])) = true then c (l,(l.length:Int),((i + 1:Nat):Int)) else ret (i:Int):=by
  intro i hi c ret b
  simp only [dZ,lt,fz,yp]
  rw [dec_t q0,dec_t q0,Int.toNat_natCast,isShape_ok hfl]
  try dsimp only
  rw [show ((l.getD i (0,0,[])).fst,(l.getD i (0,0,[])).snd.fst,(l.getD i (0,0,[])).snd.snd) = l.getD i (0,0,[]) from rfl,wrap64 q0 q0]
  cases shp (l.getD i (0,0,[])) <;> rfl
 rcases all_or_first shp (0,0,[]) l with ha | ⟨n,hn,hb,hi⟩
 ·rw [ha]
  refine iter_to (step:=dZ fl) (fun i:Nat=>(l,(l.length:Int),(i:Int))) l.length (fun i hi c=>by rw [st i hi,if_pos (all_getD ha _ hi)]) (fun c=> ?_) q0
  simp only [dZ,lt]
  rw [dec_f q0]
  rfl
 ·rw [not_all hn hb]
  refine iter_to (step:=dZ fl) (fun i:Nat=>(l,(l.length:Int),(i:Int))) n (fun i hi' c=>by rw [st i q0,if_pos (hi i hi')]) (fun c=> ?_) q0
  rw [st n hn,if_neg (by rw [hb]; simp)]
  show K (decide ((n:Int)≥0)) = K true
  rw [decide_eq_true q0]
theorem has_beg {l:List Bmp} (hl:l.length≤1000000000000000) {K:Bool→OA}:eP fl l K = K (!l.all shp):=by
 unfold eP wy jt wb zL
 have st:∀ i:Nat,i < l.length→∀ c ret b,dT fl (l,(l.length:Int),(i:Int)) c (ret,b) = if shp (l.getD i (0,0,[])) = true then c (l,(l.length:Int),((i + 1:Nat):Int)) else ret (i:Int):=by
  intro i hi c ret b
  simp only [dT,mJ,fs,rR]
  rw [dec_t q0,dec_t q0,Int.toNat_natCast,isShape_ok hfl]
  try dsimp only
  rw [show ((l.getD i (0,0,[])).fst,(l.getD i (0,0,[])).snd.fst,(l.getD i (0,0,[])).snd.snd) = l.getD i (0,0,[]) from rfl,wrap64 q0 q0]
  cases shp (l.getD i (0,0,[])) <;> rfl
 rcases all_or_first shp (0,0,[]) l with ha | ⟨n,hn,hb,hi⟩
 ·rw [ha]
  refine iter_to (step:=dT fl) (fun i:Nat=>(l,(l.length:Int),(i:Int))) l.length (fun i hi c=>by rw [st i hi,if_pos (all_getD ha _ hi)]) (fun c=> ?_) q0
  simp only [dT,mJ]
  rw [dec_f q0]
  rfl
 ·rw [not_all hn hb]
  refine iter_to (step:=dT fl) (fun i:Nat=>(l,(l.length:Int),(i:Int))) n (fun i hi' c=>by rw [st i q0,if_pos (hi i hi')]) (fun c=> ?_) q0
  rw [st n hn,if_neg (by rw [hb]; simp)]
  show K (decide ((n:Int)≥0)) = K true
  rw [decide_eq_true q0]
theorem rs_ok {old:List Bmp} {l:List Sh} (ho:old.length≤1000000000000000) (hl:l.length≤1000000000000000) {K:Int→OA}:bR fl old l K = K (rsErr old l):=by
 have st:∀ i:Nat,i < l.length→∀ c ret b,dV fl (old,l,l,(l.length:Int),(i:Int)) c (ret,b) = if shpS (l.getD i dS) = true then c (old,l,l,(l.length:Int),((i + 1:Nat):Int)) else ret 30:=by
  intro i hi c ret b
  simp only [dV,mD]
  rw [dec_t q0,dec_t q0,Int.toNat_natCast,isShape_ok hfl]
  try dsimp only
  have e:shp ((l.getD i ((0,0,[]),0)).fst.fst,(l.getD i ((0,0,[]),0)).fst.snd.fst,(l.getD i ((0,0,[]),0)).fst.snd.snd) = shpS (l.getD i dS):=rfl
  rw [e,wrap64 q0 q0]
  cases shpS (l.getD i dS) <;> rfl
 have st2:∀ i:Nat,i < l.length→∀ c ret b,eu fl (old,l,l,(l.length:Int),(i:Int)) c (ret,b) = if okAt old.length l i then c (old,l,l,(l.length:Int),((i + 1:Nat):Int)) else ret 2:=by
  intro i hi c ret b
  have e:(l.getD i ((0,0,[]),0)) = l.getD i dS:=rfl
  simp only [eu,nR,Int.toNat_natCast,e]
  rw [dec_t q0,dec_t q0,w6 (x:=(old.length:Int) + (i:Int)),w6 (x:=(i:Int) + 1)]
  by_cases h1:(l.getD i dS).snd < -1
  ·rw [dec_t h1,if_neg (fun k=>by have k:=okAt_get k; omega)]
  rw [dec_f h1]
  by_cases h2:(l.getD i dS).snd≥(old.length:Int) + (i:Int)
  ·rw [dec_t h2,if_neg (fun k=>by have k:=okAt_get k; omega)]
  rw [dec_f h2]
  by_cases h3:(i:Int) > 0
  ·have e2:IntKind.i64.wrap ((i:Int) - 1) = ((i - 1:Nat):Int):=by rw [wrap64 q0 q0]; omega
   have e3:(l.getD (i - 1) ((0,0,[]),0)) = l.getD (i - 1) dS:=rfl
   rw [dec_t h3,e2,dec_t q0,Int.toNat_natCast,e3]
   by_cases h4:(l.getD i dS).fst.snd.fst < (l.getD (i - 1) dS).fst.snd.fst
   ·rw [dec_t h4,if_neg (fun k=>by have k:=okAt_get k; omega)]
   ·rw [dec_f h4,if_pos (okAt_mk q0 q0 (.inr q0))]
    rfl
  ·rw [dec_f h3,if_pos (okAt_mk q0 q0 (.inl q0))]
   rfl
 unfold bR pX rsErr Dz
 rcases all_or_first shpS dS l with ha | ⟨n,hn,hb,hi⟩
 rotate_left
 ·rw [show l.all shpS = false from not_all hn hb,if_neg (by simp)]
  refine iter_to (step:=dV fl) (fun i:Nat=>(old,l,l,(l.length:Int),(i:Int))) n (fun i hi' c=>by rw [st i q0,if_pos (hi i hi')]) (fun c=> ?_) q0
  rw [st n hn,if_neg (by rw [hb]; simp)]
 ·rw [if_pos ha]
  refine iter_to (step:=dV fl) (fun i:Nat=>(old,l,l,(l.length:Int),(i:Int))) l.length (fun i hi c=>by rw [st i hi,if_pos (all_getD ha _ hi)]) (fun c=> ?_) q0
  simp only [dV,mD]
  rw [dec_f q0]
  unfold Ce
  rcases nat_or_first (fun i=>okAt old.length l i) l.length with ha | ⟨n,hn,hb,hi⟩
  ·rw [if_pos (range_all (fun i hi=>decide_eq_true (ha i hi)))]
   refine iter_to (step:=eu fl) (fun i:Nat=>(old,l,l,(l.length:Int),(i:Int))) l.length (fun i hi c=>by rw [st2 i hi,if_pos (ha i hi)]) (fun c=> ?_) q0
   simp only [eu,nR]
   rw [dec_f q0,wrap64 q0 q0]
   by_cases h:old.length + l.length > 60
   ·rw [dec_t q0,if_pos h]
   ·rw [dec_f q0,if_neg h]
  ·rw [if_neg (by rw [range_not hn (decide_eq_false hb)]; simp)]
   refine iter_to (step:=eu fl) (fun i:Nat=>(old,l,l,(l.length:Int),(i:Int))) n (fun i hi' c=>by rw [st2 i q0,if_pos (hi i hi')]) (fun c=> ?_) q0
   rw [st2 n hn,if_neg hb]
theorem all_loop1 {old:List Bmp} {l:List Sh} {ex:List Bool} (h:old.length + l.length≤60) {b}:vl fl (ex,l,(l.length:Int),0,old) b = b (ex,old++l.map (·.1)):=by
 unfold vl
 refine iter_seq (step:=gn fl) (fun i:Nat=>(ex,l,(l.length:Int),(i:Int),old++(l.take i).map (·.1))) l.length (by simp) (fun i hi c=> ?_) (fun c=> ?_) q0
 ·simp only [gn,mI]
  rw [dec_t q0,dec_t q0,dec_t (by simp only [List.length_append,List.length_map,List.length_take]; omega),wrap64 q0 q0, ← take_snoc (d:=((0,0,[]),0)) hi,List.map_append, ← List.append_assoc]
  rfl
 ·simp only [gn,mI]
  rw [dec_f q0,List.take_length]
theorem shp_len {b:Bmp} (h:shp b = true):b.2.2.length≤8192:=by
 unfold shp at h
 rw [Bool.and_eq_true] at h
 obtain ⟨⟨_,_,_,_,h5⟩,h6,_⟩:=valid_iff.1 h.1
 omega
theorem xall {old:List Bmp} {l:List Sh} (h1:old.all shp = true) (h2:l.all shpS = true):∀ b ∈ old++l.map (·.1),shp b = true:=fun b hb=>by
 rcases List.mem_append.1 hb with hb | hb
 ·exact List.all_eq_true.1 h1 b hb
 ·obtain ⟨s,hs,rfl⟩:=List.mem_map.1 hb
  exact List.all_eq_true.1 h2 s hs
theorem sexp {old:List Bmp} {l:List Sh} {ex:List Bool} (ho:old.length≤1000000000000000) (hl:l.length≤1000000000000000) {K:Int×List Bmp→OA}:aU fl old l ex K = K (xRes old l ex):=by
 unfold aU yH xRes xErr
 rw [has_exp hfl ho]
 cases h:old.all shp with
 | false=>
  rw [cond_t (b:=!false) rfl]
  rfl
 | true=>
 rw [cond_f (b:=!true) rfl,rs_ok hfl ho hl,if_pos rfl]
 by_cases he:rsErr old l = 0
 rotate_left
 ·rw [cond_t (by simpa using he),if_neg he,if_neg he]
 obtain ⟨r1,r2,r3⟩:=rs_parts he
 rw [cond_f (by simp [he]),if_pos he,wrap64 q0 q0,cn]
 by_cases hx:ex.length = old.length + l.length
 rotate_left
 ·rw [if_neg q0,if_neg hx,if_neg q0]
 rw [if_pos q0,if_pos hx,if_pos rfl,cloneM q0]
 try dsimp only
 rw [all_loop1 hfl r3]
 try dsimp only
 have hA:=xall hfl h r1
 have hlen:(old++l.map (·.1)).length = ex.length:=by rw [hx]; simp
 generalize old++l.map (·.1) = all at hA hlen ⊢
 unfold Dx
 refine iter_seq (step:=gM fl) (fun i:Nat=>(ex,(ex.length:Int),(i:Int),all,exN all ex i)) ex.length rfl (fun i hi c=> ?_) (fun c=> ?_) q0
 ·have hm:=exN_len all ex i
  simp only [gM,om,Int.toNat_natCast]
  rw [dec_t q0,dec_t q0,wrap64 q0 q0]
  show _ = c (ex,(ex.length:Int),((i + 1:Nat):Int),all,exN all ex i++(if ex.getD i false = true then [all.getD i (0,0,[])] else []))
  cases hb:ex.getD i false with
  | false=>rw [cond_false,if_neg (by simp),List.append_nil]; rfl
  | true=>
   have hs:=shp_len hfl (hA _ (getD_mem (show i < all.length by omega) (0,0,[])))
   unfold dg rO
   rw [cond_true,if_pos rfl,dec_t q0,cloneB q0]
   try dsimp only
   rw [dec_t q0]
   rfl
 ·simp only [gM,om]
  rw [dec_f q0]
end
end Go.Proofs.YtohnjbmiaegofaaGreat.Di
namespace Go.Proofs.YtohnjbmiaegofaaGreat.Rf
open Go Ev Bm Co Gen Dc
def upTo (p:List Int) (i:Nat):List Int:=p.take i++List.replicate (p.length - i) 0
theorem upTo_len (p:List Int) {i:Nat} (h:i≤p.length):(upTo p i).length = p.length:=by
 unfold upTo
 rw [List.length_append,List.length_take,List.length_replicate]
 omega
theorem upTo_getD (p:List Int) {i:Nat} (h:i≤p.length) (j:Nat):(upTo p i).getD j 0 = if j < i then p.getD j 0 else 0:=by
 unfold upTo
 simp only [List.getD_eq_getElem?_getD,List.getElem?_append,List.length_take,List.getElem?_take,List.getElem?_replicate]
 rw [Nat.min_eq_left h]
 split
 ·rfl
 ·split <;> rfl
theorem upTo_set {p:List Int} {i:Nat} (h:i < p.length):(upTo p i).set i (p.getD i 0) = upTo p (i + 1):=by
 apply list_ext_getD 0
 ·rw [List.length_set,upTo_len _ q0,upTo_len _ q0]
 ·intro j hj
  rw [List.length_set,upTo_len _ q0] at hj
  rw [upTo_getD _ q0,List.getD_eq_getElem?_getD,List.getElem?_set]
  by_cases hji:i = j
  ·subst hji
   rw [if_pos rfl,if_pos (by rw [upTo_len _ q0]; exact h),if_pos q0]
   rfl
  ·rw [if_neg hji, ← List.getD_eq_getElem?_getD,upTo_getD _ q0]
   by_cases hlt:j < i
   ·rw [if_pos hlt,if_pos q0]
   ·rw [if_neg hlt,if_neg q0]
theorem upTo_zero (p:List Int):upTo p 0 = List.replicate p.length 0:=by simp [upTo]
theorem upTo_all (p:List Int):upTo p p.length = p:=by simp [upTo]
theorem px_upTo {w h:Int} {p:List Int} {i:Nat} (hi:i≤p.length) {x y:Int} (hx:ins w h x y→(y * w + x).toNat < i):px w h (upTo p i) x y = px w h p x y:=by
 unfold px
 by_cases hin:ins w h x y
 ·rw [if_pos hin,if_pos hin,upTo_getD _ hi,if_pos (hx hin)]
 ·rw [if_neg hin,if_neg hin]
theorem idx_above {w h:Int} {y:Nat} {x' y':Int} (hin:ins w h x' y') (hy:y' < (y:Int)):(y' * w + x').toNat < y * w.toNat:=by
 obtain ⟨i1,i2,i3,i4⟩:=hin
 have h1:(y' + 1) * w≤(y:Int) * w:=Int.mul_le_mul_of_nonneg_right q0 q0
 rw [Int.add_mul,Int.one_mul] at h1
 have h2:((y * w.toNat:Nat):Int) = (y:Int) * w:=by rw [Int.natCast_mul]; congr 1; omega
 have h3:0≤y' * w:=Int.mul_nonneg i2 q0
 omega
theorem fold_congr {w h:Int} {p p':List Int} {x y:Int}:∀ {l:List (Int×Int)} {a:Int},(∀ d ∈ l,px w h p (x + d.1) (y + d.2) = px w h p' (x + d.1) (y + d.2))→fold w h p x y l a = fold w h p' x y l a
 | [],a,_=>rfl
 | d::l,a,hd=>by
  have e:=hd d (by simp)
  unfold fold
  rw [List.foldl_cons,List.foldl_cons,e]
  exact fold_congr (l:=l) fun e he=>hd e (by simp [he])
theorem fr_before (t:Int):∀ d ∈ fr t,d.2 < 0∨(d.2 = 0∧d.1 < 0):=by
 unfold fr
 split <;> decide
theorem rctx_upTo {t dx dy w h:Int} {p:List Int} {rw rh:Int} {rp:List Int} {x y:Nat} (hi:y * w.toNat + x≤p.length) (hw:0≤w):rctx t dx dy w h (upTo p (y * w.toNat + x)) rw rh rp (x:Int) (y:Int) = rctx t dx dy w h p rw rh rp (x:Int) (y:Int):=by
 unfold rctx
 rw [fold_congr (p:=upTo p (y * w.toNat + x)) (p':=p) (l:=fr t)]
 refine fun d hd=>px_upTo hi fun hin=> ?_
 rcases fr_before t d hd with hb | ⟨hb,hb2⟩
 ·have:=idx_above (y:=y) hin q0
  omega
 ·obtain ⟨i1,i2,i3,i4⟩:=hin
  rw [hb,Int.add_zero]
  have h2:((y * w.toNat:Nat):Int) = (y:Int) * w:=by rw [Int.natCast_mul]; congr 1; omega
  omega
def pxD (t dx dy base w h rw rh:Int) (rp:List Int) (y x:Nat) (p:List Int):Dec (List Int):=.get (base + rctx t dx dy w h p rw rh rp (x:Int) (y:Int)) fun b=>.ret (p.set (y * w.toNat + x) b)
def rowD (t dx dy base w h rw rh:Int) (rp:List Int) (y:Nat) (p:List Int):Dec (List Int):=loopD (pxD t dx dy base w h rw rh rp y) w.toNat 0 p
def regD (t dx dy base w h rw rh:Int) (rp:List Int):Dec (List Int):=loopD (rowD t dx dy base w h rw rh rp) h.toNat 0 (List.replicate (w * h).toNat 0)
def flatE (E:Nat→List (Int×Int)):Nat→Nat→List (Int×Int)
 | 0,_=>[]
 | n + 1,i=>E i++flatE E n (i + 1)
theorem flatE_snoc (E:Nat→List (Int×Int)):∀ n i,flatE E (n + 1) i = flatE E n i++E (i + n)
 | 0,i=>by simp [flatE]
 | n + 1,i=>by
  rw [flatE,flatE_snoc E n (i + 1),flatE,List.append_assoc,show i + 1 + n = i + (n + 1) by omega]
theorem fol_loop {A:Type} {bd:Nat→A→Dec A} (a:Nat→A) (E:Nat→List (Int×Int)):∀ n i,(∀ j,i≤j→j < i + n→Fol (bd j (a j)) (E j) (a (j + 1)))→Fol (loopD bd n i (a i)) (flatE E n i) (a (i + n))
 | 0,i,_=>⟨rfl,rfl⟩
 | n + 1,i,h=>by
  have:=fol_loop a E n (i + 1) fun j h1 h2=>h j q0 q0
  rw [show i + 1 + n = i + (n + 1) by omega] at this
  exact fol_bind _ (h i (Nat.le_refl _) q0) this
section
variable {t dx dy base w h kd:Int} {p:List Int} {rw rh:Int} {rp:List Int} {n:Nat}
theorem pxE_flat (y:Nat):∀ m,pxE t dx dy base w h p rw rh rp y m = flatE (fun x=>[(base + rctx t dx dy w h p rw rh rp (x:Int) (y:Int),p.getD (y * w.toNat + x) 0)]) m 0
 | 0=>rfl
 | m + 1=>by rw [pxE,pxE_flat y m,flatE_snoc,Nat.zero_add]
theorem rwE_flat:∀ m,rwE t dx dy base w h p rw rh rp m = flatE (fun y=>pxE t dx dy base w h p rw rh rp y w.toNat) m 0
 | 0=>rfl
 | m + 1=>by rw [rwE,rwE_flat m,flatE_snoc,Nat.zero_add]
theorem reg_fol (hp:Pix w h p):Fol (regD t dx dy base w h rw rh rp) (rwE t dx dy base w h p rw rh rp h.toNat) p:=by
 have hw0:=hp.w0; have hh0:=hp.h0
 have hlen:=hp.len
 have hl:p.length = h.toNat * w.toNat:=by
  have e:((h.toNat * w.toNat:Nat):Int) = w * h:=by
   rw [Int.natCast_mul,Int.toNat_of_nonneg hh0,Int.toNat_of_nonneg hw0,Int.mul_comm]
  omega
 have row:∀ y,y < h.toNat→Fol (rowD t dx dy base w h rw rh rp y (upTo p (y * w.toNat))) (pxE t dx dy base w h p rw rh rp y w.toNat) (upTo p ((y + 1) * w.toNat)):=by
  intro y hy
  have hle:(y + 1) * w.toNat≤h.toNat * w.toNat:=Nat.mul_le_mul_right _ hy
  rw [Nat.succ_mul] at hle ⊢
  have:=fol_loop (bd:=pxD t dx dy base w h rw rh rp y) (fun x=>upTo p (y * w.toNat + x)) (fun x=>[(base + rctx t dx dy w h p rw rh rp (x:Int) (y:Int),p.getD (y * w.toNat + x) 0)]) w.toNat 0 (fun x _ hx=>by
   refine ⟨p.getD (y * w.toNat + x) 0,[], ?_,⟨rfl, ?_⟩⟩
   ·rw [rctx_upTo q0 hw0]
   ·exact upTo_set q0)
  rw [← pxE_flat,Nat.zero_add] at this
  exact this
 have:=fol_loop (bd:=rowD t dx dy base w h rw rh rp) (fun y=>upTo p (y * w.toNat)) (fun y=>pxE t dx dy base w h p rw rh rp y w.toNat) h.toNat 0 (fun y _ hy=>row y q0)
 rw [← rwE_flat,Nat.zero_add] at this
 simp only [Nat.zero_mul,upTo_zero] at this
 rw [← hl,upTo_all] at this
 have e2:(w * h).toNat = p.length:=by omega
 unfold regD
 rw [e2]
 exact this
theorem Pix.set2 {w h:Int} {p:List Int} (hp:Pix w h p) {i:Nat} {b:Int} (hb:b = 0∨b = 1):Pix w h (p.set i b):=
 ⟨hp.w0,hp.h0,hp.w1,hp.h1,hp.n,by rw [List.length_set]; exact hp.len,fun v hv=>by
  rcases List.mem_or_eq_of_mem_set hv with hv | rfl
  ·exact hp.bit v hv
  ·omega⟩
theorem pxD_all (hr:∀ v ∈ rp,0≤v∧v≤1) (h0:0≤base) (h1:base + csz t + 1≤(n:Int)) (hp:Pix w h p) (y x:Nat):(pxD t dx dy base w h rw rh rp y x p).All n (Pix w h):=by
 have c:=rctx_rg (t:=t) (dx:=dx) (dy:=dy) (w:=w) (h:=h) (rw:=rw) (rh:=rh) hp.bit hr (x:Int) (y:Int)
 exact ⟨⟨by omega,by omega⟩,fun b hb=>Pix.set2 hp hb⟩
theorem rowD_all (hr:∀ v ∈ rp,0≤v∧v≤1) (h0:0≤base) (h1:base + csz t + 1≤(n:Int)) (hp:Pix w h p) (y:Nat):(rowD t dx dy base w h rw rh rp y p).All n (Pix w h):=
 loopD_all (I:=fun _ p=>Pix w h p) w.toNat 0 p (fun j a _ _ ha=>pxD_all hr h0 h1 ha y j) hp
theorem pix_zero (hf:fit w h = true):Pix w h (List.replicate (w * h).toNat 0):=by
 obtain ⟨f1,f2,f3,f4,f5⟩:=fit_iff.1 hf
 have hm:=Int.mul_nonneg f1 f2
 exact ⟨f1,f2,f3,f4,f5,by rw [List.length_replicate]; omega,fun v hv=>by have:=(List.mem_replicate.1 hv).2; omega⟩
theorem regD_all (hr:∀ v ∈ rp,0≤v∧v≤1) (h0:0≤base) (h1:base + csz t + 1≤(n:Int)) (hf:fit w h = true):(regD t dx dy base w h rw rh rp).All n (Pix w h):=
 loopD_all (I:=fun _ p=>Pix w h p) h.toNat 0 _ (fun j a _ _ ha=>rowD_all hr h0 h1 ha j) (pix_zero hf)
end
end Go.Proofs.YtohnjbmiaegofaaGreat.Rf
namespace Go.Proofs.YtohnjbmiaegofaaGreat.Dc
open Go Ev Bm Co
def finD (base:Int) (v:Int):Dec (Bool×Int):=
 if v > 1048577 then .bad 3 else if v = 1 then .ret (false,0) else .get (base + 22) fun s=>.ret (false,(v - 1) * (1 - 2 * s))
theorem numD_eq (base:Int):numD base = .get base fun b=>if b = 1 then .ret (true,0) else cntD base (fun c=>digD base c (finD base) c 0 1) 20 0:=rfl
theorem digC_rg {c j:Nat} (hc:c≤20):0≤digC c j∧digC c j≤47:=by unfold digC; split <;> omega
theorem digD_all {β:Type} {base:Int} {c n:Nat} {k:Int→Dec β} {P:β→Prop} (h0:0≤base) (h1:base + 48≤(n:Int)) (hc:c≤20) (hk:∀ v,1≤v→(k v).All n P):∀ (l i:Nat) (v:Int),1≤v→(digD base c k l i v).All n P
 | 0,i,v,hv=>hk v hv
 | l + 1,i,v,hv=>by
  have:=digC_rg (c:=c) (j:=i) hc
  exact ⟨⟨by omega,by omega⟩,fun b hb=>digD_all h0 h1 hc hk l (i + 1) _ q0⟩
theorem cntD_all {β:Type} {base:Int} {n:Nat} {k:Nat→Dec β} {P:β→Prop} (h0:0≤base) (h1:base + 48≤(n:Int)) (hk:∀ c,c≤20→(k c).All n P):∀ (f c:Nat),c + f = 20→(cntD base k f c).All n P
 | 0,c,hc=>hk c q0
 | f + 1,c,hc=>by
  refine ⟨⟨by omega,by omega⟩,fun b hb=> ?_⟩
  show Dec.All n P (if b = 0 then _ else _)
  split
  ·exact hk c q0
  ·exact cntD_all h0 h1 hk f (c + 1) (by omega)
def NumOk (v:Bool×Int):Prop:=(v.1 = true→v.2 = 0)∧ -1048576≤v.2∧v.2≤1048576
theorem finD_all {base:Int} {n:Nat} (h0:0≤base) (h1:base + 48≤(n:Int)) {v:Int} (hv:1≤v):(finD base v).All n NumOk:=by
 unfold finD
 split
 ·rfl
 ·split
  ·exact ⟨fun h=>absurd h (by simp),by simp only; omega,by simp only; omega⟩
  ·refine ⟨⟨by omega,by omega⟩,fun b hb=> ?_⟩
   rcases hb with rfl | rfl
   ·exact ⟨fun h=>absurd h (by simp),by simp only; omega,by simp only; omega⟩
   ·exact ⟨fun h=>absurd h (by simp),by simp only; omega,by simp only; omega⟩
theorem numD_all {base:Int} {n:Nat} (h0:0≤base) (h1:base + 48≤(n:Int)):(numD base).All n NumOk:=by
 rw [numD_eq]
 refine ⟨⟨h0,by omega⟩,fun b hb=> ?_⟩
 show Dec.All n NumOk (if b = 1 then _ else _)
 split
 ·exact ⟨fun _=>rfl,by simp only; omega,by simp only; omega⟩
 ·exact cntD_all h0 h1 (fun c hc=>digD_all h0 h1 hc (fun v hv=>finD_all h0 h1 hv) c 0 1 q0) 20 0 rfl
theorem idD_all {β:Type} {base:Int} {n:Nat} {k:Int→Dec β} {P:β→Prop} (h0:0≤base) {K:Nat} (h1:base + 2 ^ K - 1≤(n:Int)) (hk:∀ p:Int,2 ^ K≤p→p < 2 ^ K + 2 ^ K→(k p).All n P):∀ (l j:Nat) (p:Int),j + l = K→2 ^ j≤p→p < 2 ^ j + 2 ^ j→(idD base k l p).All n P
 | 0,j,p,hj,h2,h3=>by
  have:j = K:=by omega
  subst this
  exact hk p h2 h3
 | l + 1,j,p,hj,h2,h3=>by
  have e:(2:Int) ^ (j + 1) = 2 ^ j + 2 ^ j:=by rw [Int.pow_succ]; omega
  have hle:(2:Int) ^ (j + 1)≤2 ^ K:=by
   have:=Nat.pow_le_pow_right (n:=2) q0 (show j + 1≤K by omega)
   exact_mod_cast this
  have hp:(0:Int) < 2 ^ j:=Int.pow_pos q0
  refine ⟨⟨by omega,by omega⟩,fun b hb=> ?_⟩
  exact idD_all h0 h1 hk l (j + 1) (2 * p + b) q0 q0 (by omega)
def nRes (kx:Int) (code:List Int) (K:Bool×Int×Int×Int×Int×Int×Int×Int×Int×Bool×Bool×List Int×List Int→OA):(Int ⊕ (Bool×Int))×S→OA
 | (.inr v,s')=>K (v.1,v.2,0,kx,s'.x.lo,s'.x.hi,((4 + s'.k:Nat):Int),win (strm code) s'.k,byd code s'.k,!s'.ok,true,s'.x.st,code)
 | (.inl e,s')=>K (false,0,e,kx,s'.x.lo,s'.x.hi,((4 + s'.k:Nat):Int),win (strm code) s'.k,byd code s'.k,!s'.ok,true,s'.x.st,code)
structure Cd (code:List Int) (n:Nat):Prop where
 b:Bytes code
 l:code.length≤10000000
 n:n≤8192
section
variable {fl:Nat} (hfl:9223372036854775808≤fl) {kx:Int} {code:List Int} {n:Nat} (hc:Cd code n)
include hfl hc
theorem cnt_loop {β:Type} {base:Int} (h0:0≤base) (h1:base + 48≤(n:Int)) {k:Nat→Dec β} {Fin:(Int ⊕ β)×S→OA} {ret b}
  (hb:∀ (c:Nat) (s:S),c≤20→St kx code n s→b (base,(c:Int),kx,s.x.lo,s.x.hi,((4 + s.k:Nat):Int),win (strm code) s.k,byd code s.k,false,true,s.x.st,code,false,0) = Fin ((k c).run kx code s))
  (hret:∀ s:S,ret (6,kx,s.x.lo,s.x.hi,((4 + s.k:Nat):Int),win (strm code) s.k,byd code s.k,true,true,s.x.st,code,false,0) = Fin (.inl 6,⟨false,s.x,s.k⟩)):
  ∀ (f c:Nat) (s:S) (m:Nat),c + f = 20→St kx code n s→f < m→iter (gF fl) m (base,(c:Int),kx,s.x.lo,s.x.hi,((4 + s.k:Nat):Int),win (strm code) s.k,byd code s.k,false,true,s.x.st,code,false,0) (ret,b) = Fin ((cntD base k f c).run kx code s)
 | 0,c,s,m,hcf,hs,hm=>by
  obtain ⟨m,rfl⟩:∃ j,m = j + 1:=⟨m - 1,by omega⟩
  simp only [iter,gF,nO]
  rw [dec_f q0,hb c s q0 hs]
  rfl
 | f + 1,c,s,m,hcf,hs,hm=>by
  obtain ⟨m,rfl⟩:∃ j,m = j + 1:=⟨m - 1,by omega⟩
  have hn:=hc.n
  have hk:=hs.k
  have hl:=hc.l
  simp only [iter,gF,nO]
  rw [dec_t q0,w6 (x:=base + 1),w6 (x:=base + 1 + (c:Int)),Co.get_okB hfl hs.x q0 (by rw [hs.sl]; omega) hc.b hl q0]
  simp only [cntD,Dec.run]
  cases e:Co.get kx code s.x s.k (base + 1 + (c:Int)) with
  | none=> 
   dsimp only
   rw [cond_t (b:=(6:Int) != 0) rfl]
   exact hret s
  | some v=>
   obtain ⟨b',x',k'⟩:=v
   obtain ⟨g1,g2,g3,g4⟩:=get_some hs.x q0 (by rw [hs.sl]; omega) e
   have hs':St kx code n ⟨true,x',k'⟩:=⟨rfl,g2,by rw [g3]; exact hs.sl,g4⟩
   dsimp only
   rw [cond_f (b:=(0:Int) != 0) rfl]
   rcases g1 with rfl | rfl
   ·rw [cond_t (b:=(0:Int)==0) rfl,if_pos rfl]
    exact hb c ⟨true,x',k'⟩ q0 hs'
   ·rw [cond_f (b:=(1:Int)==0) rfl,if_neg (by decide),w6 (x:=(c:Int) + 1)]
    exact cnt_loop h0 h1 hb hret f (c + 1) ⟨true,x',k'⟩ m q0 hs' (by omega)
theorem digG_loop {β:Type} {base:Int} (h0:0≤base) (h1:base + 48≤(n:Int)) {c:Nat} (hc20:c≤20) {k:Int→Dec β} {Fin:(Int ⊕ β)×S→OA} {ret b}
  (hb:∀ (v:Int) (s:S),1≤v→v < 2 ^ 21→St kx code n s→b (base,v,kx,s.x.lo,s.x.hi,((4 + s.k:Nat):Int),win (strm code) s.k,byd code s.k,false,true,s.x.st,code,false,0) = Fin ((k v).run kx code s))
  (hret:∀ s:S,ret (6,kx,s.x.lo,s.x.hi,((4 + s.k:Nat):Int),win (strm code) s.k,byd code s.k,true,true,s.x.st,code,false,0) = Fin (.inl 6,⟨false,s.x,s.k⟩)):
  ∀ (l i:Nat) (v:Int) (s:S) (m:Nat),i + l = c→1≤v→v < 2 ^ (i + 1)→St kx code n s→l < m→iter (fA fl) m (base,(c:Int),v,(c:Int),(i:Int),kx,s.x.lo,s.x.hi,((4 + s.k:Nat):Int),win (strm code) s.k,byd code s.k,false,true,s.x.st,code,false,0,tailN i) (ret,b) = Fin ((digD base c k l i v).run kx code s)
 | 0,i,v,s,m,hil,hv0,hv1,hs,hm=>by
  obtain ⟨m,rfl⟩:∃ j,m = j + 1:=⟨m - 1,by omega⟩
  have hle:(2:Int) ^ (i + 1)≤2 ^ 21:=by
   have:=Nat.pow_le_pow_right (n:=2) q0 (show i + 1≤21 by omega)
   exact_mod_cast this
  simp only [iter,fA,lm]
  rw [dec_f q0,hb v s hv0 q0 hs]
  rfl
 | l + 1,i,v,s,m,hil,hv0,hv1,hs,hm=>by
  obtain ⟨m,rfl⟩:∃ j,m = j + 1:=⟨m - 1,by omega⟩
  have hn:=hc.n
  have hk:=hs.k
  have hl:=hc.l
  have hd:=digC_rg (c:=c) (j:=i) hc20
  have hle:(2:Int) ^ (i + 1)≤2 ^ 20:=by
   have:=Nat.pow_le_pow_right (n:=2) q0 (show i + 1≤20 by omega)
   exact_mod_cast this
  have hpw:(2:Int) ^ (i + 1 + 1) = 2 ^ (i + 1) * 2:=Int.pow_succ _ _
  have main:∀ (t:Int),t = tailN (i + 1)→(aa fl (base + digC c i) kx s.x.lo s.x.hi ((4 + s.k:Nat):Int) (win (strm code) s.k) (byd code s.k) false true s.x.st code fun y=>
    bif y.2.1 != 0 then ret (y.2.1,y.2.2.1,y.2.2.2.1,y.2.2.2.2.1,y.2.2.2.2.2.1,y.2.2.2.2.2.2.1,y.2.2.2.2.2.2.2.1,y.2.2.2.2.2.2.2.2.1,y.2.2.2.2.2.2.2.2.2.1,y.2.2.2.2.2.2.2.2.2.2.1,y.2.2.2.2.2.2.2.2.2.2.2,false,0)
    else iter (fA fl) m (base,(c:Int),IntKind.i64.wrap (IntKind.i64.wrap (2 * v) + y.1),(c:Int),((i + 1:Nat):Int),y.2.2.1,y.2.2.2.1,y.2.2.2.2.1,y.2.2.2.2.2.1,y.2.2.2.2.2.2.1,y.2.2.2.2.2.2.2.1,y.2.2.2.2.2.2.2.2.1,y.2.2.2.2.2.2.2.2.2.1,y.2.2.2.2.2.2.2.2.2.2.1,y.2.2.2.2.2.2.2.2.2.2.2,false,0,t) (ret,b))
    = Fin ((digD base c k (l + 1) i v).run kx code s):=by
   intro t ht
   rw [Co.get_okB hfl hs.x q0 (by rw [hs.sl]; omega) hc.b hl q0]
   simp only [digD,Dec.run]
   cases e:Co.get kx code s.x s.k (base + digC c i) with
   | none=>
    dsimp only
    rw [cond_t (b:=(6:Int) != 0) rfl]
    exact hret s
   | some v'=>
    obtain ⟨b',x',k'⟩:=v'
    obtain ⟨g1,g2,g3,g4⟩:=get_some hs.x q0 (by rw [hs.sl]; omega) e
    have hs':St kx code n ⟨true,x',k'⟩:=⟨rfl,g2,by rw [g3]; exact hs.sl,g4⟩
    dsimp only
    rw [cond_f (b:=(0:Int) != 0) rfl,w6 (x:=2 * v),w6 (x:=2 * v + b'),ht]
    exact digG_loop h0 h1 hc20 hb hret l (i + 1) (2 * v + b') ⟨true,x',k'⟩ m q0 q0 q0 hs' q0
  simp only [iter,fA,lm]
  rw [dec_t q0]
  by_cases hi0:i = 0
  ·subst hi0
   have hd0:digC c 0 = 23 + (c:Int):=rfl
   rw [hd0] at main
   rw [dec_f q0,w6 (x:=23 + (c:Int)),w6 (x:=base + (23 + (c:Int))),w6 (x:=((0:Nat):Int) + 1)]
   exact main (tailN 0) rfl
  ·have hd1:(tailN i:Int) = digC c i:=by unfold tailN digC; rw [if_neg hi0,if_neg hi0]; omega
   have hd2:44≤digC c i:=by unfold digC; rw [if_neg hi0]; omega
   unfold aJ
   dsimp only
   rw [dec_t q0,hd1,w6 (x:=digC c i + 1),w6 (x:=base + digC c i),w6 (x:=(i:Int) + 1)]
   refine main _ ?_
   unfold digC tailN
   rw [if_neg hi0,if_neg q0]
   by_cases h:(47:Int) < min (43 + (i:Int)) 47 + 1
   ·rw [dec_t h]; omega
   ·rw [dec_f h]; omega
theorem nget_ok {base:Int} (h0:0≤base) (h1:base + 48≤(n:Int)) {s:S} (hs:St kx code n s) {K:Bool×Int×Int×Int×Int×Int×Int×Int×Int×Bool×Bool×List Int×List Int→OA}:
  hH fl base kx s.x.lo s.x.hi ((4 + s.k:Nat):Int) (win (strm code) s.k) (byd code s.k) false true s.x.st code K = nRes kx code K ((numD base).run kx code s):=by
 have hn:=hc.n
 have hk:=hs.k
 have hl:=hc.l
 rw [numD_eq]
 simp only [Dec.run]
 unfold hH xs
 rw [Co.get_okB hfl hs.x h0 (by rw [hs.sl]; omega) hc.b hl q0]
 cases e:Co.get kx code s.x s.k base with
 | none=>rfl
 | some v=>
  obtain ⟨b',x',k'⟩:=v
  obtain ⟨g1,g2,g3,g4⟩:=get_some hs.x h0 (by rw [hs.sl]; omega) e
  have hs':St kx code n ⟨true,x',k'⟩:=⟨rfl,g2,by rw [g3]; exact hs.sl,g4⟩
  dsimp only
  rw [cond_f (b:=(0:Int) != 0) rfl]
  rcases g1 with rfl | rfl
  rotate_left
  ·rfl
  rw [cond_f (b:=(0:Int)==1) rfl,if_neg (by decide)]
  unfold Bq
  refine cnt_loop hfl hc h0 h1 (k:=fun c=>digD base c (finD base) c 0 1) (Fin:=nRes kx code K) (fun c s hc20 hs=> ?_) (fun s=> ?_) 20 0 ⟨true,x',k'⟩ fl rfl hs' q0
  rotate_left
  ·rfl
  unfold BZ
  refine digG_loop hfl hc h0 h1 hc20 (k:=finD base) (Fin:=nRes kx code K) (fun v s hv0 hv1 hs=> ?_) (fun s=> ?_) c 0 1 s fl q0 q0 (by decide) hs q0
  rotate_left
  ·rfl
  have hk:=hs.k
  have hv2:v < 2097152:=hv1
  dsimp only
  unfold finD
  by_cases hbig:v > 1048577
  ·rw [dec_t hbig,if_pos hbig]
   simp only [Dec.run,nRes,hs.ok,Bool.not_true]
  rw [dec_f hbig,if_neg hbig,cb]
  by_cases hone:v = 1
  ·rw [if_pos hone,if_pos hone]
   simp only [Dec.run,nRes,hs.ok,Bool.not_true]
  rw [if_neg hone,if_neg hone,w6 (x:=base + 22),Co.get_okB hfl hs.x q0 (by rw [hs.sl]; omega) hc.b hl q0]
  simp only [Dec.run]
  cases e2:Co.get kx code s.x s.k (base + 22) with
  | none=>rfl
  | some w=>
   obtain ⟨b2,x2,k2⟩:=w
   obtain ⟨q1,q2,q3,q4⟩:=get_some hs.x q0 (by rw [hs.sl]; omega) e2
   dsimp only
   rw [cond_f (b:=(0:Int) != 0) rfl]
   rcases q1 with rfl | rfl
   ·rw [w6 (x:=v - 1),w6 (x:=2 * 0),w6 (x:=1 - 2 * 0),wrap64 q0 q0]
    rfl
   ·rw [w6 (x:=v - 1),w6 (x:=2 * 1),w6 (x:=1 - 2 * 1),wrap64 q0 q0]
    rfl
theorem Nget_ok {base:Int} (h0:0≤base) (h1:base + 48≤(n:Int)) {s:S} (hs:St kx code n s) {K:Bool×Int×Int×Int×Int×Int×Int×Int×Int×Bool×Bool×List Int×List Int→OA}:
  iG fl base kx s.x.lo s.x.hi ((4 + s.k:Nat):Int) (win (strm code) s.k) (byd code s.k) false true s.x.st code K = nRes kx code K ((numD base).run kx code s):=by
 have hn:=hc.n
 have hsl:=hs.sl
 unfold iG wB
 rw [Co.get_bad]
 dsimp only
 rw [cond_f (b:=(2:Int)==7) rfl]
 unfold ak eN aS
 dsimp only
 rw [cond_f (b:=!true) rfl,clone_ok q0]
 dsimp only
 unfold au
 rw [dec_f q0,w6 (x:=(s.x.st.length:Int) - 48),dec_f q0]
 dsimp only
 rw [cond_f (b:=(0:Int) != 0) rfl,nget_ok hfl hc h0 h1 hs]
end
end Go.Proofs.YtohnjbmiaegofaaGreat.Dc
