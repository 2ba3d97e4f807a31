/- Laws of the typed texts that TextDecodes reaches, in plain Lean. No condition but what each theorem names. -/
import Derived.Test.YtipdidpalcmlhaaGreatEvO
import Derived.Test.YtipdidpalcmlhaaGreatFsTextDecodes5
import Derived.Test.YtipdidpalcmlhaaGreatFsTextDecodes1
import Derived.Test.YtipdidpalcmlhaaGreatFsTextDecodes2
import Derived.Test.YtipdidpalcmlhaaGreatFsTextDecodes3
import Derived.Test.YtipdidpalcmlhaaGreatFsTextDecodes4
import Derived.Test.YtipdidpalcmlhaaGreatFsTextDecodes6
import Derived.Test.YtipdidpalcmlhaaGreatFsTextDecodes8
import Derived.Test.YtipdidpalcmlhaaGreatFsTextDecodes7
set_option linter.unusedVariables false
set_option linter.unusedSimpArgs false
set_option linter.unusedSectionVars false
namespace Go.Proofs.YtipdidpalcmlhaaGreat.Ev
open Go
theorem cond_t {α:Sort _} {b:Bool} {x y:α} (h:b = true):(bif b then x else y) = x:=by rw [h]; rfl
theorem cond_f {α:Sort _} {b:Bool} {x y:α} (h:b = false):(bif b then x else y) = y:=by rw [h]; rfl
theorem dec_t {p:Prop} {i:Decidable p} {α:Sort _} {x y:α} (h:p):(bif @decide p i then x else y) = x:=cond_t (decide_eq_true h)
theorem dec_f {p:Prop} {i:Decidable p} {α:Sort _} {x y:α} (h:¬p):(bif @decide p i then x else y) = y:=cond_f (decide_eq_false h)
theorem both_same (x:Option Ans):both x x = x:=by
  unfold both
  cases x with
  | none=>rfl
  | some u=>rfl
theorem fuel_eq:fuel = 18446744073709551616:=rfl
theorem wrap64 {x:Int} (h1: -9223372036854775808≤x) (h2:x≤9223372036854775807):IntKind.i64.wrap x = x:=by
  simp [IntKind.wrap,IntKind.min,IntKind.max,IntKind.signed,IntKind.bits]
  omega
theorem wrap8 {x:Int} (h1:0≤x) (h2:x≤255):IntKind.u8.wrap x = x:=by
  simp [IntKind.wrap,IntKind.min,IntKind.max,IntKind.signed,IntKind.bits]
  omega
theorem ishl_one {y:Int} (h0:0≤y) (h:y≤62):ishl .i64 1 y = 2 ^ y.toNat:=by
  unfold ishl
  have hb:min y.toNat IntKind.i64.bits = y.toNat:=by
    have:IntKind.i64.bits = 64:=rfl
    rw [this]
    omega
  rw [hb,Int.one_mul]
  have h1:(2:Int) ^ y.toNat≤2 ^ 62:=by
    have:=Nat.pow_le_pow_right (n:=2) (by omega) (show y.toNat≤62 by omega)
    exact_mod_cast this
  have h2:(0:Int) < 2 ^ y.toNat:=Int.pow_pos (by omega)
  exact wrap64 (by omega) (by omega)
theorem ofInt_toNat {n:Nat} {x:Int} (h0:0≤x) (h:x < 2 ^ n):(BitVec.ofInt n x).toNat = x.toNat:=by
  rw [BitVec.toNat_ofInt]
  rw [Int.emod_eq_of_lt h0 (by exact_mod_cast h)]
theorem iter_to {V B:Type} {step:V→(V→Option Ans)→B→Option Ans} {b:B} {r:Option Ans} (σ:Nat→V) (n:Nat)
    (h:∀ i,i < n→∀ c,step (σ i) c b = c (σ (i + 1))) (hn:∀ c,step (σ n) c b = r) {m:Nat} (hm:n < m):iter step m (σ 0) b = r:=by
  have key:∀ d i m,i + d = n→d < m→iter step m (σ i) b = r:=by
    intro d
    induction d with
    | zero=>
      intro i m hi hm
      obtain ⟨m,rfl⟩:∃ k,m = k + 1:=⟨m - 1,by omega⟩
      have:i = n:=by omega
      subst this
      exact hn _
    | succ d ih=>
      intro i m hi hm
      obtain ⟨m,rfl⟩:∃ k,m = k + 1:=⟨m - 1,by omega⟩
      simp only [iter]
      rw [h i (by omega)]
      exact ih (i + 1) m (by omega) (by omega)
  exact key n 0 m (by omega) hm
theorem iter_seq {V B:Type} {step:V→(V→Option Ans)→B→Option Ans} {b:B} {r:Option Ans} {v:V} {m:Nat} (σ:Nat→V) (n:Nat) (hv:v = σ 0)
    (h:∀ i,i < n→∀ c,step (σ i) c b = c (σ (i + 1))) (hn:∀ c,step (σ n) c b = r) (hm:n < m):iter step m v b = r:=by
  rw [hv]
  exact iter_to σ n h hn hm
theorem take_succ_getD {α:Type} {l:List α} {i:Nat} (h:i < l.length) (d:α):l.take (i + 1) = l.take i++ [l.getD i d]:=by
  rw [List.take_add_one]
  simp [List.getElem?_eq_getElem h]
theorem all_take_succ {α:Type} {l:List α} {i:Nat} (h:i < l.length) (d:α) (p:α→Bool):(l.take (i + 1)).all p = ((l.take i).all p&&p (l.getD i d)):=by
  rw [take_succ_getD h d,List.all_append]; simp
theorem getD_lt {α:Type} {l:List α} {i:Nat} (h:i < l.length) (d:α):l.getD i d = l[i]:=by simp [h]
theorem getD_mem {α:Type} {l:List α} {i:Nat} (h:i < l.length) (d:α):l.getD i d ∈ l:=by rw [getD_lt h]; exact List.getElem_mem h
theorem all_or_first {α:Type} (p:α→Bool) (d:α) (l:List α):l.all p = true∨∃ n,n < l.length∧p (l.getD n d) = false∧∀ i,i < n→p (l.getD i d) = true:=by
  induction l with
  | nil=>exact .inl rfl
  | cons x l ih=>
    cases hx:p x with
    | false=>exact .inr ⟨0,by simp,by simpa using hx,fun i hi=>by omega⟩
    | true=>
      rcases ih with ih | ⟨n,h1,h2,h3⟩
      · left; simp [hx,ih]
      · refine .inr ⟨n + 1,by simpa using h1,by simpa using h2,fun i hi=> ?_⟩
        cases i with
        | zero=>simpa using hx
        | succ i=>simpa using h3 i (by omega)
theorem all_getD {α:Type} {p:α→Bool} {l:List α} (h:l.all p = true) (d:α) {i:Nat} (hi:i < l.length):p (l.getD i d) = true:=
  List.all_eq_true.1 h _ (getD_mem hi d)
theorem not_all {α:Type} {p:α→Bool} {l:List α} {d:α} {n:Nat} (h:n < l.length) (hp:p (l.getD n d) = false):l.all p = false:=by
  rw [List.all_eq_false]
  exact ⟨_,getD_mem h d,by rw [hp]; simp⟩
theorem nat_or_first (P:Nat→Prop) [DecidablePred P]:∀ n,(∀ i,i < n→P i)∨∃ k,k < n∧¬ P k∧∀ i,i < k→P i
  | 0=>.inl fun i h=>by omega
  | n + 1=>by
    rcases nat_or_first P n with h | ⟨k,h1,h2,h3⟩
    · by_cases hn:P n
      · left
        intro i hi
        rcases Nat.lt_or_ge i n with h' | h'
        · exact h i h'
        · have:i = n:=by omega
          subst this; exact hn
      · exact .inr ⟨n,by omega,hn,h⟩
    · exact .inr ⟨k,by omega,h2,h3⟩
end Go.Proofs.YtipdidpalcmlhaaGreat.Ev
namespace Go.Proofs.YtipdidpalcmlhaaGreat.Co
open Go Ev
def mid (lo hi p:Int):Int:=lo + (hi - lo) / 4096 * p + (hi - lo) % 4096 * p / 4096
theorem mid_in {lo hi p:Int} (h:lo < hi) (h1:1≤p) (h2:p≤4095):lo≤mid lo hi p∧mid lo hi p < hi:=by
  unfold mid
  have hr:1≤hi - lo:=by omega
  have e:=Int.emod_add_mul_ediv (hi - lo) 4096
  have b0:0≤(hi - lo) % 4096:=Int.emod_nonneg _ (by omega)
  have b1:(hi - lo) % 4096 < 4096:=Int.emod_lt_of_pos _ (by omega)
  have a0:0≤(hi - lo) / 4096:=Int.ediv_nonneg (by omega) (by omega)
  generalize (hi - lo) % 4096 = b at *
  generalize (hi - lo) / 4096 = a at *
  have m1:0≤a * p:=Int.mul_nonneg a0 (by omega)
  have m2:a * p≤a * 4095:=Int.mul_le_mul_of_nonneg_left h2 a0
  have m3:0≤b * p:=Int.mul_nonneg b0 (by omega)
  have m4:b * p≤b * 4095:=Int.mul_le_mul_of_nonneg_left h2 b0
  generalize a * p = x at *
  generalize b * p = y at *
  omega
theorem mid_parts {lo hi p:Int} (h:lo≤hi) (hl:0≤lo) (hh:hi < 4294967296) (h1:1≤p) (h2:p≤4095):
    0≤(hi - lo) / 4096 * p∧(hi - lo) / 4096 * p < 4294967296∧0≤(hi - lo) % 4096 * p∧(hi - lo) % 4096 * p < 4294967296:=by
  have b0:0≤(hi - lo) % 4096:=Int.emod_nonneg _ (by omega)
  have b1:(hi - lo) % 4096 < 4096:=Int.emod_lt_of_pos _ (by omega)
  have a0:0≤(hi - lo) / 4096:=Int.ediv_nonneg (by omega) (by omega)
  have e:=Int.emod_add_mul_ediv (hi - lo) 4096
  generalize (hi - lo) % 4096 = b at *
  generalize (hi - lo) / 4096 = a at *
  have m1:0≤a * p:=Int.mul_nonneg a0 (by omega)
  have m2:a * p≤a * 4095:=Int.mul_le_mul_of_nonneg_left h2 a0
  have m3:0≤b * p:=Int.mul_nonneg b0 (by omega)
  have m4:b * p≤b * 4095:=Int.mul_le_mul_of_nonneg_left h2 b0
  generalize a * p = x at *
  generalize b * p = y at *
  omega
def same (lo hi:Int):Prop:=lo / 16777216 = hi / 16777216
instance (lo hi:Int):Decidable (same lo hi):=by unfold same; infer_instance
def nl (lo:Int):Int:=lo % 16777216 * 256
def nh (hi:Int):Int:=hi % 16777216 * 256 + 255
structure Rg (lo hi:Int):Prop where
  l:0≤lo
  m:lo≤hi
  h:hi < 4294967296
theorem Rg.next {lo hi:Int} (h:Rg lo hi) (hs:same lo hi):Rg (nl lo) (nh hi):=by
  obtain ⟨a,b,c⟩:=h
  unfold same at hs
  unfold nl nh
  constructor <;> omega
def nrm:Nat→Int→Int→Nat×Int×Int
  | 0,lo,hi=>(0,lo,hi)
  | n + 1,lo,hi=>if same lo hi then ((nrm n (nl lo) (nh hi)).1 + 1,(nrm n (nl lo) (nh hi)).2) else (0,lo,hi)
def nrmB:Nat→Int→Int→List Int
  | 0,_,_=>[]
  | n + 1,lo,hi=>if same lo hi then lo / 16777216::nrmB n (nl lo) (nh hi) else []
theorem nrm_le:∀ (n:Nat) (lo hi:Int),(nrm n lo hi).1≤n
  | 0,_,_=>Nat.le_refl _
  | n + 1,lo,hi=>by
    unfold nrm
    split
    · have:=nrm_le n (nl lo) (nh hi)
      show _ + 1≤n + 1
      omega
    · exact Nat.zero_le _
theorem nrm_rg:∀ (n:Nat) {lo hi:Int},Rg lo hi→Rg (nrm n lo hi).2.1 (nrm n lo hi).2.2
  | 0,_,_,h=>h
  | n + 1,lo,hi,h=>by
    unfold nrm
    split
    · rename_i hs
      exact nrm_rg n (h.next hs)
    · exact h
theorem nrm_same {n:Nat} {lo hi:Int} (h:same lo hi):(nrm (n + 1) lo hi).2 = (nrm n (nl lo) (nh hi)).2:=by
  rw [nrm,if_pos h]
theorem nrm_diff {n:Nat} {lo hi:Int} (h:¬ same lo hi):(nrm (n + 1) lo hi).2 = (lo,hi):=by
  rw [nrm,if_neg h]
theorem ends4 {lo hi:Int} (h:Rg lo hi) (h1:lo = 0) (h2:hi = 4294967295) {n:Nat}:¬ same (nrm (n + 1) lo hi).2.1 (nrm (n + 1) lo hi).2.2:=by
  have hs:¬ same lo hi:=by unfold same; omega
  rw [nrm_diff hs]
  exact hs
theorem ends3 {lo hi:Int} (h:Rg lo hi) (h1:lo % 16777216 = 0) (h2:hi % 16777216 = 16777215):¬ same (nrm 2 lo hi).2.1 (nrm 2 lo hi).2.2:=by
  by_cases hs:same lo hi
  · rw [nrm_same hs]
    exact ends4 (h.next hs) (by unfold nl; omega) (by unfold nh; omega)
  · rw [nrm_diff hs]
    exact hs
theorem ends2 {lo hi:Int} (h:Rg lo hi) (h1:lo % 65536 = 0) (h2:hi % 65536 = 65535):¬ same (nrm 3 lo hi).2.1 (nrm 3 lo hi).2.2:=by
  by_cases hs:same lo hi
  · rw [nrm_same hs]
    exact ends3 (h.next hs) (by unfold nl; omega) (by unfold nh; omega)
  · rw [nrm_diff hs]
    exact hs
theorem ends1 {lo hi:Int} (h:Rg lo hi) (h1:lo % 256 = 0) (h2:hi % 256 = 255):¬ same (nrm 4 lo hi).2.1 (nrm 4 lo hi).2.2:=by
  by_cases hs:same lo hi
  · rw [nrm_same hs]
    exact ends2 (h.next hs) (by unfold nl; omega) (by unfold nh; omega)
  · rw [nrm_diff hs]
    exact hs
theorem nrm_ends {lo hi:Int} (h:Rg lo hi):¬ same (nrm 5 lo hi).2.1 (nrm 5 lo hi).2.2:=by
  by_cases hs:same lo hi
  · rw [nrm_same hs]
    exact ends1 (h.next hs) (by unfold nl; omega) (by unfold nh; omega)
  · rw [nrm_diff hs]
    exact hs
theorem lt_of {lo hi:Int} (h:Rg lo hi) (hs:¬ same lo hi):lo < hi:=by
  obtain ⟨a,b,c⟩:=h
  unfold same at hs
  omega
def Byt (S:Nat→Int):Prop:=∀ n,0≤S n∧S n≤255
def win (S:Nat→Int) (n:Nat):Int:=S n * 16777216 + S (n + 1) * 65536 + S (n + 2) * 256 + S (n + 3)
theorem win_next {S:Nat→Int} (h:Byt S) (n:Nat):win S (n + 1) = win S n % 16777216 * 256 + S (n + 4):=by
  have a:=h n; have b:=h (n + 1); have c:=h (n + 2); have d:=h (n + 3); have e:=h (n + 4)
  have e0:win S n = S n * 16777216 + S (n + 1) * 65536 + S (n + 2) * 256 + S (n + 3):=rfl
  have e1:win S (n + 1) = S (n + 1) * 16777216 + S (n + 2) * 65536 + S (n + 3) * 256 + S (n + 4):=rfl
  omega
theorem win_rg {S:Nat→Int} (h:Byt S) (n:Nat):0≤win S n∧win S n < 4294967296:=by
  have a:=h n; have b:=h (n + 1); have c:=h (n + 2); have d:=h (n + 3)
  have e0:win S n = S n * 16777216 + S (n + 1) * 65536 + S (n + 2) * 256 + S (n + 3):=rfl
  omega
open Go Ev
def q:Nat→Int
  | 0=>2048
  | k + 1=>q k - q k / 8
theorem q_rg:∀ k:Fin 32,1≤q k.val∧q k.val≤2048:=by decide
def pr (kd s:Int):Int:=
  if kd = 1 then min (max ((2 * (s % 256) + 1) * 4096 / (2 * (s / 256) + 2 * (s % 256) + 2)) 1) 4095
  else if 32≤s then 4096 - q (s - 32).toNat else q s.toNat
def most (kd:Int):Int:=if kd = 1 then 65536 else 64
def vst (kd s:Int):Prop:=0≤s∧s < most kd
theorem pr_rg {kd s:Int} (hk:kd = 0∨kd = 1) (h:vst kd s):1≤pr kd s∧pr kd s≤4095:=by
  unfold vst most at h
  unfold pr
  by_cases h1:kd = 1
  · rw [if_pos h1]
    omega
  · rw [if_neg h1] at h ⊢
    split
    · have:=q_rg ⟨(s - 32).toNat,by omega⟩
      simp only at this
      omega
    · have:=q_rg ⟨s.toNat,by omega⟩
      simp only at this
      omega
def nx (kd s bit:Int):Int:=
  if kd = 1 then
    (if bit = 0 then (if s / 256 = 255 then 256 * 128 + s % 256 / 2 else 256 * (s / 256 + 1) + s % 256)
     else (if s % 256 = 255 then 256 * (s / 256 / 2) + 128 else 256 * (s / 256) + (s % 256 + 1)))
  else if bit = s / 32 then 32 * (s / 32) + min (s % 32 + 1) 31
  else if s % 32 = 0 then 32 * bit
  else 32 * (s / 32) + (s % 32 - (1 + s % 32 / 4))
theorem nx_rg {kd s bit:Int} (hk:kd = 0∨kd = 1) (h:vst kd s) (hb:bit = 0∨bit = 1):vst kd (nx kd s bit):=by
  unfold vst most at *
  unfold nx
  by_cases h1:kd = 1
  · rw [if_pos h1] at h ⊢
    rw [if_pos h1]
    split <;> split <;> omega
  · rw [if_neg h1] at h ⊢
    rw [if_neg h1]
    split
    · omega
    · split <;> omega
structure Iv where
  st:List Int
  lo:Int
  hi:Int
structure Iv.Ok (kd:Int) (x:Iv):Prop where
  k:kd = 0∨kd = 1
  r:Rg x.lo x.hi
  d:¬ same x.lo x.hi
  s:∀ s ∈ x.st,vst kd s
def Iv.mid (kd:Int) (x:Iv) (c:Int):Int:=Co.mid x.lo x.hi (pr kd (x.st.getD c.toNat 0))
def Iv.clo (kd:Int) (x:Iv) (c b:Int):Int:=if b = 1 then x.lo else x.mid kd c + 1
def Iv.chi (kd:Int) (x:Iv) (c b:Int):Int:=if b = 1 then x.mid kd c else x.hi
def Iv.many (kd:Int) (x:Iv) (c b:Int):Nat:=(nrm 5 (x.clo kd c b) (x.chi kd c b)).1
def Iv.bytes (kd:Int) (x:Iv) (c b:Int):List Int:=nrmB 5 (x.clo kd c b) (x.chi kd c b)
def Iv.next (kd:Int) (x:Iv) (c b:Int):Iv:=
  ⟨x.st.set c.toNat (nx kd (x.st.getD c.toNat 0) b),(nrm 5 (x.clo kd c b) (x.chi kd c b)).2.1,(nrm 5 (x.clo kd c b) (x.chi kd c b)).2.2⟩
theorem Iv.next_len (kd:Int) (x:Iv) (c b:Int):(x.next kd c b).st.length = x.st.length:=by simp [Iv.next]
theorem Iv.Ok.get {kd:Int} {x:Iv} (h:x.Ok kd) {c:Int} (h0:0≤c) (h1:c < x.st.length):vst kd (x.st.getD c.toNat 0):=h.s _ (getD_mem (by omega) 0)
theorem Iv.Ok.mid_in {kd:Int} {x:Iv} (h:x.Ok kd) {c:Int} (h0:0≤c) (h1:c < x.st.length):x.lo≤x.mid kd c∧x.mid kd c < x.hi:=by
  obtain ⟨a,b⟩:=pr_rg h.k (h.get h0 h1)
  exact Co.mid_in (lt_of h.r h.d) a b
theorem Iv.Ok.cut {kd:Int} {x:Iv} (h:x.Ok kd) {c b:Int} (h0:0≤c) (h1:c < x.st.length):Rg (x.clo kd c b) (x.chi kd c b):=by
  have hm:=h.mid_in h0 h1
  obtain ⟨a,b,c⟩:=h.r
  unfold Iv.clo Iv.chi
  split <;> constructor <;> omega
theorem Iv.Ok.next {kd:Int} {x:Iv} (h:x.Ok kd) {c b:Int} (h0:0≤c) (h1:c < x.st.length) (hb:b = 0∨b = 1):(x.next kd c b).Ok kd:=by
  refine ⟨h.k,nrm_rg 5 (h.cut h0 h1),nrm_ends (h.cut h0 h1),fun s hs=> ?_⟩
  rcases List.mem_or_eq_of_mem_set hs with hs | rfl
  · exact h.s s hs
  · exact nx_rg h.k (h.get h0 h1) hb
def run (kd:Int):Iv→List Int→List (Int×Int)→Iv×List Int
  | x,out,[]=>(x,out)
  | x,out,(c,b)::r=>run kd (x.next kd c b) (out++x.bytes kd c b) r
def Evs (n:Nat) (l:List (Int×Int)):Prop:=∀ e ∈ l,0≤e.1∧e.1 < (n:Int)∧(e.2 = 0∨e.2 = 1)
def bitOf (kd:Int) (S:Nat→Int) (x:Iv) (n:Nat) (c:Int):Int:=if win S n≤x.mid kd c then 1 else 0
def strm (code:List Int) (n:Nat):Int:=code.getD n 0
theorem strm_byt {code:List Int} (h:∀ v ∈ code,0≤v∧v≤255):Byt (strm code):=by
  intro n
  unfold strm
  by_cases hn:n < code.length
  · exact h _ (getD_mem hn 0)
  · rw [List.getD_eq_getElem?_getD,List.getElem?_eq_none (by omega)]
    simp
def get (kd:Int) (code:List Int) (x:Iv) (k:Nat) (c:Int):Option (Int×Iv×Nat):=
  if code.length < k + x.many kd c (bitOf kd (strm code) x k c) then none
  else some (bitOf kd (strm code) x k c,x.next kd c (bitOf kd (strm code) x k c),k + x.many kd c (bitOf kd (strm code) x k c))
theorem bitOf_01 (kd:Int) (S:Nat→Int) (x:Iv) (n:Nat) (c:Int):bitOf kd S x n c = 0∨bitOf kd S x n c = 1:=by
  unfold bitOf
  split
  · exact .inr rfl
  · exact .inl rfl
end Go.Proofs.YtipdidpalcmlhaaGreat.Co
namespace Go.Proofs.YtipdidpalcmlhaaGreat.Bm
open Go Ev
theorem cd {α:Sort _} {p:Prop} {i:Decidable p} {x y:α}:(bif @decide p i then x else y) = @ite α p i x y:=by by_cases h:p <;> simp [h]
theorem cb {α:Sort _} {a b:Int} {x y:α}:(bif a==b then x else y) = if a = b then x else y:=by
  by_cases h:a = b
  · simp [h]
  · rw [if_neg h,cond_f (by simpa using h)]
theorem cn {α:Sort _} {a b:Int} {x y:α}:(bif a != b then x else y) = if a = b then y else x:=by
  by_cases h:a = b
  · simp [h]
  · rw [if_neg h,cond_t (by simpa using h)]
theorem mul_le {w h a b:Int} (h0:0≤w) (h1:w≤a) (h2:0≤h) (h3:h≤b):0≤w * h∧w * h≤a * b:=
  ⟨Int.mul_nonneg h0 h2,Int.mul_le_mul h1 h3 h2 (by omega)⟩
def fit (w h:Int):Bool:=decide (0≤w∧0≤h∧w≤200∧h≤200∧w * h≤8192)
theorem fit_iff {w h:Int}:fit w h = true↔0≤w∧0≤h∧w≤200∧h≤200∧w * h≤8192:=by simp [fit]
theorem fits_ok {fl:Nat} {w h:Int} {K:Bool→Option Ans}:F_bitmap_fits fl w h K = K (fit w h):=by
  unfold F_bitmap_fits fit
  simp only [cd]
  split
  · split
    · split
      · split
        · have:=mul_le (a:=200) (b:=200) (show 0≤w by omega) (by omega) (show 0≤h by omega) (by omega)
          rw [wrap64 (by omega) (by omega)]
          exact congrArg K (decide_eq_decide.2 (by omega))
        · exact congrArg K (decide_eq_false (by omega)).symm
      · exact congrArg K (decide_eq_false (by omega)).symm
    · exact congrArg K (decide_eq_false (by omega)).symm
  · exact congrArg K (decide_eq_false (by omega)).symm
def valid (w h:Int) (pix:List Int):Bool:=fit w h&&decide ((pix.length:Int) = w * h)&&pix.all fun x=>decide (x≤1)
theorem valid_iff {w h:Int} {pix:List Int}:valid w h pix = true↔(0≤w∧0≤h∧w≤200∧h≤200∧w * h≤8192)∧(pix.length:Int) = w * h∧∀ x ∈ pix,x≤1:=by
  unfold valid
  rw [Bool.and_eq_true,Bool.and_eq_true,fit_iff,decide_eq_true_eq,List.all_eq_true]
  simp [and_assoc]
theorem fit_mul {w h:Int} (hf:fit w h = true):IntKind.i64.wrap (w * h) = w * h:=by
  obtain ⟨h1,h2,h3,h4,h5⟩:=fit_iff.1 hf
  have:=mul_le (a:=200) (b:=200) h1 h3 h2 h4
  exact wrap64 (by omega) (by omega)
theorem valid_ok {fl:Nat} (hfl:9223372036854775808≤fl) {w h:Int} {pix:List Int} {K:Bool→Option Ans}:F_bitmap_Valid fl w h pix K = K (valid w h pix):=by
  unfold F_bitmap_Valid Fg_bitmap_Valid
  rw [fits_ok]
  unfold valid
  cases hf:fit w h with
  | false=>rfl
  | true=>
  rw [cond_f (b:=!true) rfl,fit_mul hf,cn]
  obtain ⟨h1,h2,h3,h4,h5⟩:=fit_iff.1 hf
  split
  rotate_left
  · rename_i hne
    rw [decide_eq_false hne]
    rfl
  rename_i he
  rw [decide_eq_true he]
  simp only [Bool.true_and]
  unfold L_bitmap_Valid_0
  rcases all_or_first (fun x=>decide (x≤1)) 0 pix with ha | ⟨n,hn,hb,hi⟩
  · rw [ha]
    refine iter_seq (step:=S_bitmap_Valid_0 fl) (fun i:Nat=>(pix,(pix.length:Int),(i:Int))) pix.length rfl (fun i hi c=> ?_) (fun c=> ?_) (by omega)
    · have g:=all_getD ha 0 hi
      simp only [decide_eq_true_eq] at g
      simp (disch:=omega) only [S_bitmap_Valid_0,Sg_bitmap_Valid_0,dec_t,dec_f,wrap64,Int.toNat_natCast]
      rfl
    · simp (disch:=omega) only [S_bitmap_Valid_0,Sg_bitmap_Valid_0,dec_f]
  · rw [not_all hn hb]
    refine iter_seq (step:=S_bitmap_Valid_0 fl) (fun i:Nat=>(pix,(pix.length:Int),(i:Int))) n rfl (fun i hin c=> ?_) (fun c=> ?_) (by omega)
    · have g:=hi i hin
      simp only [decide_eq_true_eq] at g
      simp (disch:=omega) only [S_bitmap_Valid_0,Sg_bitmap_Valid_0,dec_t,dec_f,wrap64,Int.toNat_natCast]
      rfl
    · simp only [decide_eq_false_iff_not] at hb
      simp (disch:=omega) only [S_bitmap_Valid_0,Sg_bitmap_Valid_0,dec_t,Int.toNat_natCast]
def ins (w h x y:Int):Prop:=0≤x∧0≤y∧x < w∧y < h
instance {w h x y:Int}:Decidable (ins w h x y):=by unfold ins; infer_instance
def px (w h:Int) (pix:List Int) (x y:Int):Int:=if ins w h x y then pix.getD (y * w + x).toNat 0 else 0
theorem place {w h x y:Int} (hi:ins w h x y):0≤y * w + x∧y * w + x < w * h:=by
  obtain ⟨h1,h2,h3,h4⟩:=hi
  have a:0≤y * w:=Int.mul_nonneg h2 (by omega)
  have b:(y + 1) * w≤h * w:=Int.mul_le_mul_of_nonneg_right (by omega) (by omega)
  rw [Int.add_mul,Int.one_mul,Int.mul_comm h w] at b
  omega
theorem place_y {w h x y:Int} (hi:ins w h x y):0≤y * w∧y * w < w * h:=by
  obtain ⟨h1,h2,h3,h4⟩:=hi
  have a:0≤y * w:=Int.mul_nonneg h2 (by omega)
  have b:(y + 1) * w≤h * w:=Int.mul_le_mul_of_nonneg_right (by omega) (by omega)
  rw [Int.add_mul,Int.one_mul,Int.mul_comm h w] at b
  omega
theorem px_01 {w h:Int} {pix:List Int} (h0:∀ v ∈ pix,0≤v∧v≤1) (x y:Int):0≤px w h pix x y∧px w h pix x y≤1:=by
  unfold px
  split
  · by_cases hl:(y * w + x).toNat < pix.length
    · exact h0 _ (getD_mem hl 0)
    · rw [List.getD_eq_getElem?_getD,List.getElem?_eq_none (by omega)]
      simp
  · omega
end Go.Proofs.YtipdidpalcmlhaaGreat.Bm
namespace Go.Proofs.YtipdidpalcmlhaaGreat.Co
open Go Ev
theorem wrapU {x:Int} (h1:0≤x) (h2:x < 18446744073709551616):IntKind.u64.wrap x = x:=by
  simp [IntKind.wrap,IntKind.min,IntKind.max,IntKind.signed,IntKind.bits]
  omega
theorem shrU {x:Int} (h:0≤x):ishr .u64 x 24 = x / 16777216:=by
  unfold ishr
  have hb:min (24:Int).toNat IntKind.u64.bits = 24:=by decide
  rw [hb,Int.fdiv_eq_ediv_of_nonneg _ (by decide)]
  rfl
theorem nlU {x:Int} (h1:0≤x) (h2:x < 4294967296):iand .u64 (ishl .u64 x 8) 4294967295 = nl x:=by
  unfold ishl
  have hb:min (8:Int).toNat IntKind.u64.bits = 8:=by decide
  have e:x * 2 ^ 8 = x * 256:=rfl
  rw [hb,e,wrapU (by omega) (by omega)]
  unfold iand nl
  have e1:IntKind.u64.bits = 64:=rfl
  rw [e1,BitVec.toNat_and,ofInt_toNat (by omega) (by omega),ofInt_toNat (by omega) (by omega)]
  have h3:(x * 256).toNat&&& (4294967295:Int).toNat = (x * 256).toNat % 2 ^ 32:=Nat.and_two_pow_sub_one_eq_mod _ 32
  rw [h3,wrapU (by omega) (by omega)]
  omega
theorem nhU {x:Int} (h1:0≤x) (h2:x < 4294967296):ior .u64 (iand .u64 (ishl .u64 x 8) 4294967295) 255 = nh x:=by
  rw [nlU h1 h2]
  unfold ior nh nl
  have e1:IntKind.u64.bits = 64:=rfl
  rw [e1,BitVec.toNat_or,ofInt_toNat (by omega) (by omega),ofInt_toNat (by omega) (by omega)]
  have h3:(x % 16777216 * 256).toNat = (x % 16777216).toNat <<< 8:=by rw [Nat.shiftLeft_eq]; omega
  have h4:(255:Int).toNat = 255:=rfl
  rw [h3,h4, ← Nat.shiftLeft_add_eq_or_of_lt (by decide),Nat.shiftLeft_eq,wrapU (by omega) (by omega)]
  omega
theorem chance0 {fl:Nat}:∀ (n:Fin 64) (K:Int→Option Ans),F_coder_table_chance_bb9 fl 0 (n.val:Int) K = K (pr 0 (n.val:Int))
  | ⟨0,_⟩,K=>rfl
  | ⟨1,_⟩,K=>rfl
  | ⟨2,_⟩,K=>rfl
  | ⟨3,_⟩,K=>rfl
  | ⟨4,_⟩,K=>rfl
  | ⟨5,_⟩,K=>rfl
  | ⟨6,_⟩,K=>rfl
  | ⟨7,_⟩,K=>rfl
  | ⟨8,_⟩,K=>rfl
  | ⟨9,_⟩,K=>rfl
  | ⟨10,_⟩,K=>rfl
  | ⟨11,_⟩,K=>rfl
  | ⟨12,_⟩,K=>rfl
  | ⟨13,_⟩,K=>rfl
  | ⟨14,_⟩,K=>rfl
  | ⟨15,_⟩,K=>rfl
  | ⟨16,_⟩,K=>rfl
  | ⟨17,_⟩,K=>rfl
  | ⟨18,_⟩,K=>rfl
  | ⟨19,_⟩,K=>rfl
  | ⟨20,_⟩,K=>rfl
  | ⟨21,_⟩,K=>rfl
  | ⟨22,_⟩,K=>rfl
  | ⟨23,_⟩,K=>rfl
  | ⟨24,_⟩,K=>rfl
  | ⟨25,_⟩,K=>rfl
  | ⟨26,_⟩,K=>rfl
  | ⟨27,_⟩,K=>rfl
  | ⟨28,_⟩,K=>rfl
  | ⟨29,_⟩,K=>rfl
  | ⟨30,_⟩,K=>rfl
  | ⟨31,_⟩,K=>rfl
  | ⟨32,_⟩,K=>rfl
  | ⟨33,_⟩,K=>rfl
  | ⟨34,_⟩,K=>rfl
  | ⟨35,_⟩,K=>rfl
  | ⟨36,_⟩,K=>rfl
  | ⟨37,_⟩,K=>rfl
  | ⟨38,_⟩,K=>rfl
  | ⟨39,_⟩,K=>rfl
  | ⟨40,_⟩,K=>rfl
  | ⟨41,_⟩,K=>rfl
  | ⟨42,_⟩,K=>rfl
  | ⟨43,_⟩,K=>rfl
  | ⟨44,_⟩,K=>rfl
  | ⟨45,_⟩,K=>rfl
  | ⟨46,_⟩,K=>rfl
  | ⟨47,_⟩,K=>rfl
  | ⟨48,_⟩,K=>rfl
  | ⟨49,_⟩,K=>rfl
  | ⟨50,_⟩,K=>rfl
  | ⟨51,_⟩,K=>rfl
  | ⟨52,_⟩,K=>rfl
  | ⟨53,_⟩,K=>rfl
  | ⟨54,_⟩,K=>rfl
  | ⟨55,_⟩,K=>rfl
  | ⟨56,_⟩,K=>rfl
  | ⟨57,_⟩,K=>rfl
  | ⟨58,_⟩,K=>rfl
  | ⟨59,_⟩,K=>rfl
  | ⟨60,_⟩,K=>rfl
  | ⟨61,_⟩,K=>rfl
  | ⟨62,_⟩,K=>rfl
  | ⟨63,_⟩,K=>rfl
  | ⟨n + 64,h⟩,_=>absurd h (by omega)
theorem tdiv_e {x k:Int} (h:0≤x):x.tdiv k = x / k:=Int.tdiv_eq_ediv_of_nonneg h
theorem tmod_e {x k:Int} (h:0≤x):x.tmod k = x % k:=Int.tmod_eq_emod_of_nonneg h
theorem chance {fl:Nat} {kd s:Int} (hk:kd = 0∨kd = 1) (h:vst kd s) {K:Int→Option Ans}:F_coder_table_chance_bb9 fl kd s K = K (pr kd s):=by
  rcases hk with rfl | rfl
  · obtain ⟨h0,h1⟩:=h
    have h1:s < 64:=h1
    have:=chance0 (fl:=fl) ⟨s.toNat,by omega⟩ K
    simp only at this
    rwa [show ((s.toNat:Nat):Int) = s by omega] at this
  · obtain ⟨h0,h1⟩:=h
    have h1:s < 65536:=h1
    unfold F_coder_table_chance_bb9 pr
    rw [cond_t (b:=(1:Int)==1) rfl,if_pos rfl,tdiv_e h0,tmod_e h0]
    have a0:0≤s / 256:=by omega
    have a1:s / 256≤255:=by omega
    have b0:0≤s % 256:=by omega
    have b1:s % 256≤255:=by omega
    generalize s / 256 = a at *
    generalize s % 256 = b at *
    rw [w6 (x:=a),w6 (x:=2 * a),w6 (x:=2 * b),w6 (x:=2 * a + 2 * b),w6 (x:=2 * a + 2 * b + 2),
      w6 (x:=2 * b + 1),w6 (x:=(2 * b + 1) * 4096),tdiv_e (by omega)]
    have q0:0≤(2 * b + 1) * 4096 / (2 * a + 2 * b + 2):=Int.ediv_nonneg (by omega) (by omega)
    have q1:(2 * b + 1) * 4096 / (2 * a + 2 * b + 2)≤(2 * b + 1) * 4096:=Int.ediv_le_self _ (by omega)
    rw [dec_f (by omega),wrap64 (by omega) (by omega)]
    generalize (2 * b + 1) * 4096 / (2 * a + 2 * b + 2) = z at *
    congr 1
    by_cases c1:1 > z
    · rw [dec_t c1,dec_f (by omega),Int.max_eq_right (by omega),Int.min_eq_left (by omega)]
    · rw [dec_f c1,Int.max_eq_left (by omega)]
      by_cases c2:4095 < z
      · rw [dec_t c2,Int.min_eq_right (by omega)]
      · rw [dec_f c2,Int.min_eq_left (by omega)]
theorem next {fl:Nat} {kd s b:Int} (hk:kd = 0∨kd = 1) (h:vst kd s) (hb:b = 0∨b = 1) {K:Int→Option Ans}:F_coder_next fl kd s b K = K (nx kd s b):=by
  obtain ⟨h0,h1⟩:=h
  unfold F_coder_next nx
  rw [tdiv_e h0,tdiv_e h0,tmod_e h0,tmod_e h0]
  rcases hk with rfl | rfl
  · have h1:s < 64:=h1
    rw [cond_f (b:=(0:Int)==1) rfl,if_neg (by decide)]
    have a0:0≤s / 32:=by omega
    have a1:s / 32≤1:=by omega
    have b0:0≤s % 32:=by omega
    have b1:s % 32≤31:=by omega
    generalize s / 32 = m at *
    generalize s % 32 = k at *
    have t4:k.tdiv 4 = k / 4:=tdiv_e b0
    rw [w6 (x:=m),t4,w6 (x:=k + 1),w6 (x:=32 * m)]
    rw [Bm.cb,Bm.cb]
    by_cases c1:b = m
    · rw [if_pos c1,if_pos c1]
      by_cases c2:31 < k + 1
      · rw [dec_t c2,wrap64 (by omega) (by omega),Int.min_eq_right (by omega)]
      · rw [dec_f c2,wrap64 (by omega) (by omega),Int.min_eq_left (by omega)]
    · rw [if_neg c1,if_neg c1]
      by_cases c2:k = 0
      · rw [if_pos c2,if_pos c2,w6 (x:=32 * b),wrap64 (by omega) (by omega),c2,Int.add_zero]
      · rw [if_neg c2,if_neg c2,w6 (x:=k / 4),w6 (x:=1 + k / 4),w6 (x:=k - (1 + k / 4)),wrap64 (by omega) (by omega)]
  · have h1:s < 65536:=h1
    rw [cond_t (b:=(1:Int)==1) rfl,if_pos rfl]
    have a0:0≤s / 256:=by omega
    have a1:s / 256≤255:=by omega
    have b0:0≤s % 256:=by omega
    have b1:s % 256≤255:=by omega
    generalize s / 256 = m at *
    generalize s % 256 = k at *
    have t2:k.tdiv 2 = k / 2:=tdiv_e b0
    have t3:m.tdiv 2 = m / 2:=tdiv_e a0
    have w1:IntKind.i64.wrap m = m:=wrap64 (by omega) (by omega)
    have w2:IntKind.i64.wrap (m / 2) = m / 2:=wrap64 (by omega) (by omega)
    have w3:IntKind.i64.wrap (k / 2) = k / 2:=wrap64 (by omega) (by omega)
    rw [w1,t2,t3,w2,w3]
    rcases hb with rfl | rfl
    · rw [dec_t (p:=(0:Int)≤0∧(0:Int) < ((2:Nat):Int)) (by decide),dec_t (p:=(0:Int) = ((0:Nat):Int)) rfl,if_pos rfl,Bm.cb]
      by_cases c1:m = 255
      · rw [if_pos c1,if_pos c1]
        simp (disch:=decide) only [dec_t]
        rw [w6 (x:=m / 2 + 1),w6 (x:=256 * (m / 2 + 1)),wrap64 (by omega) (by omega)]
        congr 1
        omega
      · rw [if_neg c1,if_neg c1]
        simp (disch:=decide) only [dec_t]
        rw [w6 (x:=m + 1),w6 (x:=256 * (m + 1)),wrap64 (by omega) (by omega)]
    · rw [dec_t (p:=(0:Int)≤1∧(1:Int) < ((2:Nat):Int)) (by decide),dec_f (p:=(1:Int) = ((0:Nat):Int)) (by decide),dec_t (p:=(1:Int) = ((1:Nat):Int)) rfl,if_neg (by decide),Bm.cb]
      by_cases c1:k = 255
      · rw [if_pos c1,if_pos c1]
        simp (disch:=decide) only [dec_t,dec_f]
        rw [w6 (x:=k / 2 + 1),w6 (x:=256 * (m / 2)),wrap64 (by omega) (by omega)]
        congr 1
        omega
      · rw [if_neg c1,if_neg c1]
        simp (disch:=decide) only [dec_t,dec_f]
        rw [w6 (x:=k + 1),w6 (x:=256 * m),wrap64 (by omega) (by omega)]
open Go Ev
theorem clone_ok {fl:Nat} {kd:Int} {st:List Int} (h:st.length≤1000000) {K:Int×List Int→Option Ans}:F_coder_clone fl kd st K = K (kd,st):=by
  unfold F_coder_clone
  rw [dec_t (by omega),List.nil_append]
theorem begin_ok {fl:Nat} {kd:Int} {st:List Int} (h:st.length≤1000000) {K:Int×Int×Int×List Int→Option Ans}:F_coder_begin fl kd st K = K (kd,0,4294967295,st):=by
  unfold F_coder_begin Fg_coder_begin F_coder_chances
  rw [clone_ok h]
def vM (kd:Int) (st:List Int):Bool:=decide (kd = 0∨kd = 1)&&decide (st.length≤8192)&&st.all fun s=>decide (0≤s∧s < most kd)
theorem valid_loop {fl:Nat} (hfl:9223372036854775808≤fl) {e:Int} {st:List Int} (hl:st.length≤8192) {ret:Bool→Option Ans} {b:Unit→Option Ans}:
    L_coder_Valid_0 fl (e,st,(st.length:Int),0) ret b = if st.all (fun s=>decide (0≤s∧s < e)) = true then b () else ret false:=by
  unfold L_coder_Valid_0
  rcases all_or_first (fun s=>decide (0≤s∧s < e)) 0 st with ha | ⟨n,hn,hb,hi⟩
  · rw [if_pos ha]
    refine iter_to (step:=S_coder_Valid_0 fl) (fun i:Nat=>(e,st,(st.length:Int),(i:Int))) st.length (fun i hi c=> ?_) (fun c=> ?_) (by omega)
    · have g:=all_getD ha 0 hi
      simp only [decide_eq_true_eq] at g
      simp only [S_coder_Valid_0]
      rw [dec_t (by omega),dec_t (by omega),Int.toNat_natCast,dec_f (by omega),dec_f (by omega),wrap64 (by omega) (by omega)]
      rfl
    · simp only [S_coder_Valid_0]
      rw [dec_f (by omega)]
  · rw [if_neg (by rw [not_all hn hb]; simp)]
    refine iter_to (step:=S_coder_Valid_0 fl) (fun i:Nat=>(e,st,(st.length:Int),(i:Int))) n (fun i hin c=> ?_) (fun c=> ?_) (by omega)
    · have g:=hi i hin
      simp only [decide_eq_true_eq] at g
      simp only [S_coder_Valid_0]
      rw [dec_t (by omega),dec_t (by omega),Int.toNat_natCast,dec_f (by omega),dec_f (by omega),wrap64 (by omega) (by omega)]
      rfl
    · simp only [decide_eq_false_iff_not] at hb
      simp only [S_coder_Valid_0]
      rw [dec_t (by omega),dec_t (by omega),Int.toNat_natCast]
      by_cases h0:st.getD n 0 < 0
      · rw [dec_t h0]
      · rw [dec_f h0,dec_t (by omega)]
theorem cvalid {fl:Nat} (hfl:9223372036854775808≤fl) {kd:Int} {st:List Int} {K:Bool→Option Ans}:F_coder_Valid fl kd st K = K (vM kd st):=by
  unfold F_coder_Valid vM
  by_cases hk:kd = 0∨kd = 1
  · by_cases hl:st.length≤8192
    · rcases hk with rfl | rfl
      · rw [cond_f (b:=(0:Int) != 0) rfl,dec_f (by omega),cond_f (b:=(0:Int)==1) rfl,valid_loop hfl hl,decide_eq_true hl]
        show (if (st.all fun s=>decide (0≤s∧s < 64)) = true then K true else K false) = K (true&&true&&st.all fun s=>decide (0≤s∧s < 64))
        cases st.all _ <;> rfl
      · rw [cond_t (b:=(1:Int) != 0) rfl,cond_f (b:=(1:Int) != 1) rfl,dec_f (by omega),cond_t (b:=(1:Int)==1) rfl,valid_loop hfl hl,decide_eq_true hl]
        show (if (st.all fun s=>decide (0≤s∧s < 65536)) = true then K true else K false) = K (true&&true&&st.all fun s=>decide (0≤s∧s < 65536))
        cases st.all _ <;> rfl
    · simp (disch:=omega) only [dec_t]
      rw [decide_eq_false hl,Bool.and_false,Bool.false_and]
      cases kd != 0 <;> cases kd != 1 <;> rfl
  · have h0:(kd != 0) = true:=by simp; omega
    have h1:(kd != 1) = true:=by simp; omega
    rw [h0,h1,decide_eq_false hk]
    rfl
theorem ok_new {kd:Int} {st:List Int} (hv:vM kd st = true):(Iv.mk st 0 4294967295).Ok kd:=by
  unfold vM at hv
  simp only [Bool.and_eq_true,decide_eq_true_eq,List.all_eq_true] at hv
  exact ⟨hv.1.1,⟨(show (0:Int)≤0 by decide),(show (0:Int)≤4294967295 by decide),(show (4294967295:Int) < 4294967296 by decide)⟩,(show ¬ same 0 4294967295 by decide),fun s hs=>hv.2 s hs⟩
theorem vM_zeros {kd:Int} (hk:kd = 0∨kd = 1) {n:Nat} (hn:n≤8192):vM kd (List.replicate n 0) = true:=by
  unfold vM most
  simp only [Bool.and_eq_true,decide_eq_true_eq,List.all_eq_true,List.length_replicate]
  refine ⟨⟨hk,hn⟩,fun s hs=> ?_⟩
  have:=(List.mem_replicate.1 hs).2
  split <;> omega
open Go Ev
theorem q_all:∀ k:Fin 32,0≤q k.val∧q k.val≤2048:=by decide
theorem unlikely {fl:Nat} (hfl:9223372036854775808≤fl) {n:Nat} (hn:n < 32) {K:Int→Option Ans}:F_ref02_unlikely fl (n:Int) K = K (q n):=by
  unfold F_ref02_unlikely L_ref02_unlikely_0
  refine iter_to (step:=S_ref02_unlikely_0 fl) (fun i:Nat=>((n:Int),q i,(i:Int))) n (fun i hi c=> ?_) (fun c=> ?_) (by omega)
  · obtain ⟨a,b⟩:=q_all ⟨i,by omega⟩
    simp only at a b
    simp only [S_ref02_unlikely_0]
    rw [dec_t (by omega),tdiv_e a,w6 (x:=q i / 8),w6 (x:=q i - q i / 8),wrap64 (by omega) (by omega)]
    rfl
  · simp only [S_ref02_unlikely_0]
    rw [dec_f (by omega)]
theorem likely {fl:Nat} (hfl:9223372036854775808≤fl) {kd s:Int} (hk:kd = 0∨kd = 1) (h:vst kd s) {K:Int→Option Ans}:F_ref02_Likely fl kd s K = K (pr kd s):=by
  rcases hk with rfl | rfl
  · obtain ⟨h0,h1⟩:=h
    have h1:s < 64:=h1
    unfold F_ref02_Likely Fg_ref02_Likely pr
    have e:s.tmod 32 = ((s.toNat % 32:Nat):Int):=by rw [tmod_e h0]; omega
    rw [cond_t (b:=(0:Int)==0) rfl,e,unlikely hfl (by omega),if_neg (by decide)]
    try dsimp only
    by_cases c1:s < 32
    · rw [dec_t c1,if_neg (by omega),show s.toNat % 32 = s.toNat by omega]
    · rw [dec_f c1,if_pos (by omega),unlikely hfl (by omega),show s.toNat % 32 = (s - 32).toNat by omega]
      obtain ⟨a,b⟩:=q_all ⟨(s - 32).toNat,by omega⟩
      simp only at a b
      rw [wrap64 (by omega) (by omega)]
  · exact (show F_ref02_Likely fl 1 s K = F_coder_table_chance_bb9 fl 1 s K from rfl).trans (chance (.inr rfl) h)
theorem after {fl:Nat} {kd s b:Int} (hk:kd = 0∨kd = 1) (h:vst kd s) (hb:b = 0∨b = 1) {K:Int→Option Ans}:F_ref02_After fl kd s b K = K (nx kd s b):=by
  rcases hk with rfl | rfl
  · obtain ⟨h0,h1⟩:=h
    have h1:s < 64:=h1
    unfold F_ref02_After nx
    rw [tdiv_e h0,tmod_e h0,cond_t (b:=(0:Int)==0) rfl,if_neg (by decide)]
    have a0:0≤s / 32:=by omega
    have a1:s / 32≤1:=by omega
    have b0:0≤s % 32:=by omega
    have b1:s % 32≤31:=by omega
    generalize s / 32 = m at *
    generalize s % 32 = k at *
    have t4:k.tdiv 4 = k / 4:=tdiv_e b0
    rw [w6 (x:=m),t4,w6 (x:=k + 1),w6 (x:=32 * m),w6 (x:=32 * m + k)]
    rw [Bm.cb,Bm.cb]
    by_cases c1:b = m
    · rw [if_pos c1,if_pos c1]
      by_cases c2:31 < k + 1
      · rw [dec_t c2,wrap64 (by omega) (by omega),Int.min_eq_right (by omega)]
      · rw [dec_f c2,wrap64 (by omega) (by omega),Int.min_eq_left (by omega)]
    · rw [if_neg c1,if_neg c1]
      by_cases c2:k = 0
      · rw [if_pos c2,if_pos c2,wrap64 (by omega) (by omega)]
      · rw [if_neg c2,if_neg c2,w6 (x:=32 * m + k - 1),w6 (x:=k / 4),wrap64 (by omega) (by omega)]
        congr 1
        omega
  · exact (show F_ref02_After fl 1 s b K = F_coder_next fl 1 s b K from rfl).trans (next (.inr rfl) h hb)
theorem rmid {fl:Nat} {lo hi p:Int} (hr:Rg lo hi) (p1:1≤p) (p2:p≤4095) {K:Int→Option Ans}:F_ref02_Interval_Mid fl lo hi p K = K (Co.mid lo hi p):=by
  unfold F_ref02_Interval_Mid Co.mid
  obtain ⟨r1,r2,r3⟩:=hr
  obtain ⟨m1,m2,m3,m4⟩:=mid_parts r2 r1 r3 p1 p2
  rw [wrapU (x:=hi - lo) (by omega) (by omega),tdiv_e (by omega),tmod_e (by omega),wrapU (x:=p) (by omega) (by omega),wrapU (x:=(hi - lo) / 4096) (by omega) (by omega),
    wrapU (x:=(hi - lo) / 4096 * p) (by omega) (by omega),wrapU (x:=(hi - lo) % 4096 * p) (by omega) (by omega),tdiv_e m3,wrapU (x:=lo + (hi - lo) / 4096 * p) (by omega) (by omega),
    wrapU (x:=(hi - lo) % 4096 * p / 4096) (by omega) (by omega),wrapU (by omega) (by omega)]
theorem rpart {fl:Nat} {kd:Int} {x:Iv} (h:x.Ok kd) {c b:Int} (h0:0≤c) (h1:c < x.st.length) (hb:b = 0∨b = 1) {K:Int×Int→Option Ans}:
    F_ref02_Interval_Part fl x.lo x.hi (pr kd (x.st.getD c.toNat 0)) b K = K (x.clo kd c b,x.chi kd c b):=by
  have hm:=h.mid_in h0 h1
  obtain ⟨p1,p2⟩:=pr_rg h.k (h.get h0 h1)
  unfold F_ref02_Interval_Part Fg_ref02_Interval_Part Iv.clo Iv.chi
  rw [rmid h.r p1 p2,rmid h.r p1 p2]
  obtain ⟨r1,r2,r3⟩:=h.r
  have e:Co.mid x.lo x.hi (pr kd (x.st.getD c.toNat 0)) = x.mid kd c:=rfl
  rw [e]
  rcases hb with rfl | rfl
  · rw [cond_f (b:=(0:Int)==1) rfl,if_neg (by decide),if_neg (by decide),wrapU (by omega) (by omega)]
  · rw [cond_t (b:=(1:Int)==1) rfl,if_pos rfl,if_pos rfl]
theorem rfixed {fl:Nat} {lo hi:Int} (hr:Rg lo hi) {K:Bool→Option Ans}:F_ref02_Interval_Fixed fl lo hi K = K (decide (same lo hi)):=by
  obtain ⟨r1,r2,r3⟩:=hr
  unfold F_ref02_Interval_Fixed same
  rw [shrU r1,shrU (by omega)]
  congr 1
theorem rshifted {fl:Nat} {lo hi:Int} (hr:Rg lo hi) {K:Int×Int→Option Ans}:F_ref02_Interval_Shifted fl lo hi K = K (nl lo,nh hi):=by
  obtain ⟨r1,r2,r3⟩:=hr
  unfold F_ref02_Interval_Shifted nl nh
  rw [tmod_e r1,tmod_e (by omega),wrapU (x:=lo % 16777216 * 256) (by omega) (by omega),wrapU (x:=hi % 16777216 * 256) (by omega) (by omega),wrapU (by omega) (by omega)]
theorem rvalid_loop {fl:Nat} (hfl:9223372036854775808≤fl) {e:Int} {st:List Int} (hl:st.length≤8192) {ret:Bool→Option Ans} {b:Unit→Option Ans}:
    L_ref02_Valid_0 fl (e,st,(st.length:Int),0) ret b = if st.all (fun s=>decide (0≤s∧s < e + 1)) = true then b () else ret false:=by
  unfold L_ref02_Valid_0
  rcases all_or_first (fun s=>decide (0≤s∧s < e + 1)) 0 st with ha | ⟨n,hn,hb,hi⟩
  · rw [if_pos ha]
    refine iter_to (step:=S_ref02_Valid_0 fl) (fun i:Nat=>(e,st,(st.length:Int),(i:Int))) st.length (fun i hi c=> ?_) (fun c=> ?_) (by omega)
    · have g:=all_getD ha 0 hi
      simp only [decide_eq_true_eq] at g
      simp only [S_ref02_Valid_0]
      rw [dec_t (by omega),dec_t (by omega),Int.toNat_natCast,dec_f (by omega),dec_f (by omega),wrap64 (by omega) (by omega)]
      rfl
    · simp only [S_ref02_Valid_0]
      rw [dec_f (by omega)]
  · rw [if_neg (by rw [not_all hn hb]; simp)]
    refine iter_to (step:=S_ref02_Valid_0 fl) (fun i:Nat=>(e,st,(st.length:Int),(i:Int))) n (fun i hin c=> ?_) (fun c=> ?_) (by omega)
    · have g:=hi i hin
      simp only [decide_eq_true_eq] at g
      simp only [S_ref02_Valid_0]
      rw [dec_t (by omega),dec_t (by omega),Int.toNat_natCast,dec_f (by omega),dec_f (by omega),wrap64 (by omega) (by omega)]
      rfl
    · simp only [decide_eq_false_iff_not] at hb
      simp only [S_ref02_Valid_0]
      rw [dec_t (by omega),dec_t (by omega),Int.toNat_natCast]
      by_cases h0:st.getD n 0 < 0
      · rw [dec_t h0]
      · rw [dec_f h0,dec_t (by omega)]
theorem rmvalid {fl:Nat} (hfl:9223372036854775808≤fl) {kd:Int} {st:List Int} {K:Bool→Option Ans}:F_ref02_Valid fl kd st K = K (vM kd st):=by
  unfold F_ref02_Valid vM
  by_cases hk:kd = 0∨kd = 1
  · by_cases hl:st.length≤8192
    · rcases hk with rfl | rfl
      · rw [cond_f (b:=(0:Int)==1) rfl,cond_f (b:=(0:Int) != 0) rfl,dec_f (by omega),rvalid_loop hfl hl,decide_eq_true hl]
        show (if (st.all fun s=>decide (0≤s∧s < 64)) = true then K true else K false) = K (true&&true&&st.all fun s=>decide (0≤s∧s < 64))
        cases st.all _ <;> rfl
      · rw [cond_t (b:=(1:Int)==1) rfl,cond_t (b:=(1:Int) != 0) rfl,cond_f (b:=(1:Int) != 1) rfl,dec_f (by omega),rvalid_loop hfl hl,decide_eq_true hl]
        show (if (st.all fun s=>decide (0≤s∧s < 65536)) = true then K true else K false) = K (true&&true&&st.all fun s=>decide (0≤s∧s < 65536))
        cases st.all _ <;> rfl
    · simp (disch:=omega) only [dec_t]
      rw [decide_eq_false hl,Bool.and_false,Bool.false_and]
      cases kd==1 <;> cases kd != 0 <;> cases kd != 1 <;> rfl
  · have h0:(kd != 0) = true:=by simp; omega
    have h1:(kd != 1) = true:=by simp; omega
    rw [h0,h1,decide_eq_false hk]
    cases kd==1 <;> rfl
open Go Ev
def Bytes (l:List Int):Prop:=∀ v ∈ l,0≤v∧v≤255
theorem shlU {x b:Int} (h1:0≤x) (h2:x < 4294967296) (b1:0≤b) (b2:b≤255):ior .u64 (iand .u64 (ishl .u64 x 8) 4294967295) b = x % 16777216 * 256 + b:=by
  rw [nlU h1 h2]
  unfold ior nl
  have e1:IntKind.u64.bits = 64:=rfl
  rw [e1,BitVec.toNat_or,ofInt_toNat (by omega) (by omega),ofInt_toNat (by omega) (by omega)]
  have h3:(x % 16777216 * 256).toNat = (x % 16777216).toNat <<< 8:=by rw [Nat.shiftLeft_eq]; omega
  rw [h3, ← Nat.shiftLeft_add_eq_or_of_lt (by omega),Nat.shiftLeft_eq,wrapU (by omega) (by omega)]
  omega
def byd (code:List Int) (k:Nat):Int:=((4 + k - code.length:Nat):Int)
theorem strm_get {code:List Int} {n:Nat} (h:n < code.length):code.getD n 0 = strm code n:=rfl
theorem strm_out {code:List Int} {n:Nat} (h:¬ n < code.length):strm code n = 0:=by
  unfold strm
  rw [List.getD_eq_getElem?_getD,List.getElem?_eq_none (by omega)]
  rfl
theorem shift_ok {fl:Nat} {kd lo hi:Int} {code:List Int} (hb:Bytes code) (hl:code.length≤10000000) {k:Nat} (hk:k≤100000000) {e r:Bool} {st:List Int} {K:Int×Int×Int×Int×Int×Int×Bool×Bool×List Int×List Int→Option Ans}:
    F_coder_Decoder_shift_40a fl kd lo hi ((4 + k:Nat):Int) (win (strm code) k) (byd code k) e r st code K = K (kd,lo,hi,((4 + (k + 1):Nat):Int),win (strm code) (k + 1),byd code (k + 1),e,r,st,code):=by
  have hS:=strm_byt hb
  obtain ⟨w1,w2⟩:=win_rg hS k
  have hn:=win_next hS k
  unfold F_coder_Decoder_shift_40a
  rw [w6 (x:=((4 + k:Nat):Int) + 1)]
  by_cases h:4 + k < code.length
  · have hv:=hb _ (getD_mem h 0)
    have e4:strm code (4 + k) = strm code (k + 4):=by rw [Nat.add_comm]
    rw [dec_t (by omega),dec_t (by omega),Int.toNat_natCast,wrapU (by omega) (by omega),shlU w1 w2 hv.1 hv.2,strm_get h,e4, ← hn]
    congr 1
    unfold byd
    rw [show 4 + k - code.length = 4 + (k + 1) - code.length by omega]
    rfl
  · rw [dec_f (by omega),wrapU (by omega) (by omega),shlU w1 w2 (by omega) (by omega)]
    have h0:strm code (k + 4) = 0:=strm_out (by omega)
    rw [h0] at hn
    rw [← hn]
    congr 1
    unfold byd
    rw [wrap64 (by omega) (by omega),show ((4 + k - code.length:Nat):Int) + 1 = ((4 + (k + 1) - code.length:Nat):Int) by omega]
    rfl
theorem dmid_ok {fl:Nat} {kd:Int} {x:Iv} (h:x.Ok kd) {c:Int} (h0:0≤c) (h1:c < x.st.length) {at' v by':Int} {e r:Bool} {code:List Int} {K:Int×Int×Int×Int×Int×Int×Int×Bool×Bool×List Int×List Int→Option Ans}:
    F_coder_interval_mid_aa3 fl c kd x.lo x.hi at' v by' e r x.st code K = K (x.mid kd c,kd,x.lo,x.hi,at',v,by',e,r,x.st,code):=by
  unfold F_coder_interval_mid_aa3 Fg_coder_interval_mid_aa3 Iv.mid Co.mid
  rw [dec_t ⟨h0,h1⟩,chance h.k (h.get h0 h1)]
  obtain ⟨p1,p2⟩:=pr_rg h.k (h.get h0 h1)
  obtain ⟨r1,r2,r3⟩:=h.r
  obtain ⟨m1,m2,m3,m4⟩:=mid_parts r2 r1 r3 p1 p2
  generalize pr kd (x.st.getD c.toNat 0) = p at *
  rw [wrapU (x:=x.hi - x.lo) (by omega) (by omega),tdiv_e (by omega),tmod_e (by omega),wrapU (x:=p) (by omega) (by omega),wrapU (x:=(x.hi - x.lo) / 4096) (by omega) (by omega),
    wrapU (x:=(x.hi - x.lo) / 4096 * p) (by omega) (by omega),wrapU (x:=(x.hi - x.lo) % 4096 * p) (by omega) (by omega),tdiv_e m3,wrapU (x:=x.lo + (x.hi - x.lo) / 4096 * p) (by omega) (by omega),
    wrapU (x:=(x.hi - x.lo) % 4096 * p / 4096) (by omega) (by omega),wrapU (by omega) (by omega)]
theorem dtake_ok {fl:Nat} {kd:Int} {x:Iv} (h:x.Ok kd) {c b:Int} (h0:0≤c) (h1:c < x.st.length) (hb:b = 0∨b = 1) {at' v by':Int} {e r:Bool} {code:List Int} {K:Int×Int×Int×Int×Int×Int×Bool×Bool×List Int×List Int→Option Ans}:
    F_coder_interval_take_7ec fl c b (x.mid kd c) kd x.lo x.hi at' v by' e r x.st code K = K (kd,x.clo kd c b,x.chi kd c b,at',v,by',e,r,x.st.set c.toNat (nx kd (x.st.getD c.toNat 0) b),code):=by
  have hm:=h.mid_in h0 h1
  obtain ⟨r1,r2,r3⟩:=h.r
  unfold F_coder_interval_take_7ec Fg_coder_interval_take_7ec Iv.clo Iv.chi
  simp only [next h.k (h.get h0 h1) hb]
  rcases hb with rfl | rfl
  · rw [cond_f (b:=(0:Int)==1) rfl,dec_t ⟨h0,h1⟩,dec_t ⟨h0,h1⟩,if_neg (by decide),if_neg (by decide),wrapU (by omega) (by omega)]
  · rw [cond_t (b:=(1:Int)==1) rfl,dec_t ⟨h0,h1⟩,dec_t ⟨h0,h1⟩,if_pos rfl,if_pos rfl]
theorem shiftsK {V B:Type} {step:V→(V→Option Ans)→B→Option Ans} {b:B} {r:Option Ans} (N:Nat) (σ:Nat→Int→Int→V)
    (hstep:∀ k lo hi c,Rg lo hi→same lo hi→k < N→step (σ k lo hi) c b = c (σ (k + 1) (nl lo) (nh hi)))
    :∀ (n:Nat) (k:Nat) (lo hi:Int) (m:Nat),Rg lo hi→¬ same (nrm n lo hi).2.1 (nrm n lo hi).2.2→n < m→k + n≤N→(∀ c,step (σ (k + (nrm n lo hi).1) (nrm n lo hi).2.1 (nrm n lo hi).2.2) c b = r)→iter step m (σ k lo hi) b = r
  | n,k,lo,hi,0,_,_,hm,_,_=>by omega
  | 0,k,lo,hi,m + 1,hr,hs,hm,hN,hn=>hn _
  | n + 1,k,lo,hi,m + 1,hr,hs,hm,hN,hn=>by
    simp only [iter]
    by_cases h:same lo hi
    · rw [hstep k lo hi _ hr h (by omega)]
      refine shiftsK N σ hstep n (k + 1) (nl lo) (nh hi) m (hr.next h) (by rw [← nrm_same h]; exact hs) (by omega) (by omega) fun c=> ?_
      have e:=hn c
      rw [nrm,if_pos h] at e
      rw [show k + 1 + (nrm n (nl lo) (nh hi)).1 = k + ((nrm n (nl lo) (nh hi)).1 + 1) by omega]
      exact e
    · have e:=hn (fun v=>iter step m v b)
      rw [nrm,if_neg h] at e
      exact e
abbrev DL:=Int×Int×Int×Int×Int×Int×Int×Int×Int×Bool×Bool×List Int×List Int×Int×Int×Int×Int×Int×Int×Bool×Bool
theorem get_loop {fl:Nat} (hfl:9223372036854775808≤fl) {c b s kd lo hi:Int} (hr:Rg lo hi) {code:List Int} (hb:Bytes code) (hl:code.length≤10000000) {k:Nat} (hk:k≤10000000) {e r:Bool} {st:List Int} {o1 o2 o3 o4 o5 o6:Int} {o7 o8:Bool} {K:DL→Option Ans}:
    L_coder_Decoder_Get_aa3_1 fl (c,b,s,kd,lo,hi,((4 + k:Nat):Int),win (strm code) k,byd code k,e,r,st,code,o1,o2,o3,o4,o5,o6,o7,o8) K
    = K (c,b,s,kd,(nrm 5 lo hi).2.1,(nrm 5 lo hi).2.2,((4 + (k + (nrm 5 lo hi).1):Nat):Int),win (strm code) (k + (nrm 5 lo hi).1),byd code (k + (nrm 5 lo hi).1),e,r,st,code,o1,o2,o3,o4,o5,o6,o7,o8):=by
  unfold L_coder_Decoder_Get_aa3_1
  refine shiftsK (step:=S_coder_Decoder_Get_aa3_1 fl) 20000000 (fun k lo hi=>(c,b,s,kd,lo,hi,((4 + k:Nat):Int),win (strm code) k,byd code k,e,r,st,code,o1,o2,o3,o4,o5,o6,o7,o8)) (fun k lo hi c hr hs hk=> ?_) 5 k lo hi fl hr (nrm_ends hr) (by omega) (by omega) fun c=> ?_
  · obtain ⟨r1,r2,r3⟩:=hr
    simp only [S_coder_Decoder_Get_aa3_1,Sg_coder_Decoder_Get_aa3_1,F_coder_interval_same_40a,F_coder_interval_lose_40a]
    rw [shrU (x:=lo) r1,shrU (x:=hi) (by omega),cond_t (b:=lo / 16777216==hi / 16777216) (beq_iff_eq.2 hs),nlU r1 (by omega),nhU (by omega) r3,shift_ok hb hl (by omega)]
  · have hr':=nrm_rg 5 hr
    have hs':=nrm_ends hr
    generalize (nrm 5 lo hi).2.1 = lo' at *
    generalize (nrm 5 lo hi).2.2 = hi' at *
    obtain ⟨r1,r2,r3⟩:=hr'
    simp only [S_coder_Decoder_Get_aa3_1,Sg_coder_Decoder_Get_aa3_1,F_coder_interval_same_40a]
    rw [shrU (x:=lo') r1,shrU (x:=hi') (by omega),cond_f (b:=lo' / 16777216==hi' / 16777216) (beq_eq_false_iff_ne.2 hs')]
theorem set_back {st:List Int} {i:Nat} {v:Int}:(st.set i v).set i (st.getD i 0) = st:=by
  rw [List.set_set]
  by_cases h:i < st.length
  · rw [getD_lt h,List.set_getElem_self]
  · exact List.set_eq_of_length_le (by omega)
theorem get_okB {fl:Nat} (hfl:9223372036854775808≤fl) {kd:Int} {x:Iv} (h:x.Ok kd) {c:Int} (h0:0≤c) (h1:c < x.st.length) {code:List Int} (hb:Bytes code) (hl:code.length≤10000000) {k:Nat} (hk:k≤10000000)
    {K:Int×Int×Int×Int×Int×Int×Int×Int×Bool×Bool×List Int×List Int→Option Ans}:
    F_coder_Decoder_Get_aa3 fl c kd x.lo x.hi ((4 + k:Nat):Int) (win (strm code) k) (byd code k) false true x.st code K
    = match get kd code x k c with
      | some (b,x',k')=>K (b,0,kd,x'.lo,x'.hi,((4 + k':Nat):Int),win (strm code) k',byd code k',false,true,x'.st,code)
      | none=>K (0,6,kd,x.lo,x.hi,((4 + k:Nat):Int),win (strm code) k,byd code k,true,true,x.st,code):=by
  unfold F_coder_Decoder_Get_aa3 Fg_coder_Decoder_Get_aa3 F_coder_Decoder_none_40a
  dsimp only
  rw [cond_f (b:=!true) rfl,dec_f (by omega),dec_f (by omega),cond_false,dmid_ok h h0 h1]
  dsimp only
  have gen:∀ b,b = 0∨b = 1→bitOf kd (strm code) x k c = b→
      (F_coder_interval_take_7ec fl c b (x.mid kd c) kd x.lo x.hi ((4 + k:Nat):Int) (win (strm code) k) (byd code k) false true x.st code fun y=>
        L_coder_Decoder_Get_aa3_1 fl (c,b,x.st.getD c.toNat 0,y.1,y.2.1,y.2.2.1,y.2.2.2.1,y.2.2.2.2.1,y.2.2.2.2.2.1,y.2.2.2.2.2.2.1,y.2.2.2.2.2.2.2.1,y.2.2.2.2.2.2.2.2.1,y.2.2.2.2.2.2.2.2.2,kd,x.lo,x.hi,((4 + k:Nat):Int),win (strm code) k,byd code k,false,true) fun z=>
          bif decide (z.2.2.2.2.2.2.2.2.1 > 4) then
            (bif decide (0≤z.1∧z.1 < (z.2.2.2.2.2.2.2.2.2.2.2.1.length:Int)) then K (0,6,z.2.2.2.2.2.2.2.2.2.2.2.2.2.1,z.2.2.2.2.2.2.2.2.2.2.2.2.2.2.1,z.2.2.2.2.2.2.2.2.2.2.2.2.2.2.2.1,z.2.2.2.2.2.2.2.2.2.2.2.2.2.2.2.2.1,z.2.2.2.2.2.2.2.2.2.2.2.2.2.2.2.2.2.1,z.2.2.2.2.2.2.2.2.2.2.2.2.2.2.2.2.2.2.1,true,z.2.2.2.2.2.2.2.2.2.2.2.2.2.2.2.2.2.2.2.2,z.2.2.2.2.2.2.2.2.2.2.2.1.set z.1.toNat z.2.2.1,z.2.2.2.2.2.2.2.2.2.2.2.2.1) else none)
          else K (z.2.1,0,z.2.2.2.1,z.2.2.2.2.1,z.2.2.2.2.2.1,z.2.2.2.2.2.2.1,z.2.2.2.2.2.2.2.1,z.2.2.2.2.2.2.2.2.1,z.2.2.2.2.2.2.2.2.2.1,z.2.2.2.2.2.2.2.2.2.2.1,z.2.2.2.2.2.2.2.2.2.2.2.1,z.2.2.2.2.2.2.2.2.2.2.2.2.1))
      = match get kd code x k c with
        | some (b,x',k')=>K (b,0,kd,x'.lo,x'.hi,((4 + k':Nat):Int),win (strm code) k',byd code k',false,true,x'.st,code)
        | none=>K (0,6,kd,x.lo,x.hi,((4 + k:Nat):Int),win (strm code) k,byd code k,true,true,x.st,code):=by
    intro b hb' hbit
    rw [dtake_ok h h0 h1 hb',get_loop hfl (h.cut (b:=b) h0 h1) hb hl hk]
    dsimp only
    unfold get
    rw [hbit]
    have hm:(nrm 5 (x.clo kd c b) (x.chi kd c b)).1 = x.many kd c b:=rfl
    rw [hm]
    by_cases hc:code.length < k + x.many kd c b
    · rw [if_pos hc,dec_t (by unfold byd; omega),dec_t (by rw [List.length_set]; omega),set_back]
    · rw [if_neg hc,dec_f (by unfold byd; omega)]
      rfl
  by_cases hv:win (strm code) k≤x.mid kd c
  · have hbit:bitOf kd (strm code) x k c = 1:=if_pos hv
    rw [dec_t hv,dec_t ⟨h0,h1⟩]
    simp only [both_same]
    exact gen 1 (.inr rfl) hbit
  · have hbit:bitOf kd (strm code) x k c = 0:=if_neg hv
    rw [dec_f hv,dec_t ⟨h0,h1⟩]
    simp only [both_same]
    exact gen 0 (.inl rfl) hbit
theorem get_bad {fl:Nat} {kd lo hi at' v by':Int} {e:Bool} {st code:List Int} {K:Int×Int×Int×Int×Int×Int×Int×Int×Bool×Bool×List Int×List Int→Option Ans}:
    F_coder_Decoder_Get_aa3 fl (-1) kd lo hi at' v by' e true st code K = K (0,2,kd,lo,hi,at',v,by',e,true,st,code):=by
  unfold F_coder_Decoder_Get_aa3 Fg_coder_Decoder_Get_aa3 F_coder_Decoder_none_40a
  dsimp only
  rw [cond_f (b:=!true) rfl,dec_t (by omega)]
def pv (S:Nat→Int):Nat→Int
  | 0=>0
  | 1=>S 0
  | 2=>S 0 * 256 + S 1
  | 3=>S 0 * 65536 + S 1 * 256 + S 2
  | _=>win S 0
theorem pv_step {S:Nat→Int} (h:Byt S) {i:Nat} (hi:i < 4):0≤pv S i∧pv S i < 4294967296∧pv S (i + 1) = pv S i % 16777216 * 256 + S i∧pv S (i + 1) = pv S i * 256 + S i:=by
  have a:=h 0; have b:=h 1; have c:=h 2; have d:=h 3
  have e0:win S 0 = S 0 * 16777216 + S 1 * 65536 + S 2 * 256 + S 3:=rfl
  have f0:pv S 0 = 0:=rfl
  have f1:pv S 1 = S 0:=rfl
  have f2:pv S 2 = S 0 * 256 + S 1:=rfl
  have f3:pv S 3 = S 0 * 65536 + S 1 * 256 + S 2:=rfl
  match i,hi with
  | 0,_=>
    have e1:pv S (0 + 1) = S 0:=rfl
    omega
  | 1,_=>
    have e1:pv S (1 + 1) = S 0 * 256 + S 1:=rfl
    omega
  | 2,_=>
    have e1:pv S (2 + 1) = S 0 * 65536 + S 1 * 256 + S 2:=rfl
    omega
  | 3,_=>
    have e1:pv S (3 + 1) = win S 0:=rfl
    have e2:pv S 3 = S 0 * 65536 + S 1 * 256 + S 2:=rfl
    rw [e1,e2]
    omega
theorem new_decB {fl:Nat} (hfl:9223372036854775808≤fl) {kd:Int} {st:List Int} (hv:vM kd st = true) {code:List Int} (hb:Bytes code) (hl:code.length≤10000000) {k0:Int→Option Ans} {k1:Int×Int×Int×Int×Int×Int×Int×Bool×Bool×List Int×List Int→Option Ans}:
    F_coder_NewDecoder fl kd st code k0 k1 = k1 (0,kd,0,4294967295,((4 + 0:Nat):Int),win (strm code) 0,byd code 0,false,true,st,code):=by
  have hl':st.length≤8192:=by
    unfold vM at hv
    simp only [Bool.and_eq_true,decide_eq_true_eq] at hv
    exact hv.1.2
  have hS:=strm_byt hb
  unfold F_coder_NewDecoder Fg_coder_NewDecoder
  rw [cvalid hfl,hv,cond_f (b:=!true) rfl,begin_ok (by omega)]
  dsimp only
  rw [dec_t (by omega),List.nil_append]
  unfold L_coder_NewDecoder_0
  refine iter_seq (step:=S_coder_NewDecoder_0 fl) (fun i:Nat=>((i:Int),kd,0,4294967295,(i:Int),pv (strm code) i,((i - code.length:Nat):Int),false,true,st,code)) 4 (by simp [pv]) (fun i hi c=> ?_) (fun c=> ?_) (by omega)
  · obtain ⟨p1,p2,p3,_⟩:=pv_step hS hi
    simp only [S_coder_NewDecoder_0,Sg_coder_NewDecoder_0,F_coder_Decoder_shift_40a]
    rw [dec_t (by omega),w6 (x:=(i:Int) + 1)]
    by_cases h:i < code.length
    · have hv:=hb _ (getD_mem h 0)
      rw [dec_t (by omega),dec_t (by omega),Int.toNat_natCast,wrapU (x:=code.getD i 0) hv.1 (by omega),shlU p1 p2 hv.1 hv.2,strm_get h, ← p3,show i - code.length = i + 1 - code.length by omega]
      rfl
    · rw [dec_f (by omega),wrapU (by omega) (by omega),shlU p1 p2 (by omega) (by omega)]
      rw [strm_out h] at p3
      rw [← p3,wrap64 (by omega) (by omega),show ((i - code.length:Nat):Int) + 1 = ((i + 1 - code.length:Nat):Int) by omega]
      rfl
  · simp only [S_coder_NewDecoder_0,Sg_coder_NewDecoder_0]
    rw [dec_f (by omega)]
    rfl
theorem byteAt {fl:Nat} {code:List Int} (hb:Bytes code) {n:Nat} {K:Int→Option Ans}:F_ref02_byteAt fl code (n:Int) K = K (strm code n):=by
  unfold F_ref02_byteAt
  by_cases h:n < code.length
  · have hv:=hb _ (getD_mem h 0)
    rw [dec_t (by omega),dec_t (by omega),Int.toNat_natCast,wrapU (by omega) (by omega),strm_get h]
  · rw [dec_f (by omega),strm_out h]
abbrev RL:=Int×Int×Int×Int×Int×Int×Int×Int×Int×Int×Bool×List Int×List Int×Int×Int
theorem rget_loop {fl:Nat} (hfl:9223372036854775808≤fl) {c b lo hi:Int} (hr:Rg lo hi) {code:List Int} (hb:Bytes code) (hl:code.length≤10000000) {k:Nat} (hk:k≤10000000) {st:List Int} {o1 o2 o3 o4 o5 o6:Int} {o7:Bool} {K:RL→Option Ans}:
    L_ref02_Decoder_Get_0a6_0 fl (c,b,((4 + k:Nat):Int),win (strm code) k,o1,o2,o3,o4,o5,o6,o7,st,code,lo,hi) K
    = K (c,b,((4 + (k + (nrm 5 lo hi).1):Nat):Int),win (strm code) (k + (nrm 5 lo hi).1),o1,o2,o3,o4,o5,o6,o7,st,code,(nrm 5 lo hi).2.1,(nrm 5 lo hi).2.2):=by
  have hS:=strm_byt hb
  unfold L_ref02_Decoder_Get_0a6_0
  refine shiftsK (step:=S_ref02_Decoder_Get_0a6_0 fl) 20000000 (fun k lo hi=>(c,b,((4 + k:Nat):Int),win (strm code) k,o1,o2,o3,o4,o5,o6,o7,st,code,lo,hi)) (fun k lo hi c hr hs hk=> ?_) 5 k lo hi fl hr (nrm_ends hr) (by omega) (by omega) fun c=> ?_
  · obtain ⟨w1,w2⟩:=win_rg hS k
    have hn:=win_next hS k
    have hv:=hS (k + 4)
    simp only [S_ref02_Decoder_Get_0a6_0,Sg_ref02_Decoder_Get_0a6_0]
    rw [rfixed hr,decide_eq_true hs,cond_true,rshifted hr]
    dsimp only
    rw [byteAt hb,tmod_e w1,show 4 + k = k + 4 by omega,wrapU (x:=win (strm code) k % 16777216 * 256) (by omega) (by omega),wrapU (by omega) (by omega), ← hn,wrap64 (by omega) (by omega)]
    rw [show ((k + 4:Nat):Int) + 1 = ((4 + (k + 1):Nat):Int) by omega]
  · simp only [S_ref02_Decoder_Get_0a6_0,Sg_ref02_Decoder_Get_0a6_0]
    rw [rfixed (nrm_rg 5 hr),decide_eq_false (nrm_ends hr),cond_false]
theorem rget_okB {fl:Nat} (hfl:9223372036854775808≤fl) {kd:Int} {x:Iv} (h:x.Ok kd) {c:Int} (h0:0≤c) (h1:c < x.st.length) {code:List Int} (hb:Bytes code) (hl:code.length≤10000000) {k:Nat} (hk:k≤10000000)
    {K:Int×Int×Int×Int×Int×Int×Int×Int×Bool×List Int×List Int→Option Ans}:
    F_ref02_Decoder_Get_0a6 fl c kd x.lo x.hi ((4 + k:Nat):Int) (win (strm code) k) (byd code k) false x.st code K
    = match get kd code x k c with
      | some (b,x',k')=>K (b,0,kd,x'.lo,x'.hi,((4 + k':Nat):Int),win (strm code) k',byd code k',false,x'.st,code)
      | none=>K (0,6,kd,x.lo,x.hi,((4 + k:Nat):Int),win (strm code) k,byd code k,true,x.st,code):=by
  obtain ⟨p1,p2⟩:=pr_rg h.k (h.get h0 h1)
  unfold F_ref02_Decoder_Get_0a6 Fg_ref02_Decoder_Get_0a6
  rw [dec_f (by omega),dec_f (by omega),cond_false,dec_t ⟨h0,h1⟩,likely hfl h.k (h.get h0 h1),rmid h.r p1 p2]
  try dsimp only
  have hmid:Co.mid x.lo x.hi (pr kd (x.st.getD c.toNat 0)) = x.mid kd c:=rfl
  rw [hmid]
  have gen:∀ b,b = 0∨b = 1→bitOf kd (strm code) x k c = b→
      (F_ref02_Interval_Part fl x.lo x.hi (pr kd (x.st.getD c.toNat 0)) b fun y=>
        L_ref02_Decoder_Get_0a6_0 fl (c,b,((4 + k:Nat):Int),win (strm code) k,kd,x.lo,x.hi,((4 + k:Nat):Int),win (strm code) k,byd code k,false,x.st,code,y.1,y.2) fun z=>
          bif decide ((bif decide (IntKind.i64.wrap (z.2.2.1 - (z.2.2.2.2.2.2.2.2.2.2.2.2.1.length:Int)) > 0) then IntKind.i64.wrap (z.2.2.1 - (z.2.2.2.2.2.2.2.2.2.2.2.2.1.length:Int)) else 0) > 4) then
            K (0,6,z.2.2.2.2.1,z.2.2.2.2.2.1,z.2.2.2.2.2.2.1,z.2.2.2.2.2.2.2.1,z.2.2.2.2.2.2.2.2.1,z.2.2.2.2.2.2.2.2.2.1,true,z.2.2.2.2.2.2.2.2.2.2.2.1,z.2.2.2.2.2.2.2.2.2.2.2.2.1)
          else bif decide (0≤z.1∧z.1 < (z.2.2.2.2.2.2.2.2.2.2.2.1.length:Int)) then
            (F_ref02_After fl z.2.2.2.2.1 (z.2.2.2.2.2.2.2.2.2.2.2.1.getD z.1.toNat 0) z.2.1 fun y27=>
              bif decide (0≤z.1∧z.1 < (z.2.2.2.2.2.2.2.2.2.2.2.1.length:Int)) then
              K (z.2.1,0,z.2.2.2.2.1,z.2.2.2.2.2.2.2.2.2.2.2.2.2.1,z.2.2.2.2.2.2.2.2.2.2.2.2.2.2,z.2.2.1,z.2.2.2.1,bif decide (IntKind.i64.wrap (z.2.2.1 - (z.2.2.2.2.2.2.2.2.2.2.2.2.1.length:Int)) > 0) then IntKind.i64.wrap (z.2.2.1 - (z.2.2.2.2.2.2.2.2.2.2.2.2.1.length:Int)) else 0,z.2.2.2.2.2.2.2.2.2.2.1,z.2.2.2.2.2.2.2.2.2.2.2.1.set z.1.toNat y27,z.2.2.2.2.2.2.2.2.2.2.2.2.1)
              else none)
          else none)
      = match get kd code x k c with
        | some (b,x',k')=>K (b,0,kd,x'.lo,x'.hi,((4 + k':Nat):Int),win (strm code) k',byd code k',false,x'.st,code)
        | none=>K (0,6,kd,x.lo,x.hi,((4 + k:Nat):Int),win (strm code) k,byd code k,true,x.st,code):=by
    intro b hb' hbit
    rw [rpart h h0 h1 hb']
    dsimp only
    rw [rget_loop hfl (h.cut (b:=b) h0 h1) hb hl hk]
    dsimp only
    unfold get
    rw [hbit]
    have hm:(nrm 5 (x.clo kd c b) (x.chi kd c b)).1 = x.many kd c b:=rfl
    have hm5:x.many kd c b≤5:=nrm_le _ _ _
    rw [hm]
    have hby:(bif decide (IntKind.i64.wrap (((4 + (k + x.many kd c b):Nat):Int) - (code.length:Int)) > 0) then IntKind.i64.wrap (((4 + (k + x.many kd c b):Nat):Int) - (code.length:Int)) else 0) = byd code (k + x.many kd c b):=by
      unfold byd
      rw [wrap64 (by omega) (by omega)]
      by_cases hp:((4 + (k + x.many kd c b):Nat):Int) - (code.length:Int) > 0
      · rw [dec_t hp]; omega
      · rw [dec_f hp]; omega
    rw [hby]
    by_cases hc:code.length < k + x.many kd c b
    · rw [if_pos hc,dec_t (by unfold byd; omega)]
    · rw [if_neg hc,dec_f (by unfold byd; omega),dec_t ⟨h0,h1⟩,after h.k (h.get h0 h1) hb',dec_t ⟨h0,h1⟩]
      rfl
  by_cases hv:win (strm code) k≤x.mid kd c
  · have hbit:bitOf kd (strm code) x k c = 1:=if_pos hv
    rw [dec_t hv]
    simp only [both_same]
    exact gen 1 (.inr rfl) hbit
  · have hbit:bitOf kd (strm code) x k c = 0:=if_neg hv
    rw [dec_f hv]
    simp only [both_same]
    exact gen 0 (.inl rfl) hbit
theorem rnew_decB {fl:Nat} (hfl:9223372036854775808≤fl) {kd:Int} {st:List Int} (hv:vM kd st = true) {code:List Int} (hb:Bytes code) (hl:code.length≤10000000) {k0:Int→Option Ans} {k1:Int×Int×Int×Int×Int×Int×Int×Bool×List Int×List Int→Option Ans}:
    F_ref02_NewDecoder fl kd st code k0 k1 = k1 (0,kd,0,4294967295,((4 + 0:Nat):Int),win (strm code) 0,byd code 0,false,st,code):=by
  have hl':st.length≤8192:=by
    unfold vM at hv
    simp only [Bool.and_eq_true,decide_eq_true_eq] at hv
    exact hv.1.2
  have hS:=strm_byt hb
  unfold F_ref02_NewDecoder Fg_ref02_NewDecoder F_ref02_Copy F_ref02_Whole
  rw [rmvalid hfl,hv,cond_f (b:=!true) rfl,dec_t (by omega)]
  dsimp only
  rw [dec_t (by omega),List.nil_append,List.nil_append]
  have hby:(bif decide (IntKind.i64.wrap (4 - (code.length:Int)) > 0) then IntKind.i64.wrap (4 - (code.length:Int)) else 0) = byd code 0:=by
    unfold byd
    rw [wrap64 (by omega) (by omega)]
    by_cases hp:4 - (code.length:Int) > 0
    · rw [dec_t hp]; omega
    · rw [dec_f hp]; omega
  rw [hby]
  unfold L_ref02_NewDecoder_0
  refine iter_to (step:=S_ref02_NewDecoder_0 fl) (fun i:Nat=>((i:Int),kd,0,4294967295,4,pv (strm code) i,byd code 0,false,st,code)) 4 (fun i hi c=> ?_) (fun c=> ?_) (by omega)
  · obtain ⟨p1,p2,_,p4⟩:=pv_step hS hi
    obtain ⟨q1,q2⟩:0≤pv (strm code) (i + 1)∧pv (strm code) (i + 1) < 4294967296:=by
      rcases Nat.lt_or_ge (i + 1) 4 with h | h
      · exact ⟨(pv_step hS h).1,(pv_step hS h).2.1⟩
      · have:i + 1 = 4:=by omega
        rw [this]
        exact win_rg hS 0
    have hv:=hS i
    simp only [S_ref02_NewDecoder_0,Sg_ref02_NewDecoder_0,both_same]
    rw [dec_t (by omega),byteAt hb,wrapU (x:=pv (strm code) i * 256) (by omega) (by omega), ← p4,wrapU q1 (by omega),wrap64 (by omega) (by omega)]
    rfl
  · simp only [S_ref02_NewDecoder_0,Sg_ref02_NewDecoder_0]
    rw [dec_f (by omega)]
    rfl
open Go Ev
end Go.Proofs.YtipdidpalcmlhaaGreat.Co
namespace Go.Proofs.YtipdidpalcmlhaaGreat.Dc
open Go Ev Bm Co
theorem get_some {kx:Int} {x:Iv} (h:x.Ok kx) {c:Int} (h0:0≤c) (h1:c < x.st.length) {code:List Int} {k:Nat} {b:Int} {x':Iv} {k':Nat} (e:Co.get kx code x k c = some (b,x',k')):
    (b = 0∨b = 1)∧x'.Ok kx∧x'.st.length = x.st.length∧k'≤code.length:=by
  unfold Co.get at e
  split at e
  · exact absurd e (by simp)
  · injection e with e
    injection e with e1 e
    injection e with e2 e3
    have hb:=bitOf_01 kx (strm code) x k c
    rw [← e1, ← e2, ← e3]
    exact ⟨hb,h.next h0 h1 hb,Iv.next_len _ _ _ _,by omega⟩
inductive Dec (α:Type) where
  | ret (a:α)
  | bad (e:Int)
  | get (c:Int) (k:Int→Dec α)
def Dec.bind {α β:Type}:Dec α→(α→Dec β)→Dec β
  | .ret a,f=>f a
  | .bad e,_=>.bad e
  | .get c k,f=>.get c fun b=>(k b).bind f
structure S where
  ok:Bool
  x:Iv
  k:Nat
def Dec.run {α:Type} (kx:Int) (code:List Int):Dec α→S→(Int ⊕ α)×S
  | .ret a,s=>(.inr a,s)
  | .bad e,s=>(.inl e,s)
  | .get c f,s=>match Co.get kx code s.x s.k c with
    | some (b,x',k')=>(f b).run kx code ⟨true,x',k'⟩
    | none=>(.inl 6,⟨false,s.x,s.k⟩)
theorem run_bind {α β:Type} {kx:Int} {code:List Int} {f:α→Dec β}:∀ (d:Dec α) (s:S),(d.bind f).run kx code s = match d.run kx code s with | (.inl e,s')=>(.inl e,s') | (.inr a,s')=>(f a).run kx code s'
  | .ret a,s=>rfl
  | .bad e,s=>rfl
  | .get c k,s=>by
    simp only [Dec.bind,Dec.run]
    cases Co.get kx code s.x s.k c with
    | none=>rfl
    | some v=>
      obtain ⟨b,x',k'⟩:=v
      exact run_bind (k b) ⟨true,x',k'⟩
def Dec.All {α:Type} (n:Nat) (P:α→Prop):Dec α→Prop
  | .ret a=>P a
  | .bad e=>e = 3
  | .get c k=>(0≤c∧c < (n:Int))∧∀ b,b = 0∨b = 1→(k b).All n P
theorem Dec.All.mono {α:Type} {n:Nat} {P Q:α→Prop} (h:∀ a,P a→Q a):∀ (d:Dec α),d.All n P→d.All n Q
  | .ret a,hd=>h a hd
  | .bad _,hd=>hd
  | .get c k,hd=>⟨hd.1,fun b hb=>Dec.All.mono h (k b) (hd.2 b hb)⟩
theorem Dec.All.bind {α β:Type} {n:Nat} {P:α→Prop} {Q:β→Prop} {f:α→Dec β} (hf:∀ a,P a→(f a).All n Q):∀ (d:Dec α),d.All n P→(d.bind f).All n Q
  | .ret a,hd=>hf a hd
  | .bad _,hd=>hd
  | .get c k,hd=>⟨hd.1,fun b hb=>Dec.All.bind hf (k b) (hd.2 b hb)⟩
structure St (kx:Int) (code:List Int) (n:Nat) (s:S):Prop where
  ok:s.ok = true
  x:s.x.Ok kx
  sl:s.x.st.length = n
  k:s.k≤code.length
def Ends {α:Type} (kx:Int) (code:List Int) (n:Nat) (P:α→Prop):(Int ⊕ α)×S→Prop
  | (.inr a,s)=>P a∧St kx code n s
  | (.inl e,s)=>(e = 6∧s.ok = false)∨(e = 3∧St kx code n s)
theorem run_ends {α:Type} {kx:Int} {code:List Int} {n:Nat} {P:α→Prop}:∀ (d:Dec α) {s:S},d.All n P→St kx code n s→Ends kx code n P (d.run kx code s)
  | .ret a,s,hd,hs=>⟨hd,hs⟩
  | .bad e,s,hd,hs=>.inr ⟨hd,hs⟩
  | .get c k,s,hd,hs=>by
    obtain ⟨⟨h0,h1⟩,h2⟩:=hd
    simp only [Dec.run]
    cases e:Co.get kx code s.x s.k c with
    | none=>exact .inl ⟨rfl,rfl⟩
    | some v=>
      obtain ⟨b,x',k'⟩:=v
      obtain ⟨g1,g2,g3,g4⟩:=get_some hs.x h0 (by rw [hs.sl]; exact h1) e
      exact run_ends (k b) (h2 b g1) ⟨rfl,g2,by rw [g3]; exact hs.sl,g4⟩
def loopD {A:Type} (bd:Nat→A→Dec A):Nat→Nat→A→Dec A
  | 0,_,a=>.ret a
  | n + 1,i,a=>(bd i a).bind (loopD bd n (i + 1))
theorem loopD_all {A:Type} {N:Nat} {I:Nat→A→Prop} {bd:Nat→A→Dec A}:∀ (n i:Nat) (a:A),(∀ j a,i≤j→j < i + n→I j a→(bd j a).All N (I (j + 1)))→I i a→(loopD bd n i a).All N (I (i + n))
  | 0,i,a,h,ha=>ha
  | n + 1,i,a,h,ha=>by
    refine Dec.All.bind (P:=I (i + 1)) (fun a' ha'=> ?_) _ (h i a (Nat.le_refl _) (by omega) ha)
    have:=loopD_all n (i + 1) a' (fun j a h1 h2=>h j a (by omega) (by omega)) ha'
    rwa [show i + 1 + n = i + (n + 1) by omega] at this
def Aft {A:Type} (E:A→S→Option Ans) (R:Int→S→Option Ans):(Int ⊕ A)×S→Option Ans
  | (.inr a,s)=>E a s
  | (.inl e,s)=>R e s
theorem fin_bind {A B:Type} {E:B→S→Option Ans} {R:Int→S→Option Ans} {kx:Int} {code:List Int} {f:A→Dec B} {d:Dec A} {s:S}:Aft E R ((d.bind f).run kx code s) = Aft (fun a s=>Aft E R ((f a).run kx code s)) R (d.run kx code s):=by
  rw [run_bind]
  cases d.run kx code s with
  | mk r s'=>cases r <;> rfl
theorem fin_congr {A:Type} {E E':A→S→Option Ans} {R R':Int→S→Option Ans} {kx:Int} {code:List Int} {n:Nat} {P:A→Prop} {d:Dec A} {s:S} (hd:d.All n P) (hs:St kx code n s) (hE:∀ a s,P a→St kx code n s→E a s = E' a s) (hR:∀ e s,e ≠ 0→R e s = R' e s):Aft E R (d.run kx code s) = Aft E' R' (d.run kx code s):=by
  have he:=run_ends d hd hs
  cases hr:d.run kx code s with
  | mk r s'=>
    rw [hr] at he
    cases r with
    | inl e=>
      refine hR e s' ?_
      rcases he with ⟨rfl,_⟩ | ⟨rfl,_⟩ <;> decide
    | inr a=>exact hE a s' he.1 he.2
theorem iter_dec {V B A:Type} {step:V→(V→Option Ans)→B→Option Ans} {b:B} {kx:Int} {code:List Int} {N:Nat} (I:Nat→A→Prop) (bd:Nat→A→Dec A) (σ:Nat→A→S→V) (R:Int→S→Option Ans) (E:A→S→Option Ans) (n:Nat)
    (hall:∀ i a,i < n→I i a→(bd i a).All N (I (i + 1)))
    (hstep:∀ i a s,i < n→I i a→St kx code N s→∀ c,step (σ i a s) c b = Aft (fun a' s'=>c (σ (i + 1) a' s')) R ((bd i a).run kx code s))
    (hend:∀ a s,I n a→St kx code N s→∀ c,step (σ n a s) c b = E a s) {v:V} {a:A} {s:S} (hv:v = σ 0 a s) (hI:I 0 a) (hs:St kx code N s) {m:Nat} (hm:n < m):
    iter step m v b = Aft E R ((loopD bd n 0 a).run kx code s):=by
  subst hv
  have key:∀ d i a s m,i + d = n→I i a→St kx code N s→d < m→iter step m (σ i a s) b = Aft E R ((loopD bd d i a).run kx code s):=by
    intro d
    induction d with
    | zero=>
      intro i a s m hi hI hs hm
      obtain ⟨m,rfl⟩:∃ k,m = k + 1:=⟨m - 1,by omega⟩
      have:i = n:=by omega
      subst this
      exact hend a s hI hs _
    | succ d ih=>
      intro i a s m hi hI hs hm
      obtain ⟨m,rfl⟩:∃ k,m = k + 1:=⟨m - 1,by omega⟩
      simp only [iter,loopD]
      rw [hstep i a s (by omega) hI hs,run_bind]
      have he:=run_ends (bd i a) (hall i a (by omega) hI) hs
      cases hr:(bd i a).run kx code s with
      | mk r s'=>
        rw [hr] at he
        cases r with
        | inl e=>rfl
        | inr a'=>exact ih (i + 1) a' s' m (by omega) he.1 he.2 (by omega)
  exact key n 0 a s m (by omega) hI hs hm
open Go Ev Bm Co
def digC (c j:Nat):Int:=if j = 0 then 23 + c else min (43 + j) 47
def cntD {β:Type} (base:Int) (k:Nat→Dec β):Nat→Nat→Dec β
  | 0,c=>k c
  | f + 1,c=>.get (base + 1 + c) fun b=>if b = 0 then k c else cntD base k f (c + 1)
def digD {β:Type} (base:Int) (c:Nat) (k:Int→Dec β):Nat→Nat→Int→Dec β
  | 0,_,v=>k v
  | l + 1,i,v=>.get (base + digC c i) fun b=>digD base c k l (i + 1) (2 * v + b)
def numD (base:Int):Dec (Bool×Int):=
  .get base fun b=>if b = 1 then .ret (true,0) else
    cntD base (fun c=>digD base c (fun v=>if v > 1048577 then .bad 3 else if v = 1 then .ret (false,0) else .get (base + 22) fun s=>.ret (false,(v - 1) * (1 - 2 * s))) c 0 1) 20 0
def idD {β:Type} (base:Int) (k:Int→Dec β):Nat→Int→Dec β
  | 0,p=>k p
  | l + 1,p=>.get (base + p - 1) fun b=>idD base k l (2 * p + b)
open Go Ev Bm Co
def tailN (j:Nat):Int:=if j = 0 then 44 else ((min (43 + j) 47:Nat):Int)
section
variable {fl:Nat} (hfl:9223372036854775808≤fl)
include hfl
end
theorem Evs.one {n:Nat} {c b:Int} (h0:0≤c) (h1:c < (n:Int)) (hb:b = 0∨b = 1):Evs n [(c,b)]:=fun e he=>by
  rw [List.mem_singleton] at he
  subst he
  exact ⟨h0,h1,hb⟩
theorem Evs.nil (n:Nat):Evs n []:=fun e he=>by cases he
section
variable {fl:Nat} (hfl:9223372036854775808≤fl)
include hfl
end
end Go.Proofs.YtipdidpalcmlhaaGreat.Dc
namespace Go.Proofs.YtipdidpalcmlhaaGreat.Gen
open Go Ev Bm
def vr (t ax ay kd:Int):Bool:=decide (0≤t∧t≤3∧(kd = 0∨kd = 1)∧ -8≤ax∧ax≤8∧ -8≤ay∧ay≤0∧(ay < 0∨ax < 0))
def tpl (t:Int):List (Int×Int):=
  if t = 0 then [(-1, -2),(0, -2),(1, -2),(-2, -1),(-1, -1),(0, -1),(1, -1),(2, -1),(-2,0),(-1,0)]
  else if t = 1 then [(-1, -2),(0, -2),(-1, -1),(0, -1),(1, -1),(-2,0),(-1,0)]
  else if t = 2 then [(-2, -1),(-1, -1),(0, -1),(1, -1),(2, -1),(-2,0),(-1,0)]
  else [(-1, -1),(0, -1),(1, -1),(-1,0)]
def size (t:Int):Int:=2 ^ ((tpl t).length + 1) + 1
structure Pix (w h:Int) (p:List Int):Prop where
  w0:0≤w
  h0:0≤h
  w1:w≤200
  h1:h≤200
  n:w * h≤8192
  len:(p.length:Int) = w * h
  bit:∀ v ∈ p,0≤v∧v≤1
theorem pix_of {w h:Int} {p:List Int} (hv:valid w h p = true) (h0:∀ v ∈ p,0≤v):Pix w h p:=by
  obtain ⟨⟨a,b,c,d,e⟩,f,g⟩:=valid_iff.1 hv
  exact ⟨a,b,c,d,e,f,fun v hv=>⟨h0 v hv,g v hv⟩⟩
open Go Ev Bm Co
def Sk (w h:Int) (sp:List Int):Prop:=sp = []∨(sp.length:Int) = w * h
theorem place_nat {w h:Int} {x y:Nat} (hx:(x:Int) < w) (hy:(y:Int) < h):((y * w.toNat + x:Nat):Int) = (y:Int) * w + x∧(y:Int) * w + x < w * h∧(y:Int) * w + w≤w * h:=by
  have hp:=place (w:=w) (h:=h) (x:=x) (y:=y) ⟨by omega,by omega,hx,hy⟩
  have hw:((w.toNat:Nat):Int) = w:=by omega
  refine ⟨by rw [Int.natCast_add,Int.natCast_mul,hw],hp.2, ?_⟩
  have:((y:Int) + 1) * w≤h * w:=Int.mul_le_mul_of_nonneg_right (by omega) (by omega)
  rw [Int.add_mul,Int.one_mul,Int.mul_comm h w] at this
  exact this
section
variable (t ax ay base w h:Int) (ty:Bool) (p sp:List Int)
end
structure Reg (t ax ay kd base w h:Int) (p sp:List Int) (n:Nat):Prop where
  v:vr t ax ay kd = true
  p:Pix w h p
  s:Sk w h sp
  b0:0≤base
  b1:base + size t≤(n:Int)
end Go.Proofs.YtipdidpalcmlhaaGreat.Gen
namespace Go.Proofs.YtipdidpalcmlhaaGreat.Rf
open Go Ev Bm Co Gen Dc
def fr (t:Int):List (Int×Int):=if t = 0 then [(-1, -1),(0, -1),(1, -1),(-1,0)] else [(0, -1),(-1,0)]
def bs:List (Int×Int):=[(0,0),(-1,0),(1,0),(0, -1),(0,1)]
def csz (t:Int):Int:=if t = 0 then 512 else 128
theorem csz_eq (t:Int):csz t = 512∨csz t = 128:=by unfold csz; split <;> omega
theorem fr_near (t:Int):∀ d ∈ fr t, -1≤d.1∧d.1≤1∧ -1≤d.2∧d.2≤0:=by
  unfold fr
  split <;> decide
theorem bs_near:∀ d ∈ bs, -1≤d.1∧d.1≤1∧ -1≤d.2∧d.2≤1:=by decide
theorem fr_len (t:Int):(fr t).length≤4∧(32:Int) * 2 ^ (fr t).length = csz t:=by
  unfold fr csz
  split <;> decide
def fold (w h:Int) (p:List Int) (x y:Int) (l:List (Int×Int)) (a:Int):Int:=l.foldl (fun n d=>2 * n + px w h p (x + d.1) (y + d.2)) a
theorem fold_take {w h:Int} {p:List Int} {x y a:Int} {l:List (Int×Int)} {i:Nat} (hi:i < l.length):
    fold w h p x y (l.take (i + 1)) a = 2 * fold w h p x y (l.take i) a + px w h p (x + (l.getD i (0,0)).1) (y + (l.getD i (0,0)).2):=by
  unfold fold
  rw [take_succ_getD hi (0,0),List.foldl_append]
  rfl
theorem fold_rg {w h:Int} {p:List Int} (h0:∀ v ∈ p,0≤v∧v≤1) {x y:Int}:∀ (l:List (Int×Int)) {a M:Int},0≤a→a < M→0≤fold w h p x y l a∧fold w h p x y l a < M * 2 ^ l.length
  | [],a,M,ha,hM=>by
    unfold fold
    simp
    omega
  | d::l,a,M,ha,hM=>by
    have b:=px_01 (w:=w) (h:=h) h0 (x + d.1) (y + d.2)
    have:=fold_rg (w:=w) (h:=h) h0 (x:=x) (y:=y) l (a:=2 * a + px w h p (x + d.1) (y + d.2)) (M:=M * 2) (by omega) (by omega)
    rw [List.length_cons,Int.pow_succ]
    rw [show M * (2 ^ l.length * 2) = M * 2 * 2 ^ l.length by rw [Int.mul_assoc,Int.mul_comm 2]]
    exact this
def rctx (t dx dy w h:Int) (p:List Int) (rw rh:Int) (rp:List Int) (x y:Int):Int:=fold rw rh rp (x - dx) (y - dy) bs (fold w h p x y (fr t) 0)
theorem rctx_rg {t dx dy w h:Int} {p:List Int} {rw rh:Int} {rp:List Int} (hp:∀ v ∈ p,0≤v∧v≤1) (hr:∀ v ∈ rp,0≤v∧v≤1) (x y:Int):0≤rctx t dx dy w h p rw rh rp x y∧rctx t dx dy w h p rw rh rp x y < csz t:=by
  obtain ⟨_,h2⟩:=fr_len t
  have a:=fold_rg hp (w:=w) (h:=h) (x:=x) (y:=y) (fr t) (a:=0) (M:=1) (by omega) (by omega)
  have b:=fold_rg hr (w:=rw) (h:=rh) (x:=x - dx) (y:=y - dy) bs a.1 a.2
  unfold rctx
  have e:(1:Int) * 2 ^ (fr t).length * 2 ^ bs.length = csz t:=by
    rw [← h2]
    show 1 * 2 ^ (fr t).length * 2 ^ 5 = _
    rw [Int.one_mul,Int.mul_comm]
    rfl
  rw [e] at b
  exact b
theorem grid_ok {fl:Nat} {w h:Int} {p:List Int} (hp:Pix w h p) {x y:Int} {K:Int→Option Ans}:F_refine_grid_at fl w h p x y K = K (px w h p x y):=by
  have hl:=hp.len
  have hn:=hp.n
  unfold F_refine_grid_at px
  simp only [cd]
  by_cases hi:ins w h x y
  · have hq:=place hi
    have hy:=place_y hi
    rw [if_pos hi]
    obtain ⟨h1,h2,h3,h4⟩:=hi
    rw [if_neg (by omega),if_neg (by omega),if_neg (by omega),if_neg (by omega),w6 (x:=y * w),w6 (x:=y * w + x),if_pos (by omega)]
  · rw [if_neg hi]
    unfold ins at hi
    repeat' split
    all_goals first | rfl | omega
def flatv (dx dy rw rh:Int) (rp:List Int) (x y:Int):Int×Bool:=
  if (List.range 9).all (fun i=>decide (px rw rh rp (x - dx + ((i % 3:Nat):Int) - 1) (y - dy + ((i / 3:Nat):Int) - 1) = px rw rh rp (x - dx) (y - dy))) = true then (px rw rh rp (x - dx) (y - dy),true) else (0,false)
structure RR (t dx dy kd w h:Int) (p:List Int) (rw rh:Int) (rp:List Int):Prop where
  t:t = 0∨t = 1
  k:kd = 0∨kd = 1
  x: -200≤dx∧dx≤200
  y: -200≤dy∧dy≤200
  p:Pix w h p
  r:Pix rw rh rp
section
variable {fl:Nat} (hfl:9223372036854775808≤fl) {t dx dy kd w h:Int} {p:List Int} {rw rh:Int} {rp:List Int} {ty:Bool}
include hfl
end
section
variable (t dx dy base w h:Int) (p:List Int) (rw rh:Int) (rp:List Int)
end
section
variable {t dx dy base w h kd:Int} {p:List Int} {rw rh:Int} {rp:List Int} {n:Nat}
end
section
variable {fl:Nat} (hfl:9223372036854775808≤fl) {t dx dy base w h kd:Int} {p:List Int} {rw rh:Int} {rp:List Int}
include hfl
theorem rvalid_ok2 (hr:RR t dx dy kd w h p rw rh rp) {ty:Bool} {K:Bool→Option Ans}:F_refine_Valid fl t dx dy ty kd K = K true:=by
  have h1:=hr.x
  have h2:=hr.y
  have hA:(bif decide (dy < dx) then dy else dx)≥ -200:=by
    by_cases h:dy < dx
    · rw [dec_t h]; omega
    · rw [dec_f h]; omega
  have im:∀ a b:Int,a≤200→b≤200→imax a b≤200:=fun a b ha hb=>by
    unfold imax
    by_cases h:b > a
    · rw [dec_t h]; exact hb
    · rw [dec_f h]; exact ha
  have hB:imax (imax (imax dx (IntKind.i64.wrap (0 - dx))) dy) (IntKind.i64.wrap (0 - dy))≤200:=by
    rw [w6 (x:=0 - dx),w6 (x:=0 - dy)]
    exact im _ _ (im _ _ (im _ _ (by omega) (by omega)) (by omega)) (by omega)
  unfold F_refine_Valid
  simp only [decide_eq_true hA,decide_eq_true hB,cond_true]
  rcases hr.t with rfl | rfl <;> rcases hr.k with rfl | rfl <;> rfl
end
open Go Ev Bm Co Gen Dc
def pxD (t dx dy base w h rw rh:Int) (rp:List Int) (y x:Nat) (p:List Int):Dec (List Int):=.get (base + rctx t dx dy w h p rw rh rp (x:Int) (y:Int)) fun b=>.ret (p.set (y * w.toNat + x) b)
def rowD (t dx dy base w h rw rh:Int) (rp:List Int) (y:Nat) (p:List Int):Dec (List Int):=loopD (pxD t dx dy base w h rw rh rp y) w.toNat 0 p
def regD (t dx dy base w h rw rh:Int) (rp:List Int):Dec (List Int):=loopD (rowD t dx dy base w h rw rh rp) h.toNat 0 (List.replicate (w * h).toNat 0)
section
variable {t dx dy base w h kd:Int} {p:List Int} {rw rh:Int} {rp:List Int} {n:Nat}
theorem Pix.set2 {w h:Int} {p:List Int} (hp:Pix w h p) {i:Nat} {b:Int} (hb:b = 0∨b = 1):Pix w h (p.set i b):=
  ⟨hp.w0,hp.h0,hp.w1,hp.h1,hp.n,by rw [List.length_set]; exact hp.len,fun v hv=>by
    rcases List.mem_or_eq_of_mem_set hv with hv | rfl
    · exact hp.bit v hv
    · omega⟩
theorem pxD_all (hr:∀ v ∈ rp,0≤v∧v≤1) (h0:0≤base) (h1:base + csz t + 1≤(n:Int)) (hp:Pix w h p) (y x:Nat):(pxD t dx dy base w h rw rh rp y x p).All n (Pix w h):=by
  have c:=rctx_rg (t:=t) (dx:=dx) (dy:=dy) (w:=w) (h:=h) (rw:=rw) (rh:=rh) hp.bit hr (x:Int) (y:Int)
  exact ⟨⟨by omega,by omega⟩,fun b hb=>Pix.set2 hp hb⟩
theorem rowD_all (hr:∀ v ∈ rp,0≤v∧v≤1) (h0:0≤base) (h1:base + csz t + 1≤(n:Int)) (hp:Pix w h p) (y:Nat):(rowD t dx dy base w h rw rh rp y p).All n (Pix w h):=
  loopD_all (I:=fun _ p=>Pix w h p) w.toNat 0 p (fun j a _ _ ha=>pxD_all hr h0 h1 ha y j) hp
theorem pix_zero (hf:fit w h = true):Pix w h (List.replicate (w * h).toNat 0):=by
  obtain ⟨f1,f2,f3,f4,f5⟩:=fit_iff.1 hf
  have hm:=Int.mul_nonneg f1 f2
  exact ⟨f1,f2,f3,f4,f5,by rw [List.length_replicate]; omega,fun v hv=>by have:=(List.mem_replicate.1 hv).2; omega⟩
theorem regD_all (hr:∀ v ∈ rp,0≤v∧v≤1) (h0:0≤base) (h1:base + csz t + 1≤(n:Int)) (hf:fit w h = true):(regD t dx dy base w h rw rh rp).All n (Pix w h):=
  loopD_all (I:=fun _ p=>Pix w h p) h.toNat 0 _ (fun j a _ _ ha=>rowD_all hr h0 h1 ha j) (pix_zero hf)
end
end Go.Proofs.YtipdidpalcmlhaaGreat.Rf
namespace Go.Proofs.YtipdidpalcmlhaaGreat.Tx
open Go Ev Bm Co
abbrev Bmp:Type:=Int×Int×List Int
abbrev Item:Type:=Int×Int×Int×Bool×Int×Int×Int×Int×List Int
def ov (o0 o1 o3 o4 o5 o7:Int):Bool:=decide ((o0 = 1∨o0 = 2∨o0 = 4∨o0 = 8)∧0≤o1∧o1≤3∧ -16≤o3∧o3≤16∧0≤o4∧o4≤4∧(o5 = 0∨o5 = 1)∧(o7 = 0∨o7 = 1))
theorem ov_iff {o0 o1 o3 o4 o5 o7:Int}:ov o0 o1 o3 o4 o5 o7 = true↔(o0 = 1∨o0 = 2∨o0 = 4∨o0 = 8)∧0≤o1∧o1≤3∧ -16≤o3∧o3≤16∧0≤o4∧o4≤4∧(o5 = 0∨o5 = 1)∧(o7 = 0∨o7 = 1):=by simp [ov]
def shp (b:Bmp):Bool:=valid b.1 b.2.1 b.2.2&&decide (1≤b.1∧b.1≤40∧1≤b.2.1∧b.2.1≤40)
def near (x m:Int):Prop:= -m≤x∧x≤m
instance (x m:Int):Decidable (near x m):=by unfold near; infer_instance
def Item.pix (i:Item):Bmp:=(i.2.2.2.2.2.2.1,i.2.2.2.2.2.2.2.1,i.2.2.2.2.2.2.2.2)
def itm (rf:Bool) (n:Int) (i:Item):Bool:=
  decide (0≤i.1∧i.1 < n∧near i.2.1 100000∧near i.2.2.1 100000)&&
    (if i.2.2.2.1 = true then rf&&decide (near i.2.2.2.2.1 200∧near i.2.2.2.2.2.1 200)
     else decide (i.2.2.2.2.1 = 0∧i.2.2.2.2.2.1 = 0∧i.2.2.2.2.2.2.1 = 0∧i.2.2.2.2.2.2.2.1 = 0∧(i.2.2.2.2.2.2.2.2.length:Int) = 0))
def shpI (i:Item):Bool:=!i.2.2.2.1 || shp i.pix
def bErr (o0 o1 o3 o4 o5 o7:Int) (symbols:List Bmp) (l:List Item):Int:=
  if ov o0 o1 o3 o4 o5 o7 = true then (if symbols.all shp = true then (if l.all shpI = true then 0 else 30) else 30) else 2
section
variable {fl:Nat} (hfl:9223372036854775808≤fl)
include hfl
theorem has4 {x:Int} {K:Bool→Option Ans}:F_slices_Contains_int_int fl [1,2,4,8] x K = K (decide (x = 1∨x = 2∨x = 4∨x = 8)):=by
  obtain ⟨m,rfl⟩:∃ m,fl = m + 5:=⟨fl - 5,by omega⟩
  unfold F_slices_Contains_int_int Fg_slices_Contains_int_int F_slices_Index_int_int L_slices_Index_int_int_0
  by_cases h1:x = 1
  · subst h1; rfl
  by_cases h2:x = 2
  · subst h2; rfl
  by_cases h4:x = 4
  · subst h4; rfl
  by_cases h8:x = 8
  · subst h8; rfl
  rw [decide_eq_false (by omega)]
  have e:∀ (i:Nat) (c:List Int×Int×Int×Int→Option Ans) (b:(Int→Option Ans)×(Unit→Option Ans)),i < 4→S_slices_Index_int_int_0 (m + 5) ([1,2,4,8],x,4,(i:Int)) c b = c ([1,2,4,8],x,4,((i + 1:Nat):Int)):=by
    intro i c b hi
    obtain ⟨ret,b⟩:=b
    have hh:i = 0∨i = 1∨i = 2∨i = 3:=by omega
    simp only [S_slices_Index_int_int_0]
    rw [dec_t (by omega),dec_t (show _∧_ from ⟨by omega,by show (i:Int) < 4; omega⟩),Int.toNat_natCast]
    rcases hh with rfl | rfl | rfl | rfl
    · rw [cond_f (by simp [h1])]; rfl
    · rw [cond_f (by simp [h2])]; rfl
    · rw [cond_f (by simp [h4])]; rfl
    · rw [cond_f (by simp [h8])]; rfl
  refine iter_seq (step:=S_slices_Index_int_int_0 (m + 5)) (fun i:Nat=>([1,2,4,8],x,4,(i:Int))) 4 rfl (fun i hi c=>e i c _ hi) (fun c=> ?_) (by omega)
  simp only [S_slices_Index_int_int_0]
  rw [dec_f (by omega)]
  rfl
theorem tvalid {o0 o1 o3 o4 o5 o7:Int} {tu rf:Bool} {K:Bool→Option Ans}:F_text_Valid fl o0 o1 tu o3 o4 o5 rf o7 K = K (ov o0 o1 o3 o4 o5 o7):=by
  unfold F_text_Valid Fg_text_Valid
  rw [has4 hfl]
  unfold ov
  by_cases h0:o0 = 1∨o0 = 2∨o0 = 4∨o0 = 8
  rotate_left
  · rw [decide_eq_false h0,cond_false]
    congr 1
    symm
    exact decide_eq_false (fun h=>h0 h.1)
  rw [decide_eq_true h0,cond_true]
  by_cases h1:0≤o1
  rotate_left
  · rw [dec_f (by omega),decide_eq_false (by omega)]
  by_cases h2:o1≤3
  rotate_left
  · rw [dec_t (by omega),dec_f (by omega),decide_eq_false (by omega)]
  by_cases h3: -16≤o3
  rotate_left
  · rw [dec_t (by omega),dec_t (by omega),dec_f (by omega),decide_eq_false (by omega)]
  by_cases h4:o3≤16
  rotate_left
  · rw [dec_t (by omega),dec_t (by omega),dec_t (by omega),dec_f (by omega),decide_eq_false (by omega)]
  by_cases h5:0≤o4
  rotate_left
  · rw [dec_t (by omega),dec_t (by omega),dec_t (by omega),dec_t (by omega),dec_f (by omega),decide_eq_false (by omega)]
  by_cases h6:o4≤4
  rotate_left
  · rw [dec_t (by omega),dec_t (by omega),dec_t (by omega),dec_t (by omega),dec_t (by omega),dec_f (by omega),decide_eq_false (by omega)]
  rw [dec_t (by omega),dec_t (by omega),dec_t (by omega),dec_t (by omega),dec_t (by omega),dec_t (by omega)]
  simp only [cb]
  have e7:(o7==1) = decide (o7 = 1):=rfl
  rw [e7]
  repeat' split
  all_goals congr 1
  all_goals first | (rw [decide_eq_true (by omega)]) | (rw [decide_eq_false (by omega)]) | skip
  all_goals first | (rw [decide_eq_decide]; omega) | (symm; rw [decide_eq_true_iff]; omega) | (symm; rw [decide_eq_false_iff_not]; omega) | skip
theorem isShape_ok {w h:Int} {p:List Int} {K:Bool→Option Ans}:F_text_isShape fl w h p K = K (shp (w,h,p)):=by
  unfold F_text_isShape Fg_text_isShape shp
  dsimp only
  rw [valid_ok hfl]
  cases valid w h p with
  | false=>rfl
  | true=>
    rw [cond_true]
    by_cases h1:w≥1
    rotate_left
    · rw [dec_f h1,decide_eq_false (by omega)]; rfl
    rw [dec_t h1]
    by_cases h2:w≤40
    rotate_left
    · rw [dec_f h2,decide_eq_false (by omega)]; rfl
    rw [dec_t h2]
    by_cases h3:h≥1
    rotate_left
    · rw [dec_f h3,decide_eq_false (by omega)]; rfl
    rw [dec_t h3,Bool.true_and]
    congr 1
    exact decide_eq_decide.2 (by omega)
theorem bm_loop {l:List Bmp} (hl:l.length≤1000000000000000) {K:Bool→Option Ans}:F_slices_ContainsFunc_api_Bitmap_api_Bitmap_261 fl l K = K (!l.all shp):=by
  unfold F_slices_ContainsFunc_api_Bitmap_api_Bitmap_261 Fg_slices_ContainsFunc_api_Bitmap_api_Bitmap_261 F_slices_IndexFunc_api_Bitmap_api_Bitmap_261 Fg_slices_IndexFunc_api_Bitmap_api_Bitmap_261 L_slices_IndexFunc_api_Bitmap_api_Bitmap_261_0
  have st:∀ i:Nat,i < l.length→∀ c ret b,S_slices_IndexFunc_api_Bitmap_api_Bitmap_261_0 fl (l,(l.length:Int),(i:Int)) c (ret,b) = if shp (l.getD i (0,0,[])) = true then c (l,(l.length:Int),((i + 1:Nat):Int)) else ret (i:Int):=by
    intro i hi c ret b
    simp only [S_slices_IndexFunc_api_Bitmap_api_Bitmap_261_0,Sg_slices_IndexFunc_api_Bitmap_api_Bitmap_261_0,F_text_begun_1,Fg_text_begun_1]
    rw [dec_t (by omega),dec_t (by omega),Int.toNat_natCast,isShape_ok hfl]
    try dsimp only
    rw [show ((l.getD i (0,0,[])).fst,(l.getD i (0,0,[])).snd.fst,(l.getD i (0,0,[])).snd.snd) = l.getD i (0,0,[]) from rfl,wrap64 (by omega) (by omega)]
    cases shp (l.getD i (0,0,[])) <;> rfl
  rcases all_or_first shp (0,0,[]) l with ha | ⟨n,hn,hb,hi⟩
  · rw [ha]
    refine iter_to (step:=S_slices_IndexFunc_api_Bitmap_api_Bitmap_261_0 fl) (fun i:Nat=>(l,(l.length:Int),(i:Int))) l.length (fun i hi c=>by rw [st i hi,if_pos (all_getD ha _ hi)]) (fun c=> ?_) (by omega)
    simp only [S_slices_IndexFunc_api_Bitmap_api_Bitmap_261_0,Sg_slices_IndexFunc_api_Bitmap_api_Bitmap_261_0]
    rw [dec_f (by omega)]
    rfl
  · rw [not_all hn hb]
    refine iter_to (step:=S_slices_IndexFunc_api_Bitmap_api_Bitmap_261_0 fl) (fun i:Nat=>(l,(l.length:Int),(i:Int))) n (fun i hi' c=>by rw [st i (by omega),if_pos (hi i hi')]) (fun c=> ?_) (by omega)
    rw [st n hn,if_neg (by rw [hb]; simp)]
    show K (decide ((n:Int)≥0)) = K true
    rw [decide_eq_true (by omega)]
theorem it_loop {l:List Item} (hl:l.length≤1000000000000000) {K:Bool→Option Ans}:F_slices_ContainsFunc_api_Item_api_Item_177 fl l K = K (!l.all shpI):=by
  unfold F_slices_ContainsFunc_api_Item_api_Item_177 Fg_slices_ContainsFunc_api_Item_api_Item_177 F_slices_IndexFunc_api_Item_api_Item_177 Fg_slices_IndexFunc_api_Item_api_Item_177 L_slices_IndexFunc_api_Item_api_Item_177_0
  have st:∀ i:Nat,i < l.length→∀ c ret b,S_slices_IndexFunc_api_Item_api_Item_177_0 fl (l,(l.length:Int),(i:Int)) c (ret,b) = if shpI (l.getD i (0,0,0,false,0,0,0,0,[])) = true then c (l,(l.length:Int),((i + 1:Nat):Int)) else ret (i:Int):=by
    intro i hi c ret b
    simp only [S_slices_IndexFunc_api_Item_api_Item_177_0,Sg_slices_IndexFunc_api_Item_api_Item_177_0,F_text_begun_2,Fg_text_begun_2]
    rw [dec_t (by omega),dec_t (by omega),Int.toNat_natCast,isShape_ok hfl,wrap64 (by omega) (by omega)]
    generalize l.getD i (0,0,0,false,0,0,0,0,[]) = it
    unfold shpI Item.pix
    cases it.2.2.2.1 with
    | false=>rfl
    | true=>
      rw [cond_true]
      cases shp (it.2.2.2.2.2.2.1,it.2.2.2.2.2.2.2.1,it.2.2.2.2.2.2.2.2) <;> rfl
  rcases all_or_first shpI (0,0,0,false,0,0,0,0,[]) l with ha | ⟨n,hn,hb,hi⟩
  · rw [ha]
    refine iter_to (step:=S_slices_IndexFunc_api_Item_api_Item_177_0 fl) (fun i:Nat=>(l,(l.length:Int),(i:Int))) l.length (fun i hi c=>by rw [st i hi,if_pos (all_getD ha _ hi)]) (fun c=> ?_) (by omega)
    simp only [S_slices_IndexFunc_api_Item_api_Item_177_0,Sg_slices_IndexFunc_api_Item_api_Item_177_0]
    rw [dec_f (by omega)]
    rfl
  · rw [not_all hn hb]
    refine iter_to (step:=S_slices_IndexFunc_api_Item_api_Item_177_0 fl) (fun i:Nat=>(l,(l.length:Int),(i:Int))) n (fun i hi' c=>by rw [st i (by omega),if_pos (hi i hi')]) (fun c=> ?_) (by omega)
    rw [st n hn,if_neg (by rw [hb]; simp)]
    show K (decide ((n:Int)≥0)) = K true
    rw [decide_eq_true (by omega)]
theorem begun_ok {o0 o1 o3 o4 o5 o7:Int} {tu rf:Bool} {symbols:List Bmp} {l:List Item} (hs:symbols.length≤1000000000000000) (hl:l.length≤1000000000000000) {K:Int→Option Ans}:
    F_text_begun fl o0 o1 tu o3 o4 o5 rf o7 symbols l K = K (bErr o0 o1 o3 o4 o5 o7 symbols l):=by
  unfold F_text_begun Fg_text_begun bErr
  rw [tvalid hfl]
  cases ov o0 o1 o3 o4 o5 o7 with
  | false=>rfl
  | true=>
    rw [cond_f (b:=!true) rfl,bm_loop hfl hs]
    cases symbols.all shp with
    | false=>rfl
    | true=>
      rw [cond_f (b:=!true) rfl,it_loop hfl hl]
      cases l.all shpI <;> rfl
end
theorem near_ok {fl:Nat} {x m:Int} (h0:0≤m) (h1:m≤1000000) {K:Bool→Option Ans}:F_text_near fl x m K = K (decide (near x m)):=by
  unfold F_text_near near
  rw [w6 (x:=0 - m)]
  by_cases h:x≥0 - m
  · rw [dec_t h]
    congr 1
    exact decide_eq_decide.2 (by omega)
  · rw [dec_f h]
    congr 1
    symm
    exact decide_eq_false (by omega)
section
variable {fl:Nat} (hfl:9223372036854775808≤fl)
include hfl
end
open Go Ev Bm Co
theorem rsize_ok {fl:Nat} {w h:Int} {K:Bool→Option Ans}:F_ref06_IsSize fl w h K = K (fit w h):=by
  unfold F_ref06_IsSize fit
  by_cases h1:w≥0
  rotate_left
  · rw [dec_f h1,decide_eq_false (by omega)]
  by_cases h2:w≤200
  rotate_left
  · rw [dec_t h1,dec_f h2,decide_eq_false (by omega)]
  by_cases h3:h≥0
  rotate_left
  · rw [dec_t h1,dec_t h2,dec_f h3,decide_eq_false (by omega)]
  by_cases h4:h≤200
  rotate_left
  · rw [dec_t h1,dec_t h2,dec_t h3,dec_f h4,decide_eq_false (by omega)]
  rw [dec_t h1,dec_t h2,dec_t h3,dec_t h4]
  obtain ⟨q1,q2⟩:=mul_le (a:=200) (b:=200) h1 h2 h3 h4
  rw [wrap64 (by omega) (by omega)]
  congr 1
  exact decide_eq_decide.2 (by omega)
section
variable {fl:Nat} (hfl:9223372036854775808≤fl)
include hfl
theorem rrow_ok {p:List Int} (hp:p.length≤1000000000000000) {K:Bool→Option Ans}:F_ref06_IsRow fl p K = K (p.all fun x=>decide (x≤1)):=by
  unfold F_ref06_IsRow L_ref06_IsRow_0
  rcases all_or_first (fun x:Int=>decide (x≤1)) 0 p with ha | ⟨n,hn,hb,hi⟩
  · rw [ha]
    refine iter_to (step:=S_ref06_IsRow_0 fl) (fun i:Nat=>(p,(p.length:Int),(i:Int))) p.length (fun i hi c=> ?_) (fun c=> ?_) (by omega)
    · have:=of_decide_eq_true (all_getD ha 0 hi)
      simp only [S_ref06_IsRow_0]
      rw [dec_t (by omega),dec_t (by omega),Int.toNat_natCast,dec_f (by omega),wrap64 (by omega) (by omega)]
      rfl
    · simp only [S_ref06_IsRow_0]
      rw [dec_f (by omega)]
  · rw [not_all hn hb]
    refine iter_to (step:=S_ref06_IsRow_0 fl) (fun i:Nat=>(p,(p.length:Int),(i:Int))) n (fun i hi' c=> ?_) (fun c=> ?_) (by omega)
    · have:=of_decide_eq_true (hi i hi')
      simp only [S_ref06_IsRow_0]
      rw [dec_t (by omega),dec_t (by omega),Int.toNat_natCast,dec_f (by omega),wrap64 (by omega) (by omega)]
      rfl
    · have:=of_decide_eq_false hb
      simp only [S_ref06_IsRow_0]
      rw [dec_t (by omega),dec_t (by omega),Int.toNat_natCast,dec_t (by omega)]
theorem rbitmap_ok {w h:Int} {p:List Int} {K:Bool→Option Ans}:F_ref06_IsBitmap fl w h p K = K (valid w h p):=by
  unfold F_ref06_IsBitmap Fg_ref06_IsBitmap valid
  rw [rsize_ok]
  cases hf:fit w h with
  | false=>rfl
  | true=>
    have hm:=fit_iff.1 hf
    rw [cond_true,fit_mul hf,Bool.true_and]
    by_cases hl:(p.length:Int) = w * h
    · rw [cond_t (by simp [hl]),rrow_ok hfl (by omega),decide_eq_true hl,Bool.true_and]
    · rw [cond_f (by simp [hl]),decide_eq_false hl,Bool.false_and]
theorem rshape_ok {w h:Int} {p:List Int} {K:Bool→Option Ans}:F_ref10_IsShape fl w h p K = K (shp (w,h,p)):=by
  unfold F_ref10_IsShape Fg_ref10_IsShape shp
  dsimp only
  rw [rbitmap_ok hfl]
  cases valid w h p with
  | false=>rfl
  | true=>
    rw [cond_true]
    by_cases h1:w≥1
    rotate_left
    · rw [dec_f h1,decide_eq_false (by omega)]; rfl
    rw [dec_t h1]
    by_cases h2:w≤40
    rotate_left
    · rw [dec_f h2,decide_eq_false (by omega)]; rfl
    rw [dec_t h2]
    by_cases h3:h≥1
    rotate_left
    · rw [dec_f h3,decide_eq_false (by omega)]; rfl
    rw [dec_t h3,Bool.true_and]
    congr 1
    exact decide_eq_decide.2 (by omega)
end
theorem rvalid {fl:Nat} {o0 o1 o3 o4 o5 o7:Int} {tu rf:Bool} {K:Bool→Option Ans}:F_ref10_Valid fl o0 o1 tu o3 o4 o5 rf o7 K = K (ov o0 o1 o3 o4 o5 o7):=by
  unfold F_ref10_Valid ov
  simp only [cn,cd]
  have rest:(if o1≥0 then if o1≤3 then if o3≥ -16 then if o3≤16 then if o4≥0 then if o4≤4 then if o5≥0 then if o5≤1 then if o7≥0 then K (decide (o7≤1)) else K false else K false else K false else K false else K false else K false else K false else K false else K false) = K (decide (0≤o1∧o1≤3∧ -16≤o3∧o3≤16∧0≤o4∧o4≤4∧(o5 = 0∨o5 = 1)∧(o7 = 0∨o7 = 1))):=by
    by_cases h1:o1≥0
    rotate_left
    · rw [if_neg h1,decide_eq_false (by omega)]
    by_cases h2:o1≤3
    rotate_left
    · rw [if_pos h1,if_neg h2,decide_eq_false (by omega)]
    by_cases h3:o3≥ -16
    rotate_left
    · rw [if_pos h1,if_pos h2,if_neg h3,decide_eq_false (by omega)]
    by_cases h4:o3≤16
    rotate_left
    · rw [if_pos h1,if_pos h2,if_pos h3,if_neg h4,decide_eq_false (by omega)]
    by_cases h5:o4≥0
    rotate_left
    · rw [if_pos h1,if_pos h2,if_pos h3,if_pos h4,if_neg h5,decide_eq_false (by omega)]
    by_cases h6:o4≤4
    rotate_left
    · rw [if_pos h1,if_pos h2,if_pos h3,if_pos h4,if_pos h5,if_neg h6,decide_eq_false (by omega)]
    by_cases h7:o5≥0
    rotate_left
    · rw [if_pos h1,if_pos h2,if_pos h3,if_pos h4,if_pos h5,if_pos h6,if_neg h7,decide_eq_false (by omega)]
    by_cases h8:o5≤1
    rotate_left
    · rw [if_pos h1,if_pos h2,if_pos h3,if_pos h4,if_pos h5,if_pos h6,if_pos h7,if_neg h8,decide_eq_false (by omega)]
    by_cases h9:o7≥0
    rotate_left
    · rw [if_pos h1,if_pos h2,if_pos h3,if_pos h4,if_pos h5,if_pos h6,if_pos h7,if_pos h8,if_neg h9,decide_eq_false (by omega)]
    rw [if_pos h1,if_pos h2,if_pos h3,if_pos h4,if_pos h5,if_pos h6,if_pos h7,if_pos h8,if_pos h9]
    exact congrArg K (decide_eq_decide.2 (by omega))
  rw [rest]
  by_cases a1:o0 = 1
  · rw [if_pos a1]
    exact congrArg K (decide_eq_decide.2 (by omega))
  by_cases a2:o0 = 2
  · rw [if_neg a1,if_pos a2]
    exact congrArg K (decide_eq_decide.2 (by omega))
  by_cases a3:o0 = 4
  · rw [if_neg a1,if_neg a2,if_pos a3]
    exact congrArg K (decide_eq_decide.2 (by omega))
  by_cases a4:o0 = 8
  · rw [if_neg a1,if_neg a2,if_neg a3,if_pos a4]
    exact congrArg K (decide_eq_decide.2 (by omega))
  rw [if_neg a1,if_neg a2,if_neg a3,if_neg a4]
  exact congrArg K (decide_eq_false (by omega)).symm
theorem shift_ok {fl:Nat} {x:Int} {K:Bool→Option Ans}:F_ref10_isShift fl x K = K (decide (near x 100000)):=by
  unfold F_ref10_isShift near
  by_cases h:x≥ -100000
  · rw [dec_t h]
    congr 1
    exact decide_eq_decide.2 (by omega)
  · rw [dec_f h]
    congr 1
    symm
    exact decide_eq_false (by omega)
theorem side_ok {fl:Nat} {x:Int} {K:Bool→Option Ans}:F_ref10_isSide fl x K = K (decide (near x 200)):=by
  unfold F_ref10_isSide near
  by_cases h:x≥ -200
  · rw [dec_t h]
    congr 1
    exact decide_eq_decide.2 (by omega)
  · rw [dec_f h]
    congr 1
    symm
    exact decide_eq_false (by omega)
theorem isItem_ok {fl:Nat} {o0 o1 o3 o4 o5 o7 n:Int} {tu rf:Bool} {i:Item} {K:Bool→Option Ans}:
    F_ref10_isItem fl o0 o1 tu o3 o4 o5 rf o7 n i.1 i.2.1 i.2.2.1 i.2.2.2.1 i.2.2.2.2.1 i.2.2.2.2.2.1 i.2.2.2.2.2.2.1 i.2.2.2.2.2.2.2.1 i.2.2.2.2.2.2.2.2 K = K (itm rf n i):=by
  obtain ⟨a,s,t,r,dx,dy,w,h,p⟩:=i
  unfold F_ref10_isItem Fg_ref10_isItem itm
  dsimp only
  by_cases h1:a < 0
  · rw [dec_t h1,decide_eq_false (by omega)]; rfl
  rw [dec_f h1]
  by_cases h2:a≥n
  · rw [dec_t h2,decide_eq_false (by omega)]; rfl
  rw [dec_f h2,shift_ok]
  by_cases h3:near s 100000
  rotate_left
  · rw [decide_eq_false h3,decide_eq_false (fun h=>h3 h.2.2.1)]; rfl
  rw [decide_eq_true h3,cond_f (b:=!true) rfl,shift_ok]
  by_cases h4:near t 100000
  rotate_left
  · rw [decide_eq_false h4,decide_eq_false (fun h=>h4 h.2.2.2)]; rfl
  rw [decide_eq_true h4,cond_f (b:=!true) rfl,decide_eq_true (show 0≤a∧a < n∧near s 100000∧near t 100000 from ⟨by omega,by omega,h3,h4⟩),Bool.true_and]
  cases r with
  | false=>
    rw [cond_false,if_neg (by simp)]
    simp only [cb]
    have e:((p.length:Int)==0) = decide ((p.length:Int) = 0):=rfl
    rw [e]
    repeat' split
    all_goals congr 1
    · exact decide_eq_decide.2 (by omega)
    all_goals rw [decide_eq_false (by omega)]
  | true=>
    rw [cond_true,if_pos rfl]
    cases rf with
    | false=>rfl
    | true=>
      rw [cond_true,side_ok]
      by_cases h5:near dx 200
      · rw [decide_eq_true h5,cond_true,side_ok,Bool.true_and]
        congr 1
        exact decide_eq_decide.2 ⟨fun h=>⟨h5,h⟩,fun h=>h.2⟩
      · rw [decide_eq_false h5,decide_eq_false (fun h=>h5 h.1)]; rfl
def rErr (o0 o1 o3 o4 o5 o7:Int) (rf:Bool) (symbols:List Bmp) (l:List Item) (right:Bool) (many:Int):Int:=
  if ov o0 o1 o3 o4 o5 o7 = true then (if (right&&symbols.all shp&&l.all shpI) = true then (if (decide ((symbols.length:Int)≤60)&&decide ((l.length:Int)≤300)&&l.all (itm rf many)) = true then 0 else 2) else 30) else 2
section
variable {fl:Nat} (hfl:9223372036854775808≤fl)
include hfl
theorem asked_ok {o0 o1 o3 o4 o5 o7 many:Int} {tu rf right:Bool} {symbols:List Bmp} {l:List Item} (hs:symbols.length≤1000000000000000) (hl:l.length≤1000000000000000) {K:Int→Option Ans}:
    F_ref10_asked fl o0 o1 tu o3 o4 o5 rf o7 symbols l right many K = K (rErr o0 o1 o3 o4 o5 o7 rf symbols l right many):=by
  unfold F_ref10_asked Fg_ref10_asked rErr
  rw [rvalid]
  cases ov o0 o1 o3 o4 o5 o7 with
  | false=>rfl
  | true=>
    rw [cond_f (b:=!true) rfl,if_pos rfl]
    unfold L_ref10_asked_0
    refine iter_seq (step:=S_ref10_asked_0 fl) (fun i:Nat=>(symbols,l,right&&(symbols.take i).all shp,many,symbols,(symbols.length:Int),(i:Int),o0,o1,tu,o3,o4,o5,rf,o7)) symbols.length (by simp) (fun i hi c=> ?_) (fun c=> ?_) (by omega)
    · simp only [S_ref10_asked_0,Sg_ref10_asked_0]
      rw [dec_t (by omega),dec_t (by omega),Int.toNat_natCast,wrap64 (by omega) (by omega),all_take_succ hi (0,0,[]), ← Bool.and_assoc]
      cases right&&(symbols.take i).all shp with
      | false=>rfl
      | true=>
        rw [cond_true,rshape_ok hfl,Bool.true_and]
        rfl
    simp only [S_ref10_asked_0,Sg_ref10_asked_0]
    rw [dec_f (by omega),List.take_length]
    try dsimp only
    unfold L_ref10_asked_2
    refine iter_seq (step:=S_ref10_asked_2 fl) (fun i:Nat=>(symbols,l,right&&symbols.all shp&&(l.take i).all shpI,many,l,(l.length:Int),(i:Int),o0,o1,tu,o3,o4,o5,rf,o7)) l.length (by simp) (fun i hi c=> ?_) (fun c=> ?_) (by omega)
    · simp only [S_ref10_asked_2,Sg_ref10_asked_2]
      rw [dec_t (by omega),dec_t (by omega),Int.toNat_natCast,wrap64 (by omega) (by omega),all_take_succ hi (0,0,0,false,0,0,0,0,[]), ← Bool.and_assoc]
      generalize l.getD i (0,0,0,false,0,0,0,0,[]) = it
      cases right&&symbols.all shp&&(l.take i).all shpI with
      | false=>rfl
      | true=>
        rw [cond_true,Bool.true_and]
        unfold shpI Item.pix
        cases it.2.2.2.1 with
        | false=>rfl
        | true=>
          rw [cond_f (b:=!true) rfl,rshape_ok hfl]
          rfl
    simp only [S_ref10_asked_2,Sg_ref10_asked_2]
    rw [dec_f (by omega),List.take_length]
    try dsimp only
    cases right&&symbols.all shp&&l.all shpI with
    | false=>rfl
    | true=>
      rw [cond_f (b:=!true) rfl,if_pos rfl]
      by_cases h1:(symbols.length:Int) > 60
      · rw [dec_t h1,decide_eq_false (show ¬ (symbols.length:Int)≤60 by omega)]; rfl
      rw [dec_f h1,decide_eq_true (show (symbols.length:Int)≤60 by omega)]
      by_cases h2:(l.length:Int) > 300
      · rw [dec_t h2,decide_eq_false (show ¬ (l.length:Int)≤300 by omega)]; rfl
      rw [dec_f h2,decide_eq_true (show (l.length:Int)≤300 by omega),Bool.true_and,Bool.true_and]
      unfold L_ref10_asked_4
      have st:∀ i:Nat,i < l.length→∀ c ret b,S_ref10_asked_4 fl (many,l,(l.length:Int),(i:Int),o0,o1,tu,o3,o4,o5,rf,o7) c (ret,b) = if itm rf many (l.getD i (0,0,0,false,0,0,0,0,[])) = true then c (many,l,(l.length:Int),((i + 1:Nat):Int),o0,o1,tu,o3,o4,o5,rf,o7) else ret 2:=by
        intro i hi c ret b
        simp only [S_ref10_asked_4,Sg_ref10_asked_4]
        rw [dec_t (by omega),dec_t (by omega),Int.toNat_natCast,isItem_ok]
        try dsimp only
        rw [wrap64 (by omega) (by omega)]
        cases itm rf many (l.getD i (0,0,0,false,0,0,0,0,[])) <;> rfl
      rcases all_or_first (itm rf many) (0,0,0,false,0,0,0,0,[]) l with ha | ⟨j,hn,hb,hi⟩
      · rw [ha,if_pos rfl]
        refine iter_to (step:=S_ref10_asked_4 fl) (fun i:Nat=>(many,l,(l.length:Int),(i:Int),o0,o1,tu,o3,o4,o5,rf,o7)) l.length (fun i hi c=>by rw [st i hi,if_pos (all_getD ha _ hi)]) (fun c=> ?_) (by omega)
        simp only [S_ref10_asked_4,Sg_ref10_asked_4]
        rw [dec_f (by omega)]
      · rw [not_all hn hb,if_neg (by simp)]
        refine iter_to (step:=S_ref10_asked_4 fl) (fun i:Nat=>(many,l,(l.length:Int),(i:Int),o0,o1,tu,o3,o4,o5,rf,o7)) j (fun i hi' c=>by rw [st i (by omega),if_pos (hi i hi')]) (fun c=> ?_) (by omega)
        rw [st j hn,if_neg (by rw [hb]; simp)]
end
theorem rErr_eq {o0 o1 o3 o4 o5 o7:Int} {rf:Bool} {symbols:List Bmp} {l:List Item} {many:Int}:rErr o0 o1 o3 o4 o5 o7 rf symbols l true many = if bErr o0 o1 o3 o4 o5 o7 symbols l = 0 then (if (decide ((symbols.length:Int)≤60)&&decide ((l.length:Int)≤300)&&l.all (itm rf many)) = true then 0 else 2) else bErr o0 o1 o3 o4 o5 o7 symbols l:=by
  unfold rErr bErr
  cases ov o0 o1 o3 o4 o5 o7 <;> cases symbols.all shp <;> cases l.all shpI <;> simp
end Go.Proofs.YtipdidpalcmlhaaGreat.Tx
namespace Go.Proofs.YtipdidpalcmlhaaGreat.Dc
open Go Ev Bm Co
section
variable {fl:Nat} (hfl:9223372036854775808≤fl)
include hfl
end
end Go.Proofs.YtipdidpalcmlhaaGreat.Dc
namespace Go.Proofs.YtipdidpalcmlhaaGreat.Rf
open Go Ev Bm Co Gen Dc
theorem rpix_ok {fl:Nat} {w h:Int} {p:List Int} (hp:Pix w h p) {x y:Int} {K:Int→Option Ans}:F_ref06_Pix fl w h p x y K = K (px w h p x y):=by
  have hl:=hp.len
  have hn:=hp.n
  unfold F_ref06_Pix px
  simp only [cd]
  by_cases hi:ins w h x y
  · have hq:=place hi
    have hy:=place_y hi
    rw [if_pos hi]
    obtain ⟨h1,h2,h3,h4⟩:=hi
    rw [if_neg (by omega),if_neg (by omega),if_neg (by omega),if_neg (by omega),w6 (x:=y * w),w6 (x:=y * w + x),if_pos (by omega)]
  · rw [if_neg hi]
    unfold ins at hi
    repeat' split
    all_goals first | rfl | omega
section
variable {fl:Nat} (hfl:9223372036854775808≤fl) {t dx dy kd w h:Int} {p:List Int} {rw rh:Int} {rp:List Int} {ty:Bool}
include hfl
theorem alike_ok (hr:RR t dx dy kd w h p rw rh rp) {x y:Int} (hx: -1000≤x∧x≤1000) (hy: -1000≤y∧y≤1000) {K:Int×Bool→Option Ans}:
    F_ref08_Alike fl t dx dy ty kd rw rh rp x y K = K (flatv dx dy rw rh rp x y):=by
  have h1:=hr.x
  have h2:=hr.y
  unfold F_ref08_Alike Fg_ref08_Alike
  rw [rpix_ok hr.r,w6 (x:=x - dx),w6 (x:=y - dy)]
  try dsimp only
  unfold L_ref08_Alike_0 flatv
  generalize hc:px rw rh rp (x - dx) (y - dy) = c
  have step:∀ i:Nat,i < 9→∀ (ret:Int×Bool→Option Ans) (b:Int→Option Ans) k,S_ref08_Alike_0 fl (x,y,c,(i:Int),t,dx,dy,ty,kd,rw,rh,rp) k (ret,b)
      = if px rw rh rp (x - dx + ((i % 3:Nat):Int) - 1) (y - dy + ((i / 3:Nat):Int) - 1) = c then k (x,y,c,((i + 1:Nat):Int),t,dx,dy,ty,kd,rw,rh,rp) else ret (0,false):=by
    intro i hi ret b k
    have e1:((i:Int)).tmod 3 = ((i % 3:Nat):Int):=by rw [tmod_e (by omega)]; omega
    have e2:((i:Int)).tdiv 3 = ((i / 3:Nat):Int):=by rw [tdiv_e (by omega)]; omega
    simp only [S_ref08_Alike_0,Sg_ref08_Alike_0]
    rw [dec_t (by omega),e1,e2,w6 (x:=x - dx),w6 (x:=y - dy),w6 (x:=((i / 3:Nat):Int)),w6 (x:=x - dx + _),w6 (x:=x - dx + _ - 1),w6 (x:=y - dy + _),w6 (x:=y - dy + _ - 1),rpix_ok hr.r]
    try dsimp only
    rw [cn]
    split
    · rw [wrap64 (by omega) (by omega)]
      rfl
    · rfl
  rcases nat_or_first (fun i=>px rw rh rp (x - dx + ((i % 3:Nat):Int) - 1) (y - dy + ((i / 3:Nat):Int) - 1) = c) 9 with ha | ⟨n,hn,hb,hi⟩
  · rw [if_pos (by rw [List.all_eq_true]; exact fun i hi=>decide_eq_true (ha i (List.mem_range.1 hi)))]
    refine iter_seq (step:=S_ref08_Alike_0 fl) (fun i:Nat=>(x,y,c,(i:Int),t,dx,dy,ty,kd,rw,rh,rp)) 9 rfl (fun i hi k=> ?_) (fun k=> ?_) (by omega)
    · rw [step i hi,if_pos (ha i hi)]
    · simp only [S_ref08_Alike_0,Sg_ref08_Alike_0]
      rw [dec_f (by omega)]
  · rw [if_neg (by
      rw [List.all_eq_true]
      exact fun h=>hb (of_decide_eq_true (h n (List.mem_range.2 hn))))]
    refine iter_seq (step:=S_ref08_Alike_0 fl) (fun i:Nat=>(x,y,c,(i:Int),t,dx,dy,ty,kd,rw,rh,rp)) n rfl (fun i hin k=> ?_) (fun k=> ?_) (by omega)
    · rw [step i (by omega),if_pos (hi i hin)]
    · rw [step n hn,if_neg hb]
theorem rctx0 (hr:RR t dx dy kd w h p rw rh rp) {x y:Int} (hx: -1000≤x∧x≤1000) (hy: -1000≤y∧y≤1000) {b}:
    L_ref08_Context_0 fl (x,y,0,((fr t).length:Int),0,t,dx,dy,ty,kd,w,h,p,rw,rh,rp,fr t) b = b (x,y,fold w h p x y (fr t) 0,t,dx,dy,ty,kd,rw,rh,rp):=by
  have hl:=(fr_len t).1
  unfold L_ref08_Context_0
  refine iter_seq (step:=S_ref08_Context_0 fl) (fun i:Nat=>(x,y,fold w h p x y ((fr t).take i) 0,((fr t).length:Int),(i:Int),t,dx,dy,ty,kd,w,h,p,rw,rh,rp,fr t)) (fr t).length rfl (fun i hi c=> ?_) (fun c=> ?_) (by omega)
  · have e:=fr_near t _ (getD_mem hi (0,0))
    have a:=fold_rg hr.p.bit (w:=w) (h:=h) (x:=x) (y:=y) ((fr t).take i) (a:=0) (M:=1) (by omega) (by omega)
    have hle:(2:Int) ^ ((fr t).take i).length≤2 ^ 4:=by
      have:=Nat.pow_le_pow_right (n:=2) (by omega) (show ((fr t).take i).length≤4 by rw [List.length_take]; omega)
      exact_mod_cast this
    have b:=px_01 (w:=w) (h:=h) hr.p.bit (x + ((fr t).getD i (0,0)).1) (y + ((fr t).getD i (0,0)).2)
    simp (disch:=omega) only [S_ref08_Context_0,Sg_ref08_Context_0,dec_t,Int.toNat_natCast,wrap64,rpix_ok hr.p]
    rw [fold_take hi]
    rfl
  · simp (disch:=omega) only [S_ref08_Context_0,Sg_ref08_Context_0,dec_f,List.take_length]
theorem rctx2 (hr:RR t dx dy kd w h p rw rh rp) {x y:Int} (hx: -1000≤x∧x≤1000) (hy: -1000≤y∧y≤1000) {g:Int} (g0:0≤g) (g1:g < 16) {b}:
    L_ref08_Context_2 fl (x,y,g,(bs.length:Int),0,t,dx,dy,ty,kd,rw,rh,rp,bs) b = b (fold rw rh rp (x - dx) (y - dy) bs g):=by
  have h1:=hr.x
  have h2:=hr.y
  unfold L_ref08_Context_2
  refine iter_seq (step:=S_ref08_Context_2 fl) (fun i:Nat=>(x,y,fold rw rh rp (x - dx) (y - dy) (bs.take i) g,(bs.length:Int),(i:Int),t,dx,dy,ty,kd,rw,rh,rp,bs)) bs.length rfl (fun i hi c=> ?_) (fun c=> ?_) (by show 5 < fl; omega)
  · have e:=bs_near _ (getD_mem hi (0,0))
    have a':=fold_rg hr.r.bit (w:=rw) (h:=rh) (x:=x - dx) (y:=y - dy) (bs.take i) (a:=g) (M:=16) (by omega) (by omega)
    have hle2:(2:Int) ^ (bs.take i).length≤2 ^ 5:=by
      have:=Nat.pow_le_pow_right (n:=2) (by omega) (show (bs.take i).length≤5 by rw [List.length_take]; exact Nat.min_le_right _ _)
      exact_mod_cast this
    have b:=px_01 (w:=rw) (h:=rh) hr.r.bit (x - dx + (bs.getD i (0,0)).1) (y - dy + (bs.getD i (0,0)).2)
    have hb5:bs.length = 5:=rfl
    simp (disch:=omega) only [S_ref08_Context_2,Sg_ref08_Context_2,dec_t,Int.toNat_natCast,wrap64,rpix_ok hr.r]
    rw [fold_take hi]
    rfl
  · simp (disch:=omega) only [S_ref08_Context_2,Sg_ref08_Context_2,dec_f,List.take_length]
theorem rcontext_ok (hr:RR t dx dy kd w h p rw rh rp) {x y:Int} (hx: -1000≤x∧x≤1000) (hy: -1000≤y∧y≤1000) {K:Int→Option Ans}:
    F_ref08_Context fl t dx dy ty kd w h p rw rh rp x y K = K (rctx t dx dy w h p rw rh rp x y):=by
  have a:=fold_rg hr.p.bit (w:=w) (h:=h) (x:=x) (y:=y) (fr t) (a:=0) (M:=1) (by omega) (by omega)
  have hle:(2:Int) ^ (fr t).length≤2 ^ 4:=by
    have:=Nat.pow_le_pow_right (n:=2) (by omega) (fr_len t).1
    exact_mod_cast this
  have key:L_ref08_Context_0 fl (x,y,0,((fr t).length:Int),0,t,dx,dy,ty,kd,w,h,p,rw,rh,rp,fr t) (fun z=>L_ref08_Context_2 fl (z.1,z.2.1,z.2.2.1,(bs.length:Int),0,z.2.2.2.1,z.2.2.2.2.1,z.2.2.2.2.2.1,z.2.2.2.2.2.2.1,z.2.2.2.2.2.2.2.1,z.2.2.2.2.2.2.2.2.1,z.2.2.2.2.2.2.2.2.2.1,z.2.2.2.2.2.2.2.2.2.2,bs) K) = K (rctx t dx dy w h p rw rh rp x y):=by
    rw [rctx0 hfl hr hx hy]
    try dsimp only
    rw [rctx2 hfl hr hx hy a.1 (by omega)]
    rfl
  unfold F_ref08_Context Fg_ref08_Context
  rcases hr.t with rfl | rfl
  · rw [cond_f (b:=(0:Int)==1) rfl]
    exact key
  · rw [cond_t (b:=(1:Int)==1) rfl]
    exact key
theorem rvalid8 (hr:RR t dx dy kd w h p rw rh rp) {K:Bool→Option Ans}:F_ref08_Valid fl t dx dy ty kd K = K true:=by
  have h1:=hr.x
  have h2:=hr.y
  have h3:=hr.t
  have h4:=hr.k
  unfold F_ref08_Valid
  rw [dec_t (by omega),dec_t (by omega),dec_t (by omega),dec_t (by omega),dec_t (by omega),dec_t (by omega),dec_t (by omega),decide_eq_true (by omega)]
theorem rsize8 (ht:t = 0∨t = 1) {K:Int→Option Ans}:F_ref08_size fl t K = K (csz t + 1):=by
  unfold F_ref08_size csz
  rcases ht with rfl | rfl <;> rfl
theorem rasked8 (hr:RR t dx dy kd w h p rw rh rp) {base m:Int} {st:List Int} (hn:st.length≤8192) (h0:0≤base) (h1:base + csz t + 1≤(st.length:Int)) {K:Int→Option Ans}:F_ref08_asked fl t dx dy ty kd true base m st K = K 0:=by
  have hc:=csz_eq t
  unfold F_ref08_asked Fg_ref08_asked
  rw [rvalid8 hfl hr]
  try dsimp only
  rw [cond_f (b:=!true) rfl,cond_f (b:=!true) rfl,dec_f (by omega),rsize8 hfl hr.t]
  try dsimp only
  rw [wrap64 (by omega) (by omega),dec_f (by omega)]
end
end Go.Proofs.YtipdidpalcmlhaaGreat.Rf
namespace Go.Proofs.YtipdidpalcmlhaaGreat.Dc
open Go Ev Bm Co
def finD (base:Int) (v:Int):Dec (Bool×Int):=
  if v > 1048577 then .bad 3 else if v = 1 then .ret (false,0) else .get (base + 22) fun s=>.ret (false,(v - 1) * (1 - 2 * s))
theorem numD_eq (base:Int):numD base = .get base fun b=>if b = 1 then .ret (true,0) else cntD base (fun c=>digD base c (finD base) c 0 1) 20 0:=rfl
theorem digC_rg {c j:Nat} (hc:c≤20):0≤digC c j∧digC c j≤47:=by unfold digC; split <;> omega
theorem digD_all {β:Type} {base:Int} {c n:Nat} {k:Int→Dec β} {P:β→Prop} (h0:0≤base) (h1:base + 48≤(n:Int)) (hc:c≤20) (hk:∀ v,1≤v→(k v).All n P):∀ (l i:Nat) (v:Int),1≤v→(digD base c k l i v).All n P
  | 0,i,v,hv=>hk v hv
  | l + 1,i,v,hv=>by
    have:=digC_rg (c:=c) (j:=i) hc
    exact ⟨⟨by omega,by omega⟩,fun b hb=>digD_all h0 h1 hc hk l (i + 1) _ (by omega)⟩
theorem cntD_all {β:Type} {base:Int} {n:Nat} {k:Nat→Dec β} {P:β→Prop} (h0:0≤base) (h1:base + 48≤(n:Int)) (hk:∀ c,c≤20→(k c).All n P):∀ (f c:Nat),c + f = 20→(cntD base k f c).All n P
  | 0,c,hc=>hk c (by omega)
  | f + 1,c,hc=>by
    refine ⟨⟨by omega,by omega⟩,fun b hb=> ?_⟩
    show Dec.All n P (if b = 0 then _ else _)
    split
    · exact hk c (by omega)
    · exact cntD_all h0 h1 hk f (c + 1) (by omega)
def NumOk (v:Bool×Int):Prop:=(v.1 = true→v.2 = 0)∧ -1048576≤v.2∧v.2≤1048576
theorem finD_all {base:Int} {n:Nat} (h0:0≤base) (h1:base + 48≤(n:Int)) {v:Int} (hv:1≤v):(finD base v).All n NumOk:=by
  unfold finD
  split
  · rfl
  · split
    · exact ⟨fun h=>absurd h (by simp),by simp only; omega,by simp only; omega⟩
    · refine ⟨⟨by omega,by omega⟩,fun b hb=> ?_⟩
      rcases hb with rfl | rfl
      · exact ⟨fun h=>absurd h (by simp),by simp only; omega,by simp only; omega⟩
      · exact ⟨fun h=>absurd h (by simp),by simp only; omega,by simp only; omega⟩
theorem numD_all {base:Int} {n:Nat} (h0:0≤base) (h1:base + 48≤(n:Int)):(numD base).All n NumOk:=by
  rw [numD_eq]
  refine ⟨⟨h0,by omega⟩,fun b hb=> ?_⟩
  show Dec.All n NumOk (if b = 1 then _ else _)
  split
  · exact ⟨fun _=>rfl,by simp only; omega,by simp only; omega⟩
  · exact cntD_all h0 h1 (fun c hc=>digD_all h0 h1 hc (fun v hv=>finD_all h0 h1 hv) c 0 1 (by omega)) 20 0 rfl
theorem idD_all {β:Type} {base:Int} {n:Nat} {k:Int→Dec β} {P:β→Prop} (h0:0≤base) {K:Nat} (h1:base + 2 ^ K - 1≤(n:Int)) (hk:∀ p:Int,2 ^ K≤p→p < 2 ^ K + 2 ^ K→(k p).All n P):∀ (l j:Nat) (p:Int),j + l = K→2 ^ j≤p→p < 2 ^ j + 2 ^ j→(idD base k l p).All n P
  | 0,j,p,hj,h2,h3=>by
    have:j = K:=by omega
    subst this
    exact hk p h2 h3
  | l + 1,j,p,hj,h2,h3=>by
    have e:(2:Int) ^ (j + 1) = 2 ^ j + 2 ^ j:=by rw [Int.pow_succ]; omega
    have hle:(2:Int) ^ (j + 1)≤2 ^ K:=by
      have:=Nat.pow_le_pow_right (n:=2) (by omega) (show j + 1≤K by omega)
      exact_mod_cast this
    have hp:(0:Int) < 2 ^ j:=Int.pow_pos (by omega)
    refine ⟨⟨by omega,by omega⟩,fun b hb=> ?_⟩
    exact idD_all h0 h1 hk l (j + 1) (2 * p + b) (by omega) (by omega) (by omega)
def nRes (kx:Int) (code:List Int) (K:Bool×Int×Int×Int×Int×Int×Int×Int×Int×Bool×Bool×List Int×List Int→Option Ans):(Int ⊕ (Bool×Int))×S→Option Ans
  | (.inr v,s')=>K (v.1,v.2,0,kx,s'.x.lo,s'.x.hi,((4 + s'.k:Nat):Int),win (strm code) s'.k,byd code s'.k,!s'.ok,true,s'.x.st,code)
  | (.inl e,s')=>K (false,0,e,kx,s'.x.lo,s'.x.hi,((4 + s'.k:Nat):Int),win (strm code) s'.k,byd code s'.k,!s'.ok,true,s'.x.st,code)
structure Cd (code:List Int) (n:Nat):Prop where
  b:Bytes code
  l:code.length≤10000000
  n:n≤8192
section
variable {fl:Nat} (hfl:9223372036854775808≤fl) {kx:Int} {code:List Int} {n:Nat} (hc:Cd code n)
include hfl hc
theorem cnt_loop {β:Type} {base:Int} (h0:0≤base) (h1:base + 48≤(n:Int)) {k:Nat→Dec β} {Fin:(Int ⊕ β)×S→Option Ans} {ret b}
    (hb:∀ (c:Nat) (s:S),c≤20→St kx code n s→b (base,(c:Int),kx,s.x.lo,s.x.hi,((4 + s.k:Nat):Int),win (strm code) s.k,byd code s.k,false,true,s.x.st,code,false,0) = Fin ((k c).run kx code s))
    (hret:∀ s:S,ret (6,kx,s.x.lo,s.x.hi,((4 + s.k:Nat):Int),win (strm code) s.k,byd code s.k,true,true,s.x.st,code,false,0) = Fin (.inl 6,⟨false,s.x,s.k⟩)):
    ∀ (f c:Nat) (s:S) (m:Nat),c + f = 20→St kx code n s→f < m→iter (S_number_get_aa3_0 fl) m (base,(c:Int),kx,s.x.lo,s.x.hi,((4 + s.k:Nat):Int),win (strm code) s.k,byd code s.k,false,true,s.x.st,code,false,0) (ret,b) = Fin ((cntD base k f c).run kx code s)
  | 0,c,s,m,hcf,hs,hm=>by
    obtain ⟨m,rfl⟩:∃ j,m = j + 1:=⟨m - 1,by omega⟩
    simp only [iter,S_number_get_aa3_0,Sg_number_get_aa3_0]
    rw [dec_f (by omega),hb c s (by omega) hs]
    rfl
  | f + 1,c,s,m,hcf,hs,hm=>by
    obtain ⟨m,rfl⟩:∃ j,m = j + 1:=⟨m - 1,by omega⟩
    have hn:=hc.n
    have hk:=hs.k
    have hl:=hc.l
    simp only [iter,S_number_get_aa3_0,Sg_number_get_aa3_0]
    rw [dec_t (by omega),w6 (x:=base + 1),w6 (x:=base + 1 + (c:Int)),Co.get_okB hfl hs.x (by omega) (by rw [hs.sl]; omega) hc.b hl (by omega)]
    simp only [cntD,Dec.run]
    cases e:Co.get kx code s.x s.k (base + 1 + (c:Int)) with
    | none=> 
      dsimp only
      rw [cond_t (b:=(6:Int) != 0) rfl]
      exact hret s
    | some v=>
      obtain ⟨b',x',k'⟩:=v
      obtain ⟨g1,g2,g3,g4⟩:=get_some hs.x (by omega) (by rw [hs.sl]; omega) e
      have hs':St kx code n ⟨true,x',k'⟩:=⟨rfl,g2,by rw [g3]; exact hs.sl,g4⟩
      dsimp only
      rw [cond_f (b:=(0:Int) != 0) rfl]
      rcases g1 with rfl | rfl
      · rw [cond_t (b:=(0:Int)==0) rfl,if_pos rfl]
        exact hb c ⟨true,x',k'⟩ (by omega) hs'
      · rw [cond_f (b:=(1:Int)==0) rfl,if_neg (by decide),w6 (x:=(c:Int) + 1)]
        exact cnt_loop h0 h1 hb hret f (c + 1) ⟨true,x',k'⟩ m (by omega) hs' (by omega)
theorem digG_loop {β:Type} {base:Int} (h0:0≤base) (h1:base + 48≤(n:Int)) {c:Nat} (hc20:c≤20) {k:Int→Dec β} {Fin:(Int ⊕ β)×S→Option Ans} {ret b}
    (hb:∀ (v:Int) (s:S),1≤v→v < 2 ^ 21→St kx code n s→b (base,v,kx,s.x.lo,s.x.hi,((4 + s.k:Nat):Int),win (strm code) s.k,byd code s.k,false,true,s.x.st,code,false,0) = Fin ((k v).run kx code s))
    (hret:∀ s:S,ret (6,kx,s.x.lo,s.x.hi,((4 + s.k:Nat):Int),win (strm code) s.k,byd code s.k,true,true,s.x.st,code,false,0) = Fin (.inl 6,⟨false,s.x,s.k⟩)):
    ∀ (l i:Nat) (v:Int) (s:S) (m:Nat),i + l = c→1≤v→v < 2 ^ (i + 1)→St kx code n s→l < m→iter (S_number_get_aa3_2 fl) m (base,(c:Int),v,(c:Int),(i:Int),kx,s.x.lo,s.x.hi,((4 + s.k:Nat):Int),win (strm code) s.k,byd code s.k,false,true,s.x.st,code,false,0,tailN i) (ret,b) = Fin ((digD base c k l i v).run kx code s)
  | 0,i,v,s,m,hil,hv0,hv1,hs,hm=>by
    obtain ⟨m,rfl⟩:∃ j,m = j + 1:=⟨m - 1,by omega⟩
    have hle:(2:Int) ^ (i + 1)≤2 ^ 21:=by
      have:=Nat.pow_le_pow_right (n:=2) (by omega) (show i + 1≤21 by omega)
      exact_mod_cast this
    simp only [iter,S_number_get_aa3_2,Sg_number_get_aa3_2]
    rw [dec_f (by omega),hb v s hv0 (by omega) hs]
    rfl
  | l + 1,i,v,s,m,hil,hv0,hv1,hs,hm=>by
    obtain ⟨m,rfl⟩:∃ j,m = j + 1:=⟨m - 1,by omega⟩
    have hn:=hc.n
    have hk:=hs.k
    have hl:=hc.l
    have hd:=digC_rg (c:=c) (j:=i) hc20
    have hle:(2:Int) ^ (i + 1)≤2 ^ 20:=by
      have:=Nat.pow_le_pow_right (n:=2) (by omega) (show i + 1≤20 by omega)
      exact_mod_cast this
    have hpw:(2:Int) ^ (i + 1 + 1) = 2 ^ (i + 1) * 2:=Int.pow_succ _ _
    have main:∀ (t:Int),t = tailN (i + 1)→(F_coder_Decoder_Get_aa3 fl (base + digC c i) kx s.x.lo s.x.hi ((4 + s.k:Nat):Int) (win (strm code) s.k) (byd code s.k) false true s.x.st code fun y=>
        bif y.2.1 != 0 then ret (y.2.1,y.2.2.1,y.2.2.2.1,y.2.2.2.2.1,y.2.2.2.2.2.1,y.2.2.2.2.2.2.1,y.2.2.2.2.2.2.2.1,y.2.2.2.2.2.2.2.2.1,y.2.2.2.2.2.2.2.2.2.1,y.2.2.2.2.2.2.2.2.2.2.1,y.2.2.2.2.2.2.2.2.2.2.2,false,0)
        else iter (S_number_get_aa3_2 fl) m (base,(c:Int),IntKind.i64.wrap (IntKind.i64.wrap (2 * v) + y.1),(c:Int),((i + 1:Nat):Int),y.2.2.1,y.2.2.2.1,y.2.2.2.2.1,y.2.2.2.2.2.1,y.2.2.2.2.2.2.1,y.2.2.2.2.2.2.2.1,y.2.2.2.2.2.2.2.2.1,y.2.2.2.2.2.2.2.2.2.1,y.2.2.2.2.2.2.2.2.2.2.1,y.2.2.2.2.2.2.2.2.2.2.2,false,0,t) (ret,b))
        = Fin ((digD base c k (l + 1) i v).run kx code s):=by
      intro t ht
      rw [Co.get_okB hfl hs.x (by omega) (by rw [hs.sl]; omega) hc.b hl (by omega)]
      simp only [digD,Dec.run]
      cases e:Co.get kx code s.x s.k (base + digC c i) with
      | none=>
        dsimp only
        rw [cond_t (b:=(6:Int) != 0) rfl]
        exact hret s
      | some v'=>
        obtain ⟨b',x',k'⟩:=v'
        obtain ⟨g1,g2,g3,g4⟩:=get_some hs.x (by omega) (by rw [hs.sl]; omega) e
        have hs':St kx code n ⟨true,x',k'⟩:=⟨rfl,g2,by rw [g3]; exact hs.sl,g4⟩
        dsimp only
        rw [cond_f (b:=(0:Int) != 0) rfl,w6 (x:=2 * v),w6 (x:=2 * v + b'),ht]
        exact digG_loop h0 h1 hc20 hb hret l (i + 1) (2 * v + b') ⟨true,x',k'⟩ m (by omega) (by omega) (by omega) hs' (by omega)
    simp only [iter,S_number_get_aa3_2,Sg_number_get_aa3_2]
    rw [dec_t (by omega)]
    by_cases hi0:i = 0
    · subst hi0
      have hd0:digC c 0 = 23 + (c:Int):=rfl
      rw [hd0] at main
      rw [dec_f (by omega),w6 (x:=23 + (c:Int)),w6 (x:=base + (23 + (c:Int))),w6 (x:=((0:Nat):Int) + 1)]
      exact main (tailN 0) rfl
    · have hd1:(tailN i:Int) = digC c i:=by unfold tailN digC; rw [if_neg hi0,if_neg hi0]; omega
      have hd2:44≤digC c i:=by unfold digC; rw [if_neg hi0]; omega
      unfold F_number_tail_take
      dsimp only
      rw [dec_t (by omega),hd1,w6 (x:=digC c i + 1),w6 (x:=base + digC c i),w6 (x:=(i:Int) + 1)]
      refine main _ ?_
      unfold digC tailN
      rw [if_neg hi0,if_neg (by omega)]
      by_cases h:(47:Int) < min (43 + (i:Int)) 47 + 1
      · rw [dec_t h]; omega
      · rw [dec_f h]; omega
theorem nget_ok {base:Int} (h0:0≤base) (h1:base + 48≤(n:Int)) {s:S} (hs:St kx code n s) {K:Bool×Int×Int×Int×Int×Int×Int×Int×Int×Bool×Bool×List Int×List Int→Option Ans}:
    F_number_get_aa3 fl base kx s.x.lo s.x.hi ((4 + s.k:Nat):Int) (win (strm code) s.k) (byd code s.k) false true s.x.st code K = nRes kx code K ((numD base).run kx code s):=by
  have hn:=hc.n
  have hk:=hs.k
  have hl:=hc.l
  rw [numD_eq]
  simp only [Dec.run]
  unfold F_number_get_aa3 Fg_number_get_aa3
  rw [Co.get_okB hfl hs.x h0 (by rw [hs.sl]; omega) hc.b hl (by omega)]
  cases e:Co.get kx code s.x s.k base with
  | none=>rfl
  | some v=>
    obtain ⟨b',x',k'⟩:=v
    obtain ⟨g1,g2,g3,g4⟩:=get_some hs.x h0 (by rw [hs.sl]; omega) e
    have hs':St kx code n ⟨true,x',k'⟩:=⟨rfl,g2,by rw [g3]; exact hs.sl,g4⟩
    dsimp only
    rw [cond_f (b:=(0:Int) != 0) rfl]
    rcases g1 with rfl | rfl
    rotate_left
    · rfl
    rw [cond_f (b:=(0:Int)==1) rfl,if_neg (by decide)]
    unfold L_number_get_aa3_0
    refine cnt_loop hfl hc h0 h1 (k:=fun c=>digD base c (finD base) c 0 1) (Fin:=nRes kx code K) (fun c s hc20 hs=> ?_) (fun s=> ?_) 20 0 ⟨true,x',k'⟩ fl rfl hs' (by omega)
    rotate_left
    · rfl
    unfold L_number_get_aa3_2
    refine digG_loop hfl hc h0 h1 hc20 (k:=finD base) (Fin:=nRes kx code K) (fun v s hv0 hv1 hs=> ?_) (fun s=> ?_) c 0 1 s fl (by omega) (by omega) (by decide) hs (by omega)
    rotate_left
    · rfl
    have hk:=hs.k
    have hv2:v < 2097152:=hv1
    dsimp only
    unfold finD
    by_cases hbig:v > 1048577
    · rw [dec_t hbig,if_pos hbig]
      simp only [Dec.run,nRes,hs.ok,Bool.not_true]
    rw [dec_f hbig,if_neg hbig,cb]
    by_cases hone:v = 1
    · rw [if_pos hone,if_pos hone]
      simp only [Dec.run,nRes,hs.ok,Bool.not_true]
    rw [if_neg hone,if_neg hone,w6 (x:=base + 22),Co.get_okB hfl hs.x (by omega) (by rw [hs.sl]; omega) hc.b hl (by omega)]
    simp only [Dec.run]
    cases e2:Co.get kx code s.x s.k (base + 22) with
    | none=>rfl
    | some w=>
      obtain ⟨b2,x2,k2⟩:=w
      obtain ⟨q1,q2,q3,q4⟩:=get_some hs.x (by omega) (by rw [hs.sl]; omega) e2
      dsimp only
      rw [cond_f (b:=(0:Int) != 0) rfl]
      rcases q1 with rfl | rfl
      · rw [w6 (x:=v - 1),w6 (x:=2 * 0),w6 (x:=1 - 2 * 0),wrap64 (by omega) (by omega)]
        rfl
      · rw [w6 (x:=v - 1),w6 (x:=2 * 1),w6 (x:=1 - 2 * 1),wrap64 (by omega) (by omega)]
        rfl
theorem Nget_ok {base:Int} (h0:0≤base) (h1:base + 48≤(n:Int)) {s:S} (hs:St kx code n s) {K:Bool×Int×Int×Int×Int×Int×Int×Int×Int×Bool×Bool×List Int×List Int→Option Ans}:
    F_number_Get_aa3 fl base kx s.x.lo s.x.hi ((4 + s.k:Nat):Int) (win (strm code) s.k) (byd code s.k) false true s.x.st code K = nRes kx code K ((numD base).run kx code s):=by
  have hn:=hc.n
  have hsl:=hs.sl
  unfold F_number_Get_aa3 Fg_number_Get_aa3
  rw [Co.get_bad]
  dsimp only
  rw [cond_f (b:=(2:Int)==7) rfl]
  unfold F_coder_Decoder_Model_40a Fg_coder_Decoder_Model_40a F_coder_Decoder_none_40a
  dsimp only
  rw [cond_f (b:=!true) rfl,clone_ok (by omega)]
  dsimp only
  unfold F_number_fits
  rw [dec_f (by omega),w6 (x:=(s.x.st.length:Int) - 48),dec_f (by omega)]
  dsimp only
  rw [cond_f (b:=(0:Int) != 0) rfl,nget_ok hfl hc h0 h1 hs]
end
open Go Ev Bm Co
section
variable {fl:Nat} (hfl:9223372036854775808≤fl) {kx:Int} {code:List Int} {n:Nat} (hc:Cd code n)
include hfl hc
theorem id_loop {β:Type} {base:Int} {Q:Nat} (hQ:Q≤10) (h0:0≤base) (h1:base + 2 ^ Q - 1≤(n:Int)) {k:Int→Dec β} {F:(Int ⊕ β)×S→Option Ans} {ret b}
    (hb:∀ (p:Int) (s:S),2 ^ Q≤p→p < 2 ^ Q + 2 ^ Q→St kx code n s→b ((Q:Int),p,kx,s.x.lo,s.x.hi,((4 + s.k:Nat):Int),win (strm code) s.k,byd code s.k,false,true,s.x.st,code) = F ((k p).run kx code s))
    (hret:∀ s:S,ret (0,6,kx,s.x.lo,s.x.hi,((4 + s.k:Nat):Int),win (strm code) s.k,byd code s.k,true,true,s.x.st,code) = F (.inl 6,⟨false,s.x,s.k⟩)):
    ∀ (l i:Nat) (p:Int) (s:S) (m:Nat),i + l = Q→2 ^ i≤p→p < 2 ^ i + 2 ^ i→St kx code n s→l < m→iter (S_number_GetId_452_0 fl) m (base,(Q:Int),p,(Q:Int),(i:Int),kx,s.x.lo,s.x.hi,((4 + s.k:Nat):Int),win (strm code) s.k,byd code s.k,false,true,s.x.st,code) (ret,b) = F ((idD base k l p).run kx code s)
  | 0,i,p,s,m,hil,hp0,hp1,hs,hm=>by
    obtain ⟨m,rfl⟩:∃ j,m = j + 1:=⟨m - 1,by omega⟩
    have:i = Q:=by omega
    subst this
    simp only [iter,S_number_GetId_452_0,Sg_number_GetId_452_0]
    rw [dec_f (by omega),hb p s hp0 hp1 hs]
    rfl
  | l + 1,i,p,s,m,hil,hp0,hp1,hs,hm=>by
    obtain ⟨m,rfl⟩:∃ j,m = j + 1:=⟨m - 1,by omega⟩
    have hn:=hc.n
    have hk:=hs.k
    have hl:=hc.l
    have e:(2:Int) ^ (i + 1) = 2 ^ i + 2 ^ i:=by rw [Int.pow_succ]; omega
    have hle:(2:Int) ^ (i + 1)≤2 ^ Q:=by
      have:=Nat.pow_le_pow_right (n:=2) (by omega) (show i + 1≤Q by omega)
      exact_mod_cast this
    have hpp:(0:Int) < 2 ^ i:=Int.pow_pos (by omega)
    simp only [iter,S_number_GetId_452_0,Sg_number_GetId_452_0]
    rw [dec_t (by omega),w6 (x:=base + p),w6 (x:=base + p - 1),Co.get_okB hfl hs.x (by omega) (by rw [hs.sl]; omega) hc.b hl (by omega)]
    simp only [idD,Dec.run]
    cases eg:Co.get kx code s.x s.k (base + p - 1) with
    | none=>
      dsimp only
      rw [cond_t (b:=(6:Int) != 0) rfl]
      exact hret s
    | some v=>
      obtain ⟨b',x',k'⟩:=v
      obtain ⟨g1,g2,g3,g4⟩:=get_some hs.x (by omega) (by rw [hs.sl]; omega) eg
      have hs':St kx code n ⟨true,x',k'⟩:=⟨rfl,g2,by rw [g3]; exact hs.sl,g4⟩
      dsimp only
      rw [cond_f (b:=(0:Int) != 0) rfl,w6 (x:=2 * p),w6 (x:=2 * p + b'),w6 (x:=(i:Int) + 1)]
      exact id_loop hQ h0 h1 hb hret l (i + 1) (2 * p + b') ⟨true,x',k'⟩ m (by omega) (by omega) (by omega) hs' (by omega)
theorem GetId_ok {base:Int} {Q:Nat} (hQ:Q≤10) (h0:0≤base) (h1:base + 2 ^ Q - 1≤(n:Int)) {s:S} (hs:St kx code n s) {K:Int×Int×Int×Int×Int×Int×Int×Int×Bool×Bool×List Int×List Int→Option Ans}:
    F_number_GetId_452 fl base (Q:Int) kx s.x.lo s.x.hi ((4 + s.k:Nat):Int) (win (strm code) s.k) (byd code s.k) false true s.x.st code K
    = Aft (fun id s'=>K (id,0,kx,s'.x.lo,s'.x.hi,((4 + s'.k:Nat):Int),win (strm code) s'.k,byd code s'.k,!s'.ok,true,s'.x.st,code)) (fun e s'=>K (0,e,kx,s'.x.lo,s'.x.hi,((4 + s'.k:Nat):Int),win (strm code) s'.k,byd code s'.k,!s'.ok,true,s'.x.st,code)) ((idD base (fun p=>.ret (p - ((2 ^ Q:Nat):Int))) Q 1).run kx code s):=by
  have hn:=hc.n
  have hsl:=hs.sl
  have hp:0 < 2 ^ Q:=Nat.pow_pos (by omega)
  have hp2:2 ^ Q≤2 ^ 10:=Nat.pow_le_pow_right (by omega) hQ
  have e2:(2:Int) ^ Q = ((2 ^ Q:Nat):Int):=by rw [Int.natCast_pow]; rfl
  have es:ishl .i64 1 (Q:Int) = ((2 ^ Q:Nat):Int):=by rw [ishl_one (by omega) (by omega),Int.toNat_natCast,e2]
  have h1':=h1
  rw [e2] at h1'
  unfold F_number_GetId_452 Fg_number_GetId_452
  rw [Co.get_bad]
  dsimp only
  rw [cond_f (b:=(2:Int)==7) rfl,dec_f (by omega),dec_f (by omega),dec_f (by omega)]
  unfold F_coder_Decoder_Model_40a Fg_coder_Decoder_Model_40a F_coder_Decoder_none_40a
  dsimp only
  rw [cond_f (b:=!true) rfl,clone_ok (by omega)]
  dsimp only
  unfold F_number_fits
  rw [es,w6 (x:=((2 ^ Q:Nat):Int) - 1),dec_f (by omega),w6 (x:=(s.x.st.length:Int) - _),dec_f (by omega)]
  dsimp only
  rw [cond_f (b:=(0:Int) != 0) rfl]
  unfold L_number_GetId_452_0
  refine id_loop hfl hc hQ h0 h1 (k:=fun p=>.ret (p - ((2 ^ Q:Nat):Int))) (F:=Aft (fun id s'=>K (id,0,kx,s'.x.lo,s'.x.hi,((4 + s'.k:Nat):Int),win (strm code) s'.k,byd code s'.k,!s'.ok,true,s'.x.st,code)) (fun e s'=>K (0,e,kx,s'.x.lo,s'.x.hi,((4 + s'.k:Nat):Int),win (strm code) s'.k,byd code s'.k,!s'.ok,true,s'.x.st,code))) (fun p s hp0 hp1 hs=> ?_) (fun s=> ?_) Q 0 1 s fl (by omega) (by decide) (by decide) hs (by omega)
  · dsimp only
    rw [e2] at hp0 hp1
    rw [dec_f (by omega),es,wrap64 (by omega) (by omega)]
    simp only [Dec.run,Aft,hs.ok,Bool.not_true]
  · rfl
end
open Go Ev Bm Co
section
variable {fl:Nat} (hfl:9223372036854775808≤fl) {kx:Int} {code:List Int} {n:Nat} (hc:Cd code n)
include hfl hc
theorem rcnt_loop {β:Type} {base:Int} (h0:0≤base) (h1:base + 48≤(n:Int)) {k:Nat→Dec β} {Fin:(Int ⊕ β)×S→Option Ans} {ret b}
    (hb:∀ (c:Nat) (s:S),c≤20→St kx code n s→b (base,(c:Int),kx,s.x.lo,s.x.hi,((4 + s.k:Nat):Int),win (strm code) s.k,byd code s.k,false,s.x.st,code,false,0) = Fin ((k c).run kx code s))
    (hret:∀ s:S,ret (6,kx,s.x.lo,s.x.hi,((4 + s.k:Nat):Int),win (strm code) s.k,byd code s.k,true,s.x.st,code,false,0) = Fin (.inl 6,⟨false,s.x,s.k⟩)):
    ∀ (f c:Nat) (s:S) (m:Nat),c + f = 20→St kx code n s→f < m→iter (S_ref03_Get_0a6_0 fl) m (base,(c:Int),kx,s.x.lo,s.x.hi,((4 + s.k:Nat):Int),win (strm code) s.k,byd code s.k,false,s.x.st,code,false,0) (ret,b) = Fin ((cntD base k f c).run kx code s)
  | 0,c,s,m,hcf,hs,hm=>by
    obtain ⟨m,rfl⟩:∃ j,m = j + 1:=⟨m - 1,by omega⟩
    simp only [iter,S_ref03_Get_0a6_0,Sg_ref03_Get_0a6_0]
    rw [dec_f (by omega),hb c s (by omega) hs]
    rfl
  | f + 1,c,s,m,hcf,hs,hm=>by
    obtain ⟨m,rfl⟩:∃ j,m = j + 1:=⟨m - 1,by omega⟩
    have hn:=hc.n
    have hk:=hs.k
    have hl:=hc.l
    simp only [iter,S_ref03_Get_0a6_0,Sg_ref03_Get_0a6_0]
    rw [dec_t (by omega),w6 (x:=base + 1),w6 (x:=base + 1 + (c:Int)),Co.rget_okB hfl hs.x (by omega) (by rw [hs.sl]; omega) hc.b hl (by omega)]
    simp only [cntD,Dec.run]
    cases e:Co.get kx code s.x s.k (base + 1 + (c:Int)) with
    | none=> 
      dsimp only
      rw [cond_t (b:=(6:Int) != 0) rfl]
      exact hret s
    | some v=>
      obtain ⟨b',x',k'⟩:=v
      obtain ⟨g1,g2,g3,g4⟩:=get_some hs.x (by omega) (by rw [hs.sl]; omega) e
      have hs':St kx code n ⟨true,x',k'⟩:=⟨rfl,g2,by rw [g3]; exact hs.sl,g4⟩
      dsimp only
      rw [cond_f (b:=(0:Int) != 0) rfl]
      rcases g1 with rfl | rfl
      · rw [cond_t (b:=(0:Int)==0) rfl,if_pos rfl]
        exact hb c ⟨true,x',k'⟩ (by omega) hs'
      · rw [cond_f (b:=(1:Int)==0) rfl,if_neg (by decide),w6 (x:=(c:Int) + 1)]
        exact rcnt_loop h0 h1 hb hret f (c + 1) ⟨true,x',k'⟩ m (by omega) hs' (by omega)
theorem rdig_loop {β:Type} {base:Int} (h0:0≤base) (h1:base + 48≤(n:Int)) {c:Nat} (hc20:c≤20) {k:Int→Dec β} {Fin:(Int ⊕ β)×S→Option Ans} {ret b}
    (hb:∀ (v:Int) (s:S),1≤v→v < 2 ^ 21→St kx code n s→b (base,v,kx,s.x.lo,s.x.hi,((4 + s.k:Nat):Int),win (strm code) s.k,byd code s.k,false,s.x.st,code,false,0) = Fin ((k v).run kx code s))
    (hret:∀ s:S,ret (6,kx,s.x.lo,s.x.hi,((4 + s.k:Nat):Int),win (strm code) s.k,byd code s.k,true,s.x.st,code,false,0) = Fin (.inl 6,⟨false,s.x,s.k⟩)):
    ∀ (l i:Nat) (v:Int) (s:S) (m:Nat),i + l = c→1≤v→v < 2 ^ (i + 1)→St kx code n s→l < m→iter (S_ref03_Get_0a6_2 fl) m (base,(c:Int),v,(i:Int),kx,s.x.lo,s.x.hi,((4 + s.k:Nat):Int),win (strm code) s.k,byd code s.k,false,s.x.st,code,false,0) (ret,b) = Fin ((digD base c k l i v).run kx code s)
  | 0,i,v,s,m,hil,hv0,hv1,hs,hm=>by
    obtain ⟨m,rfl⟩:∃ j,m = j + 1:=⟨m - 1,by omega⟩
    have hle:(2:Int) ^ (i + 1)≤2 ^ 21:=by
      have:=Nat.pow_le_pow_right (n:=2) (by omega) (show i + 1≤21 by omega)
      exact_mod_cast this
    simp only [iter,S_ref03_Get_0a6_2,Sg_ref03_Get_0a6_2]
    rw [dec_f (by omega),hb v s hv0 (by omega) hs]
    rfl
  | l + 1,i,v,s,m,hil,hv0,hv1,hs,hm=>by
    obtain ⟨m,rfl⟩:∃ j,m = j + 1:=⟨m - 1,by omega⟩
    have hn:=hc.n
    have hk:=hs.k
    have hl:=hc.l
    have hd:=digC_rg (c:=c) (j:=i) hc20
    have hle:(2:Int) ^ (i + 1)≤2 ^ 20:=by
      have:=Nat.pow_le_pow_right (n:=2) (by omega) (show i + 1≤20 by omega)
      exact_mod_cast this
    have hpw:(2:Int) ^ (i + 1 + 1) = 2 ^ (i + 1) * 2:=Int.pow_succ _ _
    have main:(F_ref02_Decoder_Get_0a6 fl (base + digC c i) kx s.x.lo s.x.hi ((4 + s.k:Nat):Int) (win (strm code) s.k) (byd code s.k) false s.x.st code fun y=>
        bif y.2.1 != 0 then ret (y.2.1,y.2.2.1,y.2.2.2.1,y.2.2.2.2.1,y.2.2.2.2.2.1,y.2.2.2.2.2.2.1,y.2.2.2.2.2.2.2.1,y.2.2.2.2.2.2.2.2.1,y.2.2.2.2.2.2.2.2.2.1,y.2.2.2.2.2.2.2.2.2.2,false,0)
        else iter (S_ref03_Get_0a6_2 fl) m (base,(c:Int),IntKind.i64.wrap (IntKind.i64.wrap (2 * v) + y.1),((i + 1:Nat):Int),y.2.2.1,y.2.2.2.1,y.2.2.2.2.1,y.2.2.2.2.2.1,y.2.2.2.2.2.2.1,y.2.2.2.2.2.2.2.1,y.2.2.2.2.2.2.2.2.1,y.2.2.2.2.2.2.2.2.2.1,y.2.2.2.2.2.2.2.2.2.2,false,0) (ret,b))
        = Fin ((digD base c k (l + 1) i v).run kx code s):=by
      rw [Co.rget_okB hfl hs.x (by omega) (by rw [hs.sl]; omega) hc.b hl (by omega)]
      simp only [digD,Dec.run]
      cases e:Co.get kx code s.x s.k (base + digC c i) with
      | none=>
        dsimp only
        rw [cond_t (b:=(6:Int) != 0) rfl]
        exact hret s
      | some v'=>
        obtain ⟨b',x',k'⟩:=v'
        obtain ⟨g1,g2,g3,g4⟩:=get_some hs.x (by omega) (by rw [hs.sl]; omega) e
        have hs':St kx code n ⟨true,x',k'⟩:=⟨rfl,g2,by rw [g3]; exact hs.sl,g4⟩
        dsimp only
        rw [cond_f (b:=(0:Int) != 0) rfl,w6 (x:=2 * v),w6 (x:=2 * v + b')]
        exact rdig_loop h0 h1 hc20 hb hret l (i + 1) (2 * v + b') ⟨true,x',k'⟩ m (by omega) (by omega) (by omega) hs' (by omega)
    simp only [iter,S_ref03_Get_0a6_2,Sg_ref03_Get_0a6_2]
    rw [dec_t (by omega),w6 (x:=(i:Int) + 1)]
    by_cases hi0:i = 0
    · subst hi0
      have hd0:digC c 0 = 23 + (c:Int):=rfl
      rw [hd0] at main
      rw [cond_t (by rfl),w6 (x:=23 + (c:Int)),w6 (x:=base + (23 + (c:Int)))]
      exact main
    · have ed:(bif decide ((47:Int) < 43 + (i:Int)) then 47 else 43 + (i:Int)) = digC c i:=by
        unfold digC
        rw [if_neg hi0,cd]
        split <;> omega
      rw [cond_f (by simp; omega),w6 (x:=43 + (i:Int)),ed,w6 (x:=base + digC c i)]
      exact main
def rNRes (kx:Int) (code:List Int) (K:Bool×Int×Int×Int×Int×Int×Int×Int×Int×Bool×List Int×List Int→Option Ans):(Int ⊕ (Bool×Int))×S→Option Ans
  | (.inr v,s')=>K (v.1,v.2,0,kx,s'.x.lo,s'.x.hi,((4 + s'.k:Nat):Int),win (strm code) s'.k,byd code s'.k,!s'.ok,s'.x.st,code)
  | (.inl e,s')=>K (false,0,e,kx,s'.x.lo,s'.x.hi,((4 + s'.k:Nat):Int),win (strm code) s'.k,byd code s'.k,!s'.ok,s'.x.st,code)
theorem rNget_ok {base:Int} (h0:0≤base) (h1:base + 48≤(n:Int)) {s:S} (hs:St kx code n s) {K:Bool×Int×Int×Int×Int×Int×Int×Int×Int×Bool×List Int×List Int→Option Ans}:
    F_ref03_Get_0a6 fl base kx s.x.lo s.x.hi ((4 + s.k:Nat):Int) (win (strm code) s.k) (byd code s.k) false s.x.st code K = rNRes kx code K ((numD base).run kx code s):=by
  have hn:=hc.n
  have hk:=hs.k
  have hl:=hc.l
  rw [numD_eq]
  simp only [Dec.run]
  unfold F_ref03_Get_0a6 Fg_ref03_Get_0a6
  unfold F_ref02_Decoder_Model_a7e Fg_ref02_Decoder_Model_a7e F_ref02_Copy
  rw [dec_t (by rw [hs.sl]; omega),List.nil_append]
  dsimp only
  unfold F_ref03_room
  rw [dec_t (by omega),dec_t (by rw [hs.sl]; omega),wrap64 (x:=(s.x.st.length:Int) - base) (by rw [hs.sl]; omega) (by rw [hs.sl]; omega),decide_eq_true (show (48:Int)≤(s.x.st.length:Int) - base by rw [hs.sl]; omega)]
  dsimp only
  rw [cond_f (b:=!true) rfl]
  rw [Co.rget_okB hfl hs.x h0 (by rw [hs.sl]; omega) hc.b hl (by omega)]
  cases e:Co.get kx code s.x s.k base with
  | none=>rfl
  | some v=>
    obtain ⟨b',x',k'⟩:=v
    obtain ⟨g1,g2,g3,g4⟩:=get_some hs.x h0 (by rw [hs.sl]; omega) e
    have hs':St kx code n ⟨true,x',k'⟩:=⟨rfl,g2,by rw [g3]; exact hs.sl,g4⟩
    dsimp only
    rw [cond_f (b:=(0:Int) != 0) rfl]
    rcases g1 with rfl | rfl
    rotate_left
    · rfl
    rw [cond_f (b:=(0:Int)==1) rfl,if_neg (by decide)]
    unfold L_ref03_Get_0a6_0
    refine rcnt_loop hfl hc h0 h1 (k:=fun c=>digD base c (finD base) c 0 1) (Fin:=rNRes kx code K) (fun c s hc20 hs=> ?_) (fun s=> ?_) 20 0 ⟨true,x',k'⟩ fl rfl hs' (by omega)
    rotate_left
    · rfl
    unfold L_ref03_Get_0a6_2
    refine rdig_loop hfl hc h0 h1 hc20 (k:=finD base) (Fin:=rNRes kx code K) (fun v s hv0 hv1 hs=> ?_) (fun s=> ?_) c 0 1 s fl (by omega) (by omega) (by decide) hs (by omega)
    rotate_left
    · rfl
    have hk:=hs.k
    have hv2:v < 2097152:=hv1
    dsimp only
    unfold finD
    by_cases hbig:v > 1048577
    · rw [dec_t hbig,if_pos hbig]
      simp only [Dec.run,rNRes,hs.ok,Bool.not_true]
    rw [dec_f hbig,if_neg hbig,cb]
    by_cases hone:v = 1
    · rw [if_pos hone,if_pos hone]
      simp only [Dec.run,rNRes,hs.ok,Bool.not_true]
    rw [if_neg hone,if_neg hone,w6 (x:=base + 22),Co.rget_okB hfl hs.x (by omega) (by rw [hs.sl]; omega) hc.b hl (by omega)]
    simp only [Dec.run]
    cases e2:Co.get kx code s.x s.k (base + 22) with
    | none=>rfl
    | some w=>
      obtain ⟨b2,x2,k2⟩:=w
      obtain ⟨q1,q2,q3,q4⟩:=get_some hs.x (by omega) (by rw [hs.sl]; omega) e2
      dsimp only
      rw [cond_f (b:=(0:Int) != 0) rfl]
      rcases q1 with rfl | rfl
      · rw [w6 (x:=v - 1),w6 (x:=2 * 0),w6 (x:=1 - 2 * 0),wrap64 (by omega) (by omega)]
        rfl
      · rw [w6 (x:=v - 1),w6 (x:=2 * 1),w6 (x:=1 - 2 * 1),wrap64 (by omega) (by omega)]
        rfl
theorem rid_loop {β:Type} {base:Int} {Q:Nat} (hQ:Q≤10) (h0:0≤base) (h1:base + 2 ^ Q - 1≤(n:Int)) {k:Int→Dec β} {F:(Int ⊕ β)×S→Option Ans} {ret b}
    (hb:∀ (p:Int) (s:S),2 ^ Q≤p→p < 2 ^ Q + 2 ^ Q→St kx code n s→b ((Q:Int),p,kx,s.x.lo,s.x.hi,((4 + s.k:Nat):Int),win (strm code) s.k,byd code s.k,false,s.x.st,code) = F ((k p).run kx code s))
    (hret:∀ s:S,ret (0,6,kx,s.x.lo,s.x.hi,((4 + s.k:Nat):Int),win (strm code) s.k,byd code s.k,true,s.x.st,code) = F (.inl 6,⟨false,s.x,s.k⟩)):
    ∀ (l i:Nat) (p:Int) (s:S) (m:Nat),i + l = Q→2 ^ i≤p→p < 2 ^ i + 2 ^ i→St kx code n s→l < m→iter (S_ref03_GetId_67d_0 fl) m (base,(Q:Int),p,(i:Int),kx,s.x.lo,s.x.hi,((4 + s.k:Nat):Int),win (strm code) s.k,byd code s.k,false,s.x.st,code) (ret,b) = F ((idD base k l p).run kx code s)
  | 0,i,p,s,m,hil,hp0,hp1,hs,hm=>by
    obtain ⟨m,rfl⟩:∃ j,m = j + 1:=⟨m - 1,by omega⟩
    have:i = Q:=by omega
    subst this
    simp only [iter,S_ref03_GetId_67d_0,Sg_ref03_GetId_67d_0]
    rw [dec_f (by omega),hb p s hp0 hp1 hs]
    rfl
  | l + 1,i,p,s,m,hil,hp0,hp1,hs,hm=>by
    obtain ⟨m,rfl⟩:∃ j,m = j + 1:=⟨m - 1,by omega⟩
    have hn:=hc.n
    have hk:=hs.k
    have hl:=hc.l
    have e:(2:Int) ^ (i + 1) = 2 ^ i + 2 ^ i:=by rw [Int.pow_succ]; omega
    have hle:(2:Int) ^ (i + 1)≤2 ^ Q:=by
      have:=Nat.pow_le_pow_right (n:=2) (by omega) (show i + 1≤Q by omega)
      exact_mod_cast this
    have hpp:(0:Int) < 2 ^ i:=Int.pow_pos (by omega)
    simp only [iter,S_ref03_GetId_67d_0,Sg_ref03_GetId_67d_0]
    rw [dec_t (by omega),w6 (x:=base + p),w6 (x:=base + p - 1),Co.rget_okB hfl hs.x (by omega) (by rw [hs.sl]; omega) hc.b hl (by omega)]
    simp only [idD,Dec.run]
    cases eg:Co.get kx code s.x s.k (base + p - 1) with
    | none=>
      dsimp only
      rw [cond_t (b:=(6:Int) != 0) rfl]
      exact hret s
    | some v=>
      obtain ⟨b',x',k'⟩:=v
      obtain ⟨g1,g2,g3,g4⟩:=get_some hs.x (by omega) (by rw [hs.sl]; omega) eg
      have hs':St kx code n ⟨true,x',k'⟩:=⟨rfl,g2,by rw [g3]; exact hs.sl,g4⟩
      dsimp only
      rw [cond_f (b:=(0:Int) != 0) rfl,w6 (x:=2 * p),w6 (x:=2 * p + b'),w6 (x:=(i:Int) + 1)]
      exact rid_loop hQ h0 h1 hb hret l (i + 1) (2 * p + b') ⟨true,x',k'⟩ m (by omega) (by omega) (by omega) hs' (by omega)
theorem rGetId_ok {base:Int} {Q:Nat} (hQ:Q≤10) (h0:0≤base) (h1:base + 2 ^ Q - 1≤(n:Int)) {s:S} (hs:St kx code n s) {K:Int×Int×Int×Int×Int×Int×Int×Int×Bool×List Int×List Int→Option Ans}:
    F_ref03_GetId_67d fl base (Q:Int) kx s.x.lo s.x.hi ((4 + s.k:Nat):Int) (win (strm code) s.k) (byd code s.k) false s.x.st code K
    = Aft (fun id s'=>K (id,0,kx,s'.x.lo,s'.x.hi,((4 + s'.k:Nat):Int),win (strm code) s'.k,byd code s'.k,!s'.ok,s'.x.st,code)) (fun e s'=>K (0,e,kx,s'.x.lo,s'.x.hi,((4 + s'.k:Nat):Int),win (strm code) s'.k,byd code s'.k,!s'.ok,s'.x.st,code)) ((idD base (fun p=>.ret (p - ((2 ^ Q:Nat):Int))) Q 1).run kx code s):=by
  have hn:=hc.n
  have hsl:=hs.sl
  have hp:0 < 2 ^ Q:=Nat.pow_pos (by omega)
  have hp2:2 ^ Q≤2 ^ 10:=Nat.pow_le_pow_right (by omega) hQ
  have e2:(2:Int) ^ Q = ((2 ^ Q:Nat):Int):=by rw [Int.natCast_pow]; rfl
  have es:ishl .i64 1 (Q:Int) = ((2 ^ Q:Nat):Int):=by rw [ishl_one (by omega) (by omega),Int.toNat_natCast,e2]
  have h1':=h1
  rw [e2] at h1'
  unfold F_ref03_GetId_67d Fg_ref03_GetId_67d F_ref03_isId
  rw [dec_t (by omega),dec_t (by omega),dec_t (by omega),dec_f (by omega),es,decide_eq_true (show (0:Int) < ((2 ^ Q:Nat):Int) by omega)]
  dsimp only
  rw [cond_f (b:=!true) rfl,dec_f (by omega)]
  unfold F_ref02_Decoder_Model_a7e Fg_ref02_Decoder_Model_a7e F_ref02_Copy
  rw [dec_t (by rw [hs.sl]; omega),List.nil_append]
  dsimp only
  unfold F_ref03_room
  rw [w6 (x:=((2 ^ Q:Nat):Int) - 1),dec_t (by omega),dec_t (by omega),w6 (x:=(s.x.st.length:Int) - base),decide_eq_true (show ((2 ^ Q:Nat):Int) - 1≤(s.x.st.length:Int) - base by omega)]
  dsimp only
  rw [cond_f (b:=!true) rfl]
  unfold L_ref03_GetId_67d_0
  refine rid_loop hfl hc hQ h0 h1 (k:=fun p=>.ret (p - ((2 ^ Q:Nat):Int))) (F:=Aft (fun id s'=>K (id,0,kx,s'.x.lo,s'.x.hi,((4 + s'.k:Nat):Int),win (strm code) s'.k,byd code s'.k,!s'.ok,s'.x.st,code)) (fun e s'=>K (0,e,kx,s'.x.lo,s'.x.hi,((4 + s'.k:Nat):Int),win (strm code) s'.k,byd code s'.k,!s'.ok,s'.x.st,code))) (fun p s hp0 hp1 hs=> ?_) (fun s=> ?_) Q 0 1 s fl (by omega) (by decide) (by decide) hs (by omega)
  · dsimp only
    rw [e2] at hp0 hp1
    rw [dec_f (by omega),es,wrap64 (by omega) (by omega)]
    simp only [Dec.run,Aft,hs.ok,Bool.not_true]
  · rfl
end
end Go.Proofs.YtipdidpalcmlhaaGreat.Dc
namespace Go.Proofs.YtipdidpalcmlhaaGreat.Rf
open Go Ev Bm Co Gen Dc
section
variable {fl:Nat} (hfl:9223372036854775808≤fl) {t dx dy base w h kd:Int} {rw rh:Int} {rp:List Int} {kx:Int} {code:List Int} {n:Nat} (hc:Cd code n)
include hfl hc
theorem rrow_get (hr:∀ p,Pix w h p→RR t dx dy kd w h p rw rh rp) (h0:0≤base) (h1:base + csz t + 1≤(n:Int)) {last:Int} {y:Nat} (hy:(y:Int) < h) {p:List Int} (hp:Pix w h p) {s:S} (hs:St kx code n s) {ret b} {R:Int→S→Option Ans}
    (hR:∀ s:S,ret (6,kx,s.x.lo,s.x.hi,((4 + s.k:Nat):Int),win (strm code) s.k,byd code s.k,true,s.x.st,code,0,0,[]) = R 6 ⟨false,s.x,s.k⟩):
    L_ref08_Get_9c5_2 fl (base,w,h,last,(y:Int),0,0,kx,s.x.lo,s.x.hi,((4 + s.k:Nat):Int),win (strm code) s.k,byd code s.k,false,s.x.st,code,t,dx,dy,false,kd,rw,rh,rp,0,0,w,h,[],p) ret b
    = Aft (fun p' s'=>b (base,w,h,last,(y:Int),kx,s'.x.lo,s'.x.hi,((4 + s'.k:Nat):Int),win (strm code) s'.k,byd code s'.k,false,s'.x.st,code,t,dx,dy,false,kd,rw,rh,rp,0,0,w,h,[],p')) R ((rowD t dx dy base w h rw rh rp y p).run kx code s):=by
  have hw0:=hp.w0; have hw1:=hp.w1; have hh1:=hp.h1
  have hn:=hc.n; have hl:=hc.l
  have hcs:=csz_eq t
  have hrp:=(hr p hp).r
  unfold L_ref08_Get_9c5_2 rowD
  refine iter_dec (step:=S_ref08_Get_9c5_2 fl) (N:=n) (fun _ p=>Pix w h p) (pxD t dx dy base w h rw rh rp y) (fun i p s=>(base,w,h,last,(y:Int),0,(i:Int),kx,s.x.lo,s.x.hi,((4 + s.k:Nat):Int),win (strm code) s.k,byd code s.k,false,s.x.st,code,t,dx,dy,false,kd,rw,rh,rp,0,0,w,h,[],p)) R (fun p' s'=>b (base,w,h,last,(y:Int),kx,s'.x.lo,s'.x.hi,((4 + s'.k:Nat):Int),win (strm code) s'.k,byd code s'.k,false,s'.x.st,code,t,dx,dy,false,kd,rw,rh,rp,0,0,w,h,[],p')) w.toNat (fun i a hi ha=>pxD_all hrp.bit h0 h1 ha y i) (fun i a s hi ha hs c=> ?_) (fun a s ha hs c=> ?_) rfl hp hs (m:=fl) (by omega)
  · obtain ⟨p1,p2,p3⟩:=place_nat (w:=w) (h:=h) (x:=i) (y:=y) (by omega) hy
    have hyw:0≤(y:Int) * w:=Int.mul_nonneg (by omega) hw0
    have hal:=ha.len
    have han:=ha.n
    have hcx:=rctx_rg (t:=t) (dx:=dx) (dy:=dy) (w:=w) (h:=h) (rw:=rw) (rh:=rh) ha.bit hrp.bit (i:Int) (y:Int)
    have hk:=hs.k
    simp only [S_ref08_Get_9c5_2,Sg_ref08_Get_9c5_2]
    rw [dec_t (by omega),alike_ok hfl (hr a ha) (by omega) (by omega)]
    try dsimp only
    rw [cond_t (b:=(0:Int)==0) rfl,rcontext_ok hfl (hr a ha) (by omega) (by omega)]
    try dsimp only
    rw [w6 (x:=base + _),Co.rget_okB hfl hs.x (by omega) (by rw [hs.sl]; omega) hc.b hl (by omega)]
    unfold pxD
    simp only [Dec.run]
    cases e:Co.get kx code s.x s.k (base + rctx t dx dy w h a rw rh rp (i:Int) (y:Int)) with
    | none=>
      try dsimp only
      rw [cond_t (b:=(6:Int) != 0) rfl]
      exact hR s
    | some v=>
      obtain ⟨b',x',k'⟩:=v
      obtain ⟨g1,g2,g3,g4⟩:=get_some hs.x (by omega) (by rw [hs.sl]; omega) e
      try dsimp only
      rw [cond_f (b:=(0:Int) != 0) rfl,w6 (x:=(y:Int) * w),w6 (x:=(y:Int) * w + (i:Int)), ← p1,dec_t (by omega),Int.toNat_natCast,wrap8 (x:=b') (by omega) (by omega),w6 (x:=(i:Int) + 1)]
      rfl
  · simp only [S_ref08_Get_9c5_2,Sg_ref08_Get_9c5_2]
    rw [dec_f (by omega)]
theorem rget3 (hr:∀ p,Pix w h p→RR t dx dy kd w h p rw rh rp) (hf:fit w h = true) (h0:0≤base) (h1:base + csz t + 1≤(n:Int)) {s:S} (hs:St kx code n s) {K}:
    F_ref08_Get_9c5 fl base t dx dy false kd w h rw rh rp kx s.x.lo s.x.hi ((4 + s.k:Nat):Int) (win (strm code) s.k) (byd code s.k) false s.x.st code K
    = Aft (fun p s'=>K (w,h,0,kx,s'.x.lo,s'.x.hi,((4 + s'.k:Nat):Int),win (strm code) s'.k,byd code s'.k,!s'.ok,s'.x.st,code,p)) (fun e s'=>K (0,0,e,kx,s'.x.lo,s'.x.hi,((4 + s'.k:Nat):Int),win (strm code) s'.k,byd code s'.k,!s'.ok,s'.x.st,code,[])) ((regD t dx dy base w h rw rh rp).run kx code s):=by
  obtain ⟨f1,f2,f3,f4,f5⟩:=fit_iff.1 hf
  have hm:=Int.mul_nonneg f1 f2
  have hz:=pix_zero hf
  have hrz:=hr _ hz
  have hrp:=hrz.r
  have hn:=hc.n; have hl:=hc.l
  have hcs:=csz_eq t
  have hsl:=hs.sl
  have hv:∀ {w h:Int} {p:List Int},Pix w h p→valid w h p = true:=fun {w h p} hp=>valid_iff.2 ⟨⟨hp.w0,hp.h0,hp.w1,hp.h1,hp.n⟩,hp.len,fun v hv=>(hp.bit v hv).2⟩
  unfold F_ref08_Get_9c5 Fg_ref08_Get_9c5
  rw [Tx.rsize_ok,hf]
  try dsimp only
  rw [cond_true,Tx.rbitmap_ok hfl,hv hrp]
  try dsimp only
  rw [rasked8 hfl hrz (by omega) h0 (by omega)]
  try dsimp only
  rw [cond_f (b:=(0:Int) != 0) rfl,rsize8 hfl hrz.t]
  try dsimp only
  rw [w6 (x:=w * h),dec_t (by refine ⟨by omega, ?_,by omega,by omega⟩; first | rfl | trivial)]
  generalize IntKind.i64.wrap (IntKind.i64.wrap (base + (csz t + 1)) - 1) = last
  unfold L_ref08_Get_9c5_0 regD
  have main:=iter_dec (step:=S_ref08_Get_9c5_0 fl) (b:=(fun r=>K (r.2.2.2.2.2.2.2.2.2.2.1,r.2.2.2.2.2.2.2.2.2.2.2.1,r.1,r.2.1,r.2.2.1,r.2.2.2.1,r.2.2.2.2.1,r.2.2.2.2.2.1,r.2.2.2.2.2.2.1,r.2.2.2.2.2.2.2.1,r.2.2.2.2.2.2.2.2.1,r.2.2.2.2.2.2.2.2.2.1,r.2.2.2.2.2.2.2.2.2.2.2.2),
      fun b=>K (b.2.2.2.2.2.2.2.2.2.2.2.1,b.2.2.2.2.2.2.2.2.2.2.2.2.1,0,b.1,b.2.1,b.2.2.1,b.2.2.2.1,b.2.2.2.2.1,b.2.2.2.2.2.1,b.2.2.2.2.2.2.1,b.2.2.2.2.2.2.2.1,b.2.2.2.2.2.2.2.2.1,b.2.2.2.2.2.2.2.2.2.2.2.2.2.2))) (N:=n) (fun _ p=>Pix w h p) (rowD t dx dy base w h rw rh rp) (fun i p s=>(base,w,h,last,(i:Int),kx,s.x.lo,s.x.hi,((4 + s.k:Nat):Int),win (strm code) s.k,byd code s.k,false,s.x.st,code,t,dx,dy,false,kd,rw,rh,rp,0,0,w,h,[],p)) (fun e s'=>K (0,0,e,kx,s'.x.lo,s'.x.hi,((4 + s'.k:Nat):Int),win (strm code) s'.k,byd code s'.k,!s'.ok,s'.x.st,code,[])) (fun p s=>K (w,h,0,kx,s.x.lo,s.x.hi,((4 + s.k:Nat):Int),win (strm code) s.k,byd code s.k,false,s.x.st,code,p)) h.toNat (fun i a hi ha=>rowD_all hrp.bit h0 h1 ha i) (fun i a s hi ha hs c=> ?_) (fun a s ha hs c=> ?_) (v:=(base,w,h,last,0,kx,s.x.lo,s.x.hi,((4 + s.k:Nat):Int),win (strm code) s.k,byd code s.k,false,s.x.st,code,t,dx,dy,false,kd,rw,rh,rp,0,0,w,h,[],List.replicate (w * h).toNat 0)) rfl hz hs (m:=fl) (by omega)
  · refine Eq.trans main ?_
    have he:=run_ends (loopD (rowD t dx dy base w h rw rh rp) h.toNat 0 (List.replicate (w * h).toNat 0)) (regD_all hrp.bit h0 h1 hf) hs
    cases hrn:(loopD (rowD t dx dy base w h rw rh rp) h.toNat 0 (List.replicate (w * h).toNat 0)).run kx code s with
    | mk r s'=>
      rw [hrn] at he
      cases r with
      | inl e=>rfl
      | inr a=>
        have:=he.2.ok
        simp only [Aft,this,Bool.not_true]
  · simp only [S_ref08_Get_9c5_0,Sg_ref08_Get_9c5_0]
    rw [dec_t (by omega),cond_false,rrow_get hfl hc hr h0 h1 (by omega) ha hs (R:=fun e s'=>K (0,0,e,kx,s'.x.lo,s'.x.hi,((4 + s'.k:Nat):Int),win (strm code) s'.k,byd code s'.k,!s'.ok,s'.x.st,code,[])) (fun s=>rfl)]
    cases hrn:(rowD t dx dy base w h rw rh rp i a).run kx code s with
    | mk r s'=>
      cases r with
      | inl e=>rfl
      | inr a'=>
        simp only [Aft]
        rw [w6 (x:=(i:Int) + 1)]
        rfl
  · simp only [S_ref08_Get_9c5_0,Sg_ref08_Get_9c5_0]
    rw [dec_f (by omega)]
end
end Go.Proofs.YtipdidpalcmlhaaGreat.Rf
namespace Go.Proofs.YtipdidpalcmlhaaGreat.Tx
open Go Ev Bm Co Gen Dc Rf
def wd (n:Nat):Nat:=bif Nat.ble n 1 then 0 else bif Nat.ble n 2 then 1 else bif Nat.ble n 4 then 2 else bif Nat.ble n 8 then 3 else bif Nat.ble n 16 then 4 else bif Nat.ble n 32 then 5 else 6
theorem width_at (fl:Nat) (K:Int→Option Ans):∀ n:Nat,n≤64→F_number_Width fl (n:Int) K = K ((wd n:Nat):Int)
  | 0,_ | 1,_ | 2,_ | 3,_ | 4,_ | 5,_ | 6,_ | 7,_ | 8,_ | 9,_ | 10,_ | 11,_ | 12,_ | 13,_ | 14,_ | 15,_ | 16,_ | 17,_ | 18,_ | 19,_ | 20,_ | 21,_ | 22,_ | 23,_ | 24,_ | 25,_ | 26,_ | 27,_ | 28,_ | 29,_ | 30,_ | 31,_ | 32,_ | 33,_ | 34,_ | 35,_ | 36,_ | 37,_ | 38,_ | 39,_ | 40,_ | 41,_ | 42,_ | 43,_ | 44,_ | 45,_ | 46,_ | 47,_ | 48,_ | 49,_ | 50,_ | 51,_ | 52,_ | 53,_ | 54,_ | 55,_ | 56,_ | 57,_ | 58,_ | 59,_ | 60,_ | 61,_ | 62,_ | 63,_ | 64,_=>by kernel_rfl
  | n + 65,h=>by omega
theorem wd_ok:∀ n:Fin 65,n.val≤2 ^ wd n.val∧wd n.val≤6∧(wd n.val = 0→n.val≤1):=by decide +kernel
def tk (symbols:List Bmp):Nat:=wd symbols.length
def lik (symbols:List Bmp):Int:=((384 + 2 ^ tk symbols:Nat):Int)
def tsz (o7:Int) (rf:Bool) (symbols:List Bmp):Int:=lik symbols + (if rf = true then csz o7 + 1 else 0)
theorem tk_ok {symbols:List Bmp} (h:symbols.length≤60):symbols.length≤2 ^ tk symbols∧tk symbols≤6∧1≤2 ^ tk symbols∧2 ^ tk symbols≤64:=by
  have a:=wd_ok ⟨symbols.length,by omega⟩
  have b:2 ^ tk symbols≤2 ^ 6:=Nat.pow_le_pow_right (by omega) a.2.1
  exact ⟨a.1,a.2.1,Nat.pow_pos (by omega),b⟩
theorem lay_ok {fl:Nat} {o0 o1 o3 o4 o5 o7:Int} {tu rf:Bool} {symbols:List Bmp} (h:symbols.length≤60) (h7:o7 = 0∨o7 = 1) {K:Int×Int×Bool×Int×Int×Int×Bool×Int×Int×Int×Int→Option Ans}:
    F_text_lay fl o0 o1 tu o3 o4 o5 rf o7 (symbols.length:Int) K = K (o0,o1,tu,o3,o4,o5,rf,o7,(tk symbols:Int),lik symbols,tsz o7 rf symbols):=by
  obtain ⟨a,b,c,d⟩:=tk_ok h
  have e2:(2:Int) ^ tk symbols = ((2 ^ tk symbols:Nat):Int):=by rw [Int.natCast_pow]; rfl
  have es:ishl .i64 1 (tk symbols:Int) = ((2 ^ tk symbols:Nat):Int):=by rw [ishl_one (by omega) (by omega),Int.toNat_natCast,e2]
  have hS:∀ K:Int×Int→Option Ans,F_refine_Size fl o7 K = K (csz o7 + 1,0):=fun K=>by
    rcases h7 with rfl | rfl <;> rfl
  have hl:IntKind.i64.wrap (IntKind.i64.wrap (385 + ((2 ^ tk symbols:Nat):Int)) - 1) = lik symbols:=by
    unfold lik
    rw [w6 (x:=385 + _),wrap64 (by omega) (by omega)]
    omega
  have hc:=csz_eq o7
  have hl2:lik symbols≤1000∧0≤lik symbols:=by unfold lik; omega
  have hw:∀ K:Int→Option Ans,F_number_Width fl (symbols.length:Int) K = K ((tk symbols:Nat):Int):=fun K=>width_at fl K _ (by omega)
  unfold F_text_lay Fg_text_lay tsz
  simp only [hw,hS,es,hl,both_same]
  rw [dec_f (by omega)]
  cases rf with
  | true=>rw [cond_true,wrap64 (by omega) (by omega),if_pos rfl]
  | false=>rw [cond_false,if_neg (by simp),Int.add_zero]
open Go Ev Bm Co Gen Dc Rf
def bmAt (symbols:List Bmp) (n:Int):Bmp:=symbols.getD n.toNat (0,0,[])
structure TE (o0 o1 o3 o4 o5 o7:Int) (symbols:List Bmp):Prop where
  ov:ov o0 o1 o3 o4 o5 o7 = true
  n:symbols.length≤60
  sh:∀ b ∈ symbols,shp b = true
  z:∀ b ∈ symbols,∀ v ∈ b.2.2,0≤v
structure ItOk (rf:Bool) (symbols:List Bmp) (i:Item):Prop where
  it:itm rf (symbols.length:Int) i = true
  sh:shpI i = true
  z:∀ v ∈ i.2.2.2.2.2.2.2.2,0≤v
theorem shp_pix {b:Bmp} (h:shp b = true) (hz:∀ v ∈ b.2.2,0≤v):Pix b.1 b.2.1 b.2.2∧1≤b.1∧b.1≤40∧1≤b.2.1∧b.2.1≤40:=by
  unfold shp at h
  simp only [Bool.and_eq_true,decide_eq_true_eq] at h
  exact ⟨pix_of h.1 hz,h.2.1,h.2.2.1,h.2.2.2.1,h.2.2.2.2⟩
section
variable {o0 o1 o3 o4 o5 o7:Int} {rf:Bool} {symbols:List Bmp} {i:Item}
theorem TE.bm (T:TE o0 o1 o3 o4 o5 o7 symbols) {n:Int} (h0:0≤n) (h1:n < (symbols.length:Int)):Pix (bmAt symbols n).1 (bmAt symbols n).2.1 (bmAt symbols n).2.2∧1≤(bmAt symbols n).1∧(bmAt symbols n).1≤40∧1≤(bmAt symbols n).2.1∧(bmAt symbols n).2.1≤40:=by
  have hm:bmAt symbols n ∈ symbols:=getD_mem (by omega) _
  exact shp_pix (T.sh _ hm) (T.z _ hm)
theorem lik_sz (o7:Int) (rf:Bool) (symbols:List Bmp) (h:symbols.length≤60):385≤lik symbols∧lik symbols≤448∧lik symbols≤tsz o7 rf symbols∧tsz o7 rf symbols≤961∧(rf = true→lik symbols + csz o7 + 1≤tsz o7 rf symbols):=by
  obtain ⟨_,_,c,d⟩:=tk_ok h
  have hc:=csz_eq o7
  unfold tsz lik
  split
  · exact ⟨by omega,by omega,by omega,by omega,fun _=>by omega⟩
  · rename_i hr
    exact ⟨by omega,by omega,by omega,by omega,fun h=>absurd h hr⟩
end
section
variable {fl:Nat} (hfl:9223372036854775808≤fl) {kd:Int} {x:Iv} (hx:x.Ok kd) (hn:x.st.length≤8192) {out:List Int}
include hfl hx hn
end
open Go Ev Bm Co Gen Dc Rf
section
variable (o0 o3 o7:Int) (rf:Bool) (symbols:List Bmp) (l:List Item)
end
section
variable {o0 o1 o3 o4 o5 o7:Int} {rf tu:Bool} {symbols:List Bmp} {l:List Item} (T:TE o0 o1 o3 o4 o5 o7 symbols) (hI:∀ i ∈ l,ItOk rf symbols i) (hl:l.length≤300)
include T hI
end
section
variable {fl:Nat} (hfl:9223372036854775808≤fl) {kd:Int} {x:Iv} (hx:x.Ok kd) (hn:x.st.length≤8192)
variable {o0 o1 o3 o4 o5 o7:Int} {rf tu:Bool} {symbols:List Bmp} {l:List Item} (T:TE o0 o1 o3 o4 o5 o7 symbols) (hI:∀ i ∈ l,ItOk rf symbols i) (hl:l.length≤300) (hN:(x.st.length:Int) = tsz o7 rf symbols)
include hfl hx hn T hI hl hN
end
end Go.Proofs.YtipdidpalcmlhaaGreat.Tx
namespace Go.Proofs.YtipdidpalcmlhaaGreat.Rf
open Go Ev Bm Co Gen Dc
section
variable {fl:Nat} (hfl:9223372036854775808≤fl) {t dx dy kd w h:Int} {p:List Int} {rw rh:Int} {rp:List Int} {ty:Bool}
include hfl
theorem flat_ok2 (hr:RR t dx dy kd w h p rw rh rp) {x y:Int} (hx: -1000≤x∧x≤1000) (hy: -1000≤y∧y≤1000) {K:Int×Bool×Int×Int×Int×Bool×Int×Int×Int×Int×Int×List Int×List Int→Option Ans}:
    F_refine_region_flat_391 fl x y t dx dy ty kd w h rw rh rp p K = K ((flatv dx dy rw rh rp x y).1,(flatv dx dy rw rh rp x y).2,t,dx,dy,ty,kd,w,h,rw,rh,rp,p):=by
  have h1:=hr.x
  have h2:=hr.y
  unfold F_refine_region_flat_391 Fg_refine_region_flat_391
  rw [grid_ok hr.r,w6 (x:=x - dx),w6 (x:=y - dy)]
  try dsimp only
  unfold L_refine_region_flat_391_0 flatv
  generalize hc:px rw rh rp (x - dx) (y - dy) = c
  have step:∀ i:Nat,i < 9→∀ (ret:Int×Bool×Int×Int×Int×Bool×Int×Int×Int×Int×Int×List Int×List Int→Option Ans) (b:Int×Int×Int×Int×Bool×Int×Int×Int×Int×Int×List Int×List Int→Option Ans) k,S_refine_region_flat_391_0 fl (x,y,c,(i:Int),t,dx,dy,ty,kd,w,h,rw,rh,rp,p) k (ret,b)
      = if px rw rh rp (x - dx + ((i % 3:Nat):Int) - 1) (y - dy + ((i / 3:Nat):Int) - 1) = c then k (x,y,c,((i + 1:Nat):Int),t,dx,dy,ty,kd,w,h,rw,rh,rp,p) else ret (0,false,t,dx,dy,ty,kd,w,h,rw,rh,rp,p):=by
    intro i hi ret b k
    have e1:((i:Int)).tmod 3 = ((i % 3:Nat):Int):=by rw [tmod_e (by omega)]; omega
    have e2:((i:Int)).tdiv 3 = ((i / 3:Nat):Int):=by rw [tdiv_e (by omega)]; omega
    simp only [S_refine_region_flat_391_0,Sg_refine_region_flat_391_0]
    rw [dec_t (by omega),e1,e2,w6 (x:=x - dx),w6 (x:=y - dy),w6 (x:=((i / 3:Nat):Int)),w6 (x:=x - dx + _),w6 (x:=x - dx + _ - 1),w6 (x:=y - dy + _),w6 (x:=y - dy + _ - 1),grid_ok hr.r]
    try dsimp only
    rw [cn]
    split
    · rw [wrap64 (by omega) (by omega)]
      rfl
    · rfl
  rcases nat_or_first (fun i=>px rw rh rp (x - dx + ((i % 3:Nat):Int) - 1) (y - dy + ((i / 3:Nat):Int) - 1) = c) 9 with ha | ⟨n,hn,hb,hi⟩
  · rw [if_pos (by rw [List.all_eq_true]; exact fun i hi=>decide_eq_true (ha i (List.mem_range.1 hi)))]
    refine iter_seq (step:=S_refine_region_flat_391_0 fl) (fun i:Nat=>(x,y,c,(i:Int),t,dx,dy,ty,kd,w,h,rw,rh,rp,p)) 9 rfl (fun i hi k=> ?_) (fun k=> ?_) (by omega)
    · rw [step i hi,if_pos (ha i hi)]
    · simp only [S_refine_region_flat_391_0,Sg_refine_region_flat_391_0]
      rw [dec_f (by omega)]
  · rw [if_neg (by
      rw [List.all_eq_true]
      exact fun h=>hb (of_decide_eq_true (h n (List.mem_range.2 hn))))]
    refine iter_seq (step:=S_refine_region_flat_391_0 fl) (fun i:Nat=>(x,y,c,(i:Int),t,dx,dy,ty,kd,w,h,rw,rh,rp,p)) n rfl (fun i hin k=> ?_) (fun k=> ?_) (by omega)
    · rw [step i (by omega),if_pos (hi i hin)]
    · rw [step n hn,if_neg hb]
theorem ctx_ok2 (hr:RR t dx dy kd w h p rw rh rp) {x y:Int} (hx: -1000≤x∧x≤1000) (hy: -1000≤y∧y≤1000) {K:Int×Int×Int×Int×Bool×Int×Int×Int×Int×Int×List Int×List Int→Option Ans}:
    F_refine_region_context_391 fl x y t dx dy ty kd w h rw rh rp p K = K (rctx t dx dy w h p rw rh rp x y,t,dx,dy,ty,kd,w,h,rw,rh,rp,p):=by
  have h1:=hr.x
  have h2:=hr.y
  have hf:∀ K:List (Int×Int)→Option Ans,F_refine_fresh fl t K = K (fr t):=fun K=>by
    unfold F_refine_fresh fr
    rw [cb]
    split <;> rfl
  have hl:=(fr_len t).1
  unfold F_refine_region_context_391 Fg_refine_region_context_391
  rw [hf]
  try dsimp only
  unfold L_refine_region_context_391_0
  refine iter_seq (step:=S_refine_region_context_391_0 fl) (fun i:Nat=>(x,y,fold w h p x y ((fr t).take i) 0,((fr t).length:Int),(i:Int),t,dx,dy,ty,kd,w,h,rw,rh,rp,p,fr t)) (fr t).length rfl (fun i hi c=> ?_) (fun c=> ?_) (by omega)
  · have e:=fr_near t _ (getD_mem hi (0,0))
    have a:=fold_rg hr.p.bit (w:=w) (h:=h) (x:=x) (y:=y) ((fr t).take i) (a:=0) (M:=1) (by omega) (by omega)
    have hle:(2:Int) ^ ((fr t).take i).length≤2 ^ 4:=by
      have:=Nat.pow_le_pow_right (n:=2) (by omega) (show ((fr t).take i).length≤4 by rw [List.length_take]; omega)
      exact_mod_cast this
    have b:=px_01 (w:=w) (h:=h) hr.p.bit (x + ((fr t).getD i (0,0)).1) (y + ((fr t).getD i (0,0)).2)
    simp (disch:=omega) only [S_refine_region_context_391_0,Sg_refine_region_context_391_0,dec_t,Int.toNat_natCast,wrap64,grid_ok hr.p]
    rw [fold_take hi]
    rfl
  · simp (disch:=omega) only [S_refine_region_context_391_0,Sg_refine_region_context_391_0,dec_f,List.take_length]
    unfold F_refine_beside L_refine_region_context_391_2
    have a:=fold_rg hr.p.bit (w:=w) (h:=h) (x:=x) (y:=y) (fr t) (a:=0) (M:=1) (by omega) (by omega)
    have hle:(2:Int) ^ (fr t).length≤2 ^ 4:=by
      have:=Nat.pow_le_pow_right (n:=2) (by omega) hl
      exact_mod_cast this
    unfold rctx
    generalize fold w h p x y (fr t) 0 = g at *
    refine iter_seq (step:=S_refine_region_context_391_2 fl) (fun i:Nat=>(x,y,fold rw rh rp (x - dx) (y - dy) (bs.take i) g,(bs.length:Int),(i:Int),t,dx,dy,ty,kd,w,h,rw,rh,rp,p,bs)) bs.length rfl (fun i hi c=> ?_) (fun c=> ?_) (by show 5 < fl; omega)
    · have e:=bs_near _ (getD_mem hi (0,0))
      have a':=fold_rg hr.r.bit (w:=rw) (h:=rh) (x:=x - dx) (y:=y - dy) (bs.take i) (a:=g) (M:=16) (by omega) (by omega)
      have hle2:(2:Int) ^ (bs.take i).length≤2 ^ 5:=by
        have:=Nat.pow_le_pow_right (n:=2) (by omega) (show (bs.take i).length≤5 by rw [List.length_take]; exact Nat.min_le_right _ _)
        exact_mod_cast this
      have b:=px_01 (w:=rw) (h:=rh) hr.r.bit (x - dx + (bs.getD i (0,0)).1) (y - dy + (bs.getD i (0,0)).2)
      have hb5:bs.length = 5:=rfl
      simp (disch:=omega) only [S_refine_region_context_391_2,Sg_refine_region_context_391_2,dec_t,Int.toNat_natCast,wrap64,grid_ok hr.r]
      rw [fold_take hi]
      rfl
    · simp (disch:=omega) only [S_refine_region_context_391_2,Sg_refine_region_context_391_2,dec_f,List.take_length]
end
def gRes (kx:Int) (code:List Int) (w h:Int) (K:Int×Int×List Int×Int×Int×Int×Int×Int×Int×Int×Bool×Bool×List Int×List Int→Option Ans):(Int ⊕ List Int)×S→Option Ans
  | (.inr p,s')=>K (w,h,p,0,kx,s'.x.lo,s'.x.hi,((4 + s'.k:Nat):Int),win (strm code) s'.k,byd code s'.k,!s'.ok,true,s'.x.st,code)
  | (.inl e,s')=>K (0,0,[],e,kx,s'.x.lo,s'.x.hi,((4 + s'.k:Nat):Int),win (strm code) s'.k,byd code s'.k,!s'.ok,true,s'.x.st,code)
theorem bnew0 {fl:Nat} (hfl:9223372036854775808≤fl) {w h:Int} (hf:fit w h = true) {K:Int×Int×Int×List Int→Option Ans}:F_bitmap_New fl w h 0 K = K (w,h,0,List.replicate (w * h).toNat 0):=by
  obtain ⟨f1,f2,f3,f4,f5⟩:=fit_iff.1 hf
  have hm:=Int.mul_nonneg f1 f2
  have replicate_set:∀ n i:Nat,(List.replicate n (0:Int)).set i 0 = List.replicate n 0:=fun n i=>by
    apply List.ext_getElem (by simp)
    intro j h1 h2
    simp [List.getElem_set]
  unfold F_bitmap_New Fg_bitmap_New F_bitmap_blank Fg_bitmap_blank
  rw [dec_f (by omega),dec_f (by omega),cond_f (b:=(0:Int) != 0) rfl,fits_ok,hf,cond_f (b:=!true) rfl,w6 (x:=w * h),dec_t (by refine ⟨by omega, ?_,by omega,by omega⟩; first | rfl | trivial)]
  dsimp only
  unfold L_bitmap_New_0
  refine iter_seq (step:=S_bitmap_New_0 fl) (fun i:Nat=>(0,0,((List.replicate (w * h).toNat (0:Int)).length:Int),(i:Int),0,0,w,h,[],List.replicate (w * h).toNat 0)) (w * h).toNat rfl (fun i hi c=> ?_) (fun c=> ?_) (by omega)
  · simp only [S_bitmap_New_0,Sg_bitmap_New_0,List.length_replicate]
    rw [dec_t (by omega),dec_t (by omega),wrap64 (by omega) (by omega),wrap8 (by omega) (by omega),replicate_set]
    rfl
  · simp only [S_bitmap_New_0,Sg_bitmap_New_0,List.length_replicate]
    rw [dec_f (by omega)]
section
variable {fl:Nat} (hfl:9223372036854775808≤fl) {t dx dy base w h kd:Int} {rw rh:Int} {rp:List Int} {kx:Int} {code:List Int} {n:Nat} (hc:Cd code n)
include hfl hc
theorem row_get (hr:∀ p,Pix w h p→RR t dx dy kd w h p rw rh rp) (h0:0≤base) (h1:base + csz t + 1≤(n:Int)) {y:Nat} (hy:(y:Int) < h) {p:List Int} (hp:Pix w h p) {s:S} (hs:St kx code n s) {K} {R:Int→S→Option Ans}
    (hK:∀ q (s:S),K (6,t,dx,dy,false,kd,w,h,rw,rh,rp,kx,s.x.lo,s.x.hi,((4 + s.k:Nat):Int),win (strm code) s.k,byd code s.k,true,true,q,s.x.st,code) = R 6 ⟨false,s.x,s.k⟩):
    F_refine_region_row_865 fl base (y:Int) t dx dy false kd w h rw rh rp kx s.x.lo s.x.hi ((4 + s.k:Nat):Int) (win (strm code) s.k) (byd code s.k) false true p s.x.st code K
    = Aft (fun p' s'=>K (0,t,dx,dy,false,kd,w,h,rw,rh,rp,kx,s'.x.lo,s'.x.hi,((4 + s'.k:Nat):Int),win (strm code) s'.k,byd code s'.k,false,true,p',s'.x.st,code)) R ((rowD t dx dy base w h rw rh rp y p).run kx code s):=by
  have hw0:=hp.w0; have hw1:=hp.w1; have hh1:=hp.h1
  have hn:=hc.n; have hl:=hc.l
  have hcs:=csz_eq t
  have hrp:=(hr p hp).r
  unfold F_refine_region_row_865 Fg_refine_region_row_865 rowD
  rw [cond_false]
  unfold L_refine_region_row_865_0
  refine iter_dec (step:=S_refine_region_row_865_0 fl) (N:=n) (fun _ p=>Pix w h p) (pxD t dx dy base w h rw rh rp y) (fun i p s=>(base,(y:Int),0,w,(i:Int),t,dx,dy,false,kd,w,h,rw,rh,rp,kx,s.x.lo,s.x.hi,((4 + s.k:Nat):Int),win (strm code) s.k,byd code s.k,false,true,p,s.x.st,code)) R (fun p s=>K (0,t,dx,dy,false,kd,w,h,rw,rh,rp,kx,s.x.lo,s.x.hi,((4 + s.k:Nat):Int),win (strm code) s.k,byd code s.k,false,true,p,s.x.st,code)) w.toNat (fun i a hi ha=>pxD_all hrp.bit h0 h1 ha y i) (fun i a s hi ha hs c=> ?_) (fun a s ha hs c=> ?_) (v:=(base,(y:Int),0,w,0,t,dx,dy,false,kd,w,h,rw,rh,rp,kx,s.x.lo,s.x.hi,((4 + s.k:Nat):Int),win (strm code) s.k,byd code s.k,false,true,p,s.x.st,code)) rfl hp hs (m:=fl) (by omega)
  · obtain ⟨p1,p2,p3⟩:=place_nat (w:=w) (h:=h) (x:=i) (y:=y) (by omega) hy
    have hyw:0≤(y:Int) * w:=Int.mul_nonneg (by omega) hw0
    have hal:=ha.len
    have han:=ha.n
    have hcx:=rctx_rg (t:=t) (dx:=dx) (dy:=dy) (w:=w) (h:=h) (rw:=rw) (rh:=rh) ha.bit hrp.bit (i:Int) (y:Int)
    have hk:=hs.k
    simp only [S_refine_region_row_865_0,Sg_refine_region_row_865_0]
    rw [dec_t (by omega),flat_ok2 hfl (hr a ha) (by omega) (by omega)]
    dsimp only
    rw [cond_f (b:=(0:Int)==1) rfl,ctx_ok2 hfl (hr a ha) (by omega) (by omega)]
    dsimp only
    rw [w6 (x:=base + _),Co.get_okB hfl hs.x (by omega) (by rw [hs.sl]; omega) hc.b hl (by omega)]
    unfold pxD
    simp only [Dec.run]
    cases e:Co.get kx code s.x s.k (base + rctx t dx dy w h a rw rh rp (i:Int) (y:Int)) with
    | none=>
      dsimp only
      rw [cond_t (b:=(6:Int) != 0) rfl]
      exact hK a s
    | some v=>
      obtain ⟨b',x',k'⟩:=v
      obtain ⟨g1,g2,g3,g4⟩:=get_some hs.x (by omega) (by rw [hs.sl]; omega) e
      dsimp only
      rw [cond_f (b:=(0:Int) != 0) rfl,w6 (x:=(y:Int) * w),w6 (x:=(y:Int) * w + (i:Int)), ← p1,dec_t (by omega),Int.toNat_natCast,wrap8 (x:=b') (by omega) (by omega),w6 (x:=(i:Int) + 1)]
      rfl
  · simp only [S_refine_region_row_865_0,Sg_refine_region_row_865_0]
    rw [dec_f (by omega)]
theorem get_ok3 (hr:∀ p,Pix w h p→RR t dx dy kd w h p rw rh rp) (hf:fit w h = true) (h0:0≤base) (h1:base + csz t + 1≤(n:Int)) {s:S} (hs:St kx code n s) {K}:
    F_refine_Get_fd3 fl base t dx dy false kd w h rw rh rp kx s.x.lo s.x.hi ((4 + s.k:Nat):Int) (win (strm code) s.k) (byd code s.k) false true s.x.st code K = gRes kx code w h K ((regD t dx dy base w h rw rh rp).run kx code s):=by
  obtain ⟨f1,f2,f3,f4,f5⟩:=fit_iff.1 hf
  have hm:=Int.mul_nonneg f1 f2
  have hz:=pix_zero hf
  have hrz:=hr _ hz
  have hrp:=hrz.r
  have hn:=hc.n; have hl:=hc.l
  have hcs:=csz_eq t
  have hsl:=hs.sl
  unfold F_refine_Get_fd3 Fg_refine_Get_fd3
  rw [Co.get_bad]
  dsimp only
  have hcc:∀ K:Int→Option Ans,F_refine_contexts fl t K = K (csz t):=fun K=>by
    unfold F_refine_contexts Fg_refine_contexts F_refine_fresh csz
    rw [cb]
    rcases hrz.t with rfl | rfl
    · rfl
    · rfl
  have hv:∀ {w h:Int} {p:List Int},Pix w h p→valid w h p = true:=fun {w h p} hp=>valid_iff.2 ⟨⟨hp.w0,hp.h0,hp.w1,hp.h1,hp.n⟩,hp.len,fun v hv=>(hp.bit v hv).2⟩
  rw [cond_f (b:=(2:Int)==7) rfl,rvalid_ok2 hfl hrz]
  try dsimp only
  rw [cond_f (b:=!true) rfl,bnew0 hfl hf]
  dsimp only
  rw [cond_f (b:=(0:Int) != 0) rfl,valid_ok hfl,hv hrp]
  try dsimp only
  rw [cond_f (b:=!true) rfl]
  unfold F_coder_Decoder_Model_40a Fg_coder_Decoder_Model_40a F_coder_Decoder_none_40a
  dsimp only
  rw [cond_f (b:=!true) rfl,clone_ok (by omega)]
  dsimp only
  unfold F_refine_fits Fg_refine_fits F_refine_newRegion_adf
  rw [dec_t (by omega),hcc]
  try dsimp only
  rw [w6 (x:=(s.x.st.length:Int) - csz t),wrap64 (by omega) (by omega),decide_eq_true (by omega),cond_f (b:=!true) rfl,w6 (x:=w * h),dec_t (by refine ⟨by omega, ?_,by omega,by omega⟩; first | rfl | trivial)]
  unfold L_refine_Get_fd3_0 regD
  have main:=iter_dec (step:=S_refine_Get_fd3_0 fl) (b:=(fun r=>K (r.2.2.2.2.2.2.2.2.2.2.2.1,r.2.2.2.2.2.2.2.2.2.2.2.2.1,r.2.2.2.2.2.2.2.2.2.2.2.2.2,r.1,r.2.1,r.2.2.1,r.2.2.2.1,r.2.2.2.2.1,r.2.2.2.2.2.1,r.2.2.2.2.2.2.1,r.2.2.2.2.2.2.2.1,r.2.2.2.2.2.2.2.2.1,r.2.2.2.2.2.2.2.2.2.1,r.2.2.2.2.2.2.2.2.2.2.1),
      fun b=>K (b.1,b.2.1,b.2.2.2.2.2.2.2.2.2.2.2.2.2.2.2.2.2.2.2.2.2.2.2.2.2,0,b.2.2.1,b.2.2.2.1,b.2.2.2.2.1,b.2.2.2.2.2.1,b.2.2.2.2.2.2.1,b.2.2.2.2.2.2.2.1,b.2.2.2.2.2.2.2.2.1,b.2.2.2.2.2.2.2.2.2.1,b.2.2.2.2.2.2.2.2.2.2.1,b.2.2.2.2.2.2.2.2.2.2.2.1))) (N:=n) (fun _ p=>Pix w h p) (rowD t dx dy base w h rw rh rp) (fun i p s=>(base,w,h,h,(i:Int),kx,s.x.lo,s.x.hi,((4 + s.k:Nat):Int),win (strm code) s.k,byd code s.k,false,true,s.x.st,code,0,0,t,dx,dy,false,kd,w,h,rw,rh,rp,[],p)) (fun e s'=>K (0,0,[],e,kx,s'.x.lo,s'.x.hi,((4 + s'.k:Nat):Int),win (strm code) s'.k,byd code s'.k,!s'.ok,true,s'.x.st,code)) (fun p s=>K (w,h,p,0,kx,s.x.lo,s.x.hi,((4 + s.k:Nat):Int),win (strm code) s.k,byd code s.k,false,true,s.x.st,code)) h.toNat (fun i a hi ha=>rowD_all hrp.bit h0 h1 ha i) (fun i a s hi ha hs c=> ?_) (fun a s ha hs c=> ?_) (v:=(base,w,h,h,0,kx,s.x.lo,s.x.hi,((4 + s.k:Nat):Int),win (strm code) s.k,byd code s.k,false,true,s.x.st,code,0,0,t,dx,dy,false,kd,w,h,rw,rh,rp,[],List.replicate (w * h).toNat 0)) rfl hz hs (m:=fl) (by omega)
  · refine Eq.trans main ?_
    have he:=run_ends (loopD (rowD t dx dy base w h rw rh rp) h.toNat 0 (List.replicate (w * h).toNat 0)) (regD_all hrp.bit h0 h1 hf) hs
    cases hrn:(loopD (rowD t dx dy base w h rw rh rp) h.toNat 0 (List.replicate (w * h).toNat 0)).run kx code s with
    | mk r s'=>
      rw [hrn] at he
      cases r with
      | inl e=>rfl
      | inr a=>
        have:=he.2.ok
        simp only [gRes,Aft,this,Bool.not_true]
  · simp only [S_refine_Get_fd3_0,Sg_refine_Get_fd3_0]
    rw [dec_t (by omega),row_get hfl hc hr h0 h1 (by omega) ha hs (R:=fun e s'=>K (0,0,[],e,kx,s'.x.lo,s'.x.hi,((4 + s'.k:Nat):Int),win (strm code) s'.k,byd code s'.k,!s'.ok,true,s'.x.st,code)) (fun q s=>rfl)]
    cases hrn:(rowD t dx dy base w h rw rh rp i a).run kx code s with
    | mk r s'=>
      cases r with
      | inl e=>rfl
      | inr a'=>
        simp only [Aft]
        rw [cond_f (b:=(0:Int) != 0) rfl,w6 (x:=(i:Int) + 1)]
        rfl
  · simp only [S_refine_Get_fd3_0,Sg_refine_Get_fd3_0]
    rw [dec_f (by omega)]
end
end Go.Proofs.YtipdidpalcmlhaaGreat.Rf
namespace Go.Proofs.YtipdidpalcmlhaaGreat.Tx
open Go Ev Bm Co Gen Dc Rf
def withinD (base add low high:Int):Dec Int:=(numD base).bind fun v=>if v.1 = false∧low≤v.2 + add∧v.2 + add≤high then .ret (v.2 + add) else .bad 3
def refD (o7 lk:Int) (b:Bmp) (id s t:Int):Dec Item:=
  (withinD 192 b.1 1 40).bind fun w=>(withinD 240 b.2.1 1 40).bind fun h=>(withinD 288 0 (-200) 200).bind fun dx=>(withinD 336 0 (-200) 200).bind fun dy=>
    (regD o7 dx dy lk w h b.1 b.2.1 b.2.2).bind fun p=>.ret (id,s,t,true,dx,dy,w,h,p)
section
variable (o0 o3 o7:Int) (rf:Bool) (symbols:List Bmp)
def itemD (st s:Int):Dec Item:=
  (if o0 > 1 then withinD 144 0 0 (o0 - 1) else .ret 0).bind fun d=>
    if near (st * o0 + d) 100000 then
      (idD 385 (fun p=>.ret (p - ((2 ^ tk symbols:Nat):Int))) (tk symbols) 1).bind fun id=>
        if id < (symbols.length:Int) then
          (if rf = true then .get 384 fun b=>if b = 1 then refD o7 (lik symbols) (bmAt symbols id) id s (st * o0 + d) else .ret (id,s,st * o0 + d,false,0,0,0,0,[])
           else .ret (id,s,st * o0 + d,false,0,0,0,0,[]))
        else .bad 3
    else .bad 3
def lineD (n:Int) (st:Int):Nat→Int→List Item→Dec (List Item)
  | 0,_,_=>.bad 3
  | f + 1,s,l=>(itemD o0 o7 rf symbols st s).bind fun i=>(numD 96).bind fun v=>
      if v.1 = true then .ret (l++ [i]) else if ((l++ [i]).length:Int) < n∧near (s + (v.2 + o3)) 100000 then lineD n st f (s + (v.2 + o3)) (l++ [i]) else .bad 3
def textD (n:Int):Nat→Int→Int→List Item→Dec (List Item)
  | 0,_,_,l=>.ret l
  | f + 1,la,fi,l=>if (l.length:Int) < n then
      (numD 0).bind fun v=>if v.1 = false∧(v.2 > 0∨l.length = 0)∧(o0 > 1∨near (la + v.2) 100000) then
          (withinD 48 fi (-100000) 100000).bind fun fi'=>(lineD o0 o3 o7 rf symbols n (la + v.2) 301 fi' l).bind fun l'=>textD n f (la + v.2) fi' l'
        else .bad 3
    else .ret l
end
theorem withinD_all {base add low high:Int} {N:Nat} (h0:0≤base) (h1:base + 48≤(N:Int)):(withinD base add low high).All N (fun v=>low≤v∧v≤high):=
  Dec.All.bind (P:=NumOk) (fun v hv=>by
    try dsimp only
    split
    · rename_i h
      exact ⟨h.2.1,h.2.2⟩
    · rfl) _ (numD_all h0 h1)
section
variable {fl:Nat} (hfl:9223372036854775808≤fl) {kx:Int} {code:List Int} {N:Nat} (hc:Cd code N)
variable {o0 o1 o3 o4 o5 o7 n:Int} {rf tu:Bool} {symbols:List Bmp} {l:List Item}
theorem fine_ok {e err:Int} {s:S} {K}:F_text_reader_fine_e4a fl e o0 o1 tu o3 o4 o5 rf o7 (tk symbols:Int) (lik symbols) (tsz o7 rf symbols) symbols n err kx s.x.lo s.x.hi ((4 + s.k:Nat):Int) (win (strm code) s.k) (byd code s.k) (!s.ok) true l s.x.st code K = K (decide ((if err = 0 then e else err) = 0),o0,o1,tu,o3,o4,o5,rf,o7,(tk symbols:Int),lik symbols,tsz o7 rf symbols,symbols,n,if err = 0 then e else err,kx,s.x.lo,s.x.hi,((4 + s.k:Nat):Int),win (strm code) s.k,byd code s.k,!s.ok,true,l,s.x.st,code):=by
  unfold F_text_reader_fine_e4a
  rw [cb]
  by_cases h:err = 0
  · simp only [if_pos h]; rfl
  · simp only [if_neg h]; rfl
theorem check_ok {b:Bool} {err:Int} {s:S} {K}:F_text_reader_check_91e fl b o0 o1 tu o3 o4 o5 rf o7 (tk symbols:Int) (lik symbols) (tsz o7 rf symbols) symbols n err kx s.x.lo s.x.hi ((4 + s.k:Nat):Int) (win (strm code) s.k) (byd code s.k) (!s.ok) true l s.x.st code K = K (b&&decide (err = 0),o0,o1,tu,o3,o4,o5,rf,o7,(tk symbols:Int),lik symbols,tsz o7 rf symbols,symbols,n,if b = true then err else if err = 0 then 3 else err,kx,s.x.lo,s.x.hi,((4 + s.k:Nat):Int),win (strm code) s.k,byd code s.k,!s.ok,true,l,s.x.st,code):=by
  unfold F_text_reader_check_91e Fg_text_reader_check_91e
  rw [fine_ok]
  cases b with
  | true=>
    rw [cond_f (b:=!true) rfl,if_pos rfl]
    rfl
  | false=>
    rw [cond_t (b:=!false) rfl]
    try dsimp only
    by_cases h:err = 0
    · simp only [if_pos h]; rfl
    · simp only [if_neg h,decide_eq_false h]; rfl
theorem fine_0 {s:S} {K}:F_text_reader_fine_e4a fl 0 o0 o1 tu o3 o4 o5 rf o7 (tk symbols:Int) (lik symbols) (tsz o7 rf symbols) symbols n 0 kx s.x.lo s.x.hi ((4 + s.k:Nat):Int) (win (strm code) s.k) (byd code s.k) (!s.ok) true l s.x.st code K = K (true,o0,o1,tu,o3,o4,o5,rf,o7,(tk symbols:Int),lik symbols,tsz o7 rf symbols,symbols,n,0,kx,s.x.lo,s.x.hi,((4 + s.k:Nat):Int),win (strm code) s.k,byd code s.k,!s.ok,true,l,s.x.st,code):=fine_ok
theorem fine_e {e:Int} (he:e ≠ 0) {s:S} {K}:F_text_reader_fine_e4a fl e o0 o1 tu o3 o4 o5 rf o7 (tk symbols:Int) (lik symbols) (tsz o7 rf symbols) symbols n 0 kx s.x.lo s.x.hi ((4 + s.k:Nat):Int) (win (strm code) s.k) (byd code s.k) (!s.ok) true l s.x.st code K = K (false,o0,o1,tu,o3,o4,o5,rf,o7,(tk symbols:Int),lik symbols,tsz o7 rf symbols,symbols,n,e,kx,s.x.lo,s.x.hi,((4 + s.k:Nat):Int),win (strm code) s.k,byd code s.k,!s.ok,true,l,s.x.st,code):=by
  rw [fine_ok]
  simp only [if_true,decide_eq_false he]
theorem check_1 {s:S} {K}:F_text_reader_check_91e fl true o0 o1 tu o3 o4 o5 rf o7 (tk symbols:Int) (lik symbols) (tsz o7 rf symbols) symbols n 0 kx s.x.lo s.x.hi ((4 + s.k:Nat):Int) (win (strm code) s.k) (byd code s.k) (!s.ok) true l s.x.st code K = K (true,o0,o1,tu,o3,o4,o5,rf,o7,(tk symbols:Int),lik symbols,tsz o7 rf symbols,symbols,n,0,kx,s.x.lo,s.x.hi,((4 + s.k:Nat):Int),win (strm code) s.k,byd code s.k,!s.ok,true,l,s.x.st,code):=check_ok
theorem check_0 {s:S} {K}:F_text_reader_check_91e fl false o0 o1 tu o3 o4 o5 rf o7 (tk symbols:Int) (lik symbols) (tsz o7 rf symbols) symbols n 0 kx s.x.lo s.x.hi ((4 + s.k:Nat):Int) (win (strm code) s.k) (byd code s.k) (!s.ok) true l s.x.st code K = K (false,o0,o1,tu,o3,o4,o5,rf,o7,(tk symbols:Int),lik symbols,tsz o7 rf symbols,symbols,n,3,kx,s.x.lo,s.x.hi,((4 + s.k:Nat):Int),win (strm code) s.k,byd code s.k,!s.ok,true,l,s.x.st,code):=check_ok
theorem check_e {b:Bool} {err:Int} (he:err ≠ 0) {s:S} {K}:F_text_reader_check_91e fl b o0 o1 tu o3 o4 o5 rf o7 (tk symbols:Int) (lik symbols) (tsz o7 rf symbols) symbols n err kx s.x.lo s.x.hi ((4 + s.k:Nat):Int) (win (strm code) s.k) (byd code s.k) (!s.ok) true l s.x.st code K = K (false,o0,o1,tu,o3,o4,o5,rf,o7,(tk symbols:Int),lik symbols,tsz o7 rf symbols,symbols,n,err,kx,s.x.lo,s.x.hi,((4 + s.k:Nat):Int),win (strm code) s.k,byd code s.k,!s.ok,true,l,s.x.st,code):=by
  rw [check_ok,decide_eq_false he,Bool.and_false]
  have e4:(if b = true then err else if err = 0 then 3 else err) = err:=by split <;> simp [he]
  rw [e4]
theorem num_err {base err:Int} (he:err ≠ 0) {s:S} {K}:F_text_reader_num_e4a fl base o0 o1 tu o3 o4 o5 rf o7 (tk symbols:Int) (lik symbols) (tsz o7 rf symbols) symbols n err kx s.x.lo s.x.hi ((4 + s.k:Nat):Int) (win (strm code) s.k) (byd code s.k) (!s.ok) true l s.x.st code K = K (false,0,o0,o1,tu,o3,o4,o5,rf,o7,(tk symbols:Int),lik symbols,tsz o7 rf symbols,symbols,n,err,kx,s.x.lo,s.x.hi,((4 + s.k:Nat):Int),win (strm code) s.k,byd code s.k,!s.ok,true,l,s.x.st,code):=by
  unfold F_text_reader_num_e4a Fg_text_reader_num_e4a
  rw [cond_t (by simp [he])]
include hfl hc
theorem num_ok {base:Int} (h0:0≤base) (h1:base + 48≤(N:Int)) {s:S} (hs:St kx code N s) {K}:F_text_reader_num_e4a fl base o0 o1 tu o3 o4 o5 rf o7 (tk symbols:Int) (lik symbols) (tsz o7 rf symbols) symbols n 0 kx s.x.lo s.x.hi ((4 + s.k:Nat):Int) (win (strm code) s.k) (byd code s.k) (!s.ok) true l s.x.st code K = Aft (fun v s'=>K (v.1,v.2,o0,o1,tu,o3,o4,o5,rf,o7,(tk symbols:Int),lik symbols,tsz o7 rf symbols,symbols,n,0,kx,s'.x.lo,s'.x.hi,((4 + s'.k:Nat):Int),win (strm code) s'.k,byd code s'.k,!s'.ok,true,l,s'.x.st,code)) (fun e s'=>K (false,0,o0,o1,tu,o3,o4,o5,rf,o7,(tk symbols:Int),lik symbols,tsz o7 rf symbols,symbols,n,e,kx,s'.x.lo,s'.x.hi,((4 + s'.k:Nat):Int),win (strm code) s'.k,byd code s'.k,!s'.ok,true,l,s'.x.st,code)) ((numD base).run kx code s):=by
  unfold F_text_reader_num_e4a Fg_text_reader_num_e4a
  rw [cond_f (b:=(0:Int) != 0) rfl,hs.ok,Bool.not_true,Nget_ok hfl hc h0 h1 hs]
  cases (numD base).run kx code s with
  | mk r s'=>
    cases r with
    | inr v=>
      simp only [nRes,Aft]
      rw [fine_ok,if_pos rfl]
    | inl e=>
      simp only [nRes,Aft]
      rw [fine_ok,if_pos rfl]
omit hfl hc in
theorem within_err {base add low high err:Int} (he:err ≠ 0) (ha: -1000000≤add∧add≤1000000) {s:S} {K}:F_text_reader_within_b14 fl base add low high o0 o1 tu o3 o4 o5 rf o7 (tk symbols:Int) (lik symbols) (tsz o7 rf symbols) symbols n err kx s.x.lo s.x.hi ((4 + s.k:Nat):Int) (win (strm code) s.k) (byd code s.k) (!s.ok) true l s.x.st code K = K (add,o0,o1,tu,o3,o4,o5,rf,o7,(tk symbols:Int),lik symbols,tsz o7 rf symbols,symbols,n,err,kx,s.x.lo,s.x.hi,((4 + s.k:Nat):Int),win (strm code) s.k,byd code s.k,!s.ok,true,l,s.x.st,code):=by
  unfold F_text_reader_within_b14 Fg_text_reader_within_b14
  rw [num_err he]
  dsimp only
  simp only [check_ok,if_neg he]
  rw [w6 (x:=0 + add),Int.zero_add]
  have e:∀ b:Bool,(if b = true then err else err) = err:=fun b=>by split <;> rfl
  rw [cond_t (b:=!false) rfl]
  simp only [e]
  cases decide (add≥low) <;> rfl
theorem within_ok {base add low high:Int} (h0:0≤base) (h1:base + 48≤(N:Int)) (ha: -1000000≤add∧add≤1000000) {s:S} (hs:St kx code N s) {K} {R:Int→S→Option Ans} (hK:∀ v e (s:S),e ≠ 0→K (v,o0,o1,tu,o3,o4,o5,rf,o7,(tk symbols:Int),lik symbols,tsz o7 rf symbols,symbols,n,e,kx,s.x.lo,s.x.hi,((4 + s.k:Nat):Int),win (strm code) s.k,byd code s.k,!s.ok,true,l,s.x.st,code) = R e s):
    F_text_reader_within_b14 fl base add low high o0 o1 tu o3 o4 o5 rf o7 (tk symbols:Int) (lik symbols) (tsz o7 rf symbols) symbols n 0 kx s.x.lo s.x.hi ((4 + s.k:Nat):Int) (win (strm code) s.k) (byd code s.k) (!s.ok) true l s.x.st code K = Aft (fun v s'=>K (v,o0,o1,tu,o3,o4,o5,rf,o7,(tk symbols:Int),lik symbols,tsz o7 rf symbols,symbols,n,0,kx,s'.x.lo,s'.x.hi,((4 + s'.k:Nat):Int),win (strm code) s'.k,byd code s'.k,!s'.ok,true,l,s'.x.st,code)) R ((withinD base add low high).run kx code s):=by
  unfold F_text_reader_within_b14 Fg_text_reader_within_b14 withinD
  rw [num_ok hfl hc h0 h1 hs,fin_bind]
  have e3:∀ b:Bool,(if b = true then (0:Int) else if (0:Int) = 0 then 3 else 0) = if b = true then 0 else 3:=fun b=>by split <;> rfl
  have e4:∀ (b:Bool) (e:Int),e ≠ 0→(if b = true then e else if e = 0 then 3 else e) = e:=fun b e he=>by split <;> simp [he]
  refine fin_congr (numD_all h0 h1) hs (fun v s' hv hs'=> ?_) (fun e s' he=> ?_)
  · obtain ⟨v1,v2,v3⟩:=hv
    dsimp only
    simp only [check_ok,e3]
    rw [w6 (x:=v.2 + add)]
    cases hv1:v.1 with
    | true=>
      simp only [Bool.not_true,cond_false,Bool.false_eq_true,if_false,Bool.true_eq_false,false_and,Dec.run,Aft]
      exact hK _ 3 s' (by decide)
    | false=>
      rw [cond_t (b:=!false) rfl]
      by_cases c1:v.2 + add≥low
      rotate_left
      · have hn:¬ (low≤v.2 + add∧v.2 + add≤high):=fun h=>c1 h.1
        rw [dec_f c1]
        simp only [Bool.false_eq_true,if_false,if_true,true_and,if_neg hn,Dec.run,Aft]
        exact hK _ 3 s' (by decide)
      rw [dec_t c1]
      by_cases c2:v.2 + add≤high
      · have hy:low≤v.2 + add∧v.2 + add≤high:=⟨c1,c2⟩
        simp only [decide_eq_true c2,if_true,true_and,if_pos hy,Dec.run,Aft]
      · have hn:¬ (low≤v.2 + add∧v.2 + add≤high):=fun h=>c2 h.2
        simp only [decide_eq_false c2,Bool.false_eq_true,if_false,if_true,true_and,if_neg hn,Dec.run,Aft]
        exact hK _ 3 s' (by decide)
  · dsimp only
    simp only [check_ok,e4 _ _ he]
    rw [cond_t (b:=!false) rfl]
    cases decide (IntKind.i64.wrap (0 + add)≥low)
    · exact hK _ e s' he
    · exact hK _ e s' he
end
end Go.Proofs.YtipdidpalcmlhaaGreat.Tx
set_option maxHeartbeats 2000000
namespace Go.Proofs.YtipdidpalcmlhaaGreat.Tx
open Go Ev Bm Co Gen Dc Rf
theorem gRes_aft {kx:Int} {code:List Int} {w h:Int} {K}:gRes kx code w h K = Aft (fun p s'=>K (w,h,p,0,kx,s'.x.lo,s'.x.hi,((4 + s'.k:Nat):Int),win (strm code) s'.k,byd code s'.k,!s'.ok,true,s'.x.st,code)) (fun e s'=>K (0,0,[],e,kx,s'.x.lo,s'.x.hi,((4 + s'.k:Nat):Int),win (strm code) s'.k,byd code s'.k,!s'.ok,true,s'.x.st,code)):=by
  funext r
  obtain ⟨r,s⟩:=r
  cases r <;> rfl
theorem shape_fit {w h:Int} (w0:1≤w) (w1:w≤40) (h0:1≤h) (h1:h≤40):fit w h = true:=by
  have:=mul_le (w:=w) (h:=h) (a:=40) (b:=40) (by omega) w1 (by omega) h1
  exact fit_iff.2 ⟨by omega,by omega,by omega,by omega,by omega⟩
section
variable {fl:Nat} (hfl:9223372036854775808≤fl) {kx:Int} {code:List Int} {N:Nat} (hc:Cd code N)
variable {o0 o1 o3 o4 o5 o7 n:Int} {rf tu:Bool} {symbols:List Bmp} {l:List Item} (T:TE o0 o1 o3 o4 o5 o7 symbols) (hN:(N:Int) = tsz o7 rf symbols)
include hfl hc T hN
theorem bitmap_ok (hrf:rf = true) {id S' T':Int} (i0:0≤id) (i1:id < (symbols.length:Int)) {s:S} (hs:St kx code N s) {k0 k1} {R:Int→S→Option Ans}
    (hK0:∀ dx dy e (s:S),e ≠ 0→k0 (o0,o1,tu,o3,o4,o5,rf,o7,(tk symbols:Int),lik symbols,tsz o7 rf symbols,symbols,n,e,id,S',T',true,dx,dy,0,0,kx,s.x.lo,s.x.hi,((4 + s.k:Nat):Int),win (strm code) s.k,byd code s.k,!s.ok,true,l,[],s.x.st,code) = R e s)
    (hK1:∀ dx dy w h p e (s:S),e ≠ 0→k1 (o0,o1,tu,o3,o4,o5,rf,o7,(tk symbols:Int),lik symbols,tsz o7 rf symbols,symbols,n,e,id,S',T',true,dx,dy,w,h,p,kx,s.x.lo,s.x.hi,((4 + s.k:Nat):Int),win (strm code) s.k,byd code s.k,!s.ok,true,l,[],s.x.st,code) = R e s):
    F_text_reader_bitmap_032 fl o0 o1 tu o3 o4 o5 rf o7 (tk symbols:Int) (lik symbols) (tsz o7 rf symbols) symbols n 0 id S' T' false 0 0 0 0 kx s.x.lo s.x.hi ((4 + s.k:Nat):Int) (win (strm code) s.k) (byd code s.k) (!s.ok) true l [] s.x.st code k0 k1
    = Aft (fun (i:Item) s'=>k1 (o0,o1,tu,o3,o4,o5,rf,o7,(tk symbols:Int),lik symbols,tsz o7 rf symbols,symbols,n,0,i.1,i.2.1,i.2.2.1,i.2.2.2.1,i.2.2.2.2.1,i.2.2.2.2.2.1,i.2.2.2.2.2.2.1,i.2.2.2.2.2.2.2.1,i.2.2.2.2.2.2.2.2,kx,s'.x.lo,s'.x.hi,((4 + s'.k:Nat):Int),win (strm code) s'.k,byd code s'.k,!s'.ok,true,l,[],s'.x.st,code)) R ((refD o7 (lik symbols) (bmAt symbols id) id S' T').run kx code s):=by
  obtain ⟨s0,s1,s2,s3,s4⟩:=lik_sz o7 rf symbols T.n
  have hs4:=s4 hrf
  obtain ⟨pb,b0,b1,b2,b3⟩:=T.bm i0 i1
  obtain ⟨_,_,_,_,_,_,_,kk,tt⟩:=ov_iff.1 T.ov
  unfold F_text_reader_bitmap_032 Fg_text_reader_bitmap_032 refD
  rw [dec_t ⟨i0,i1⟩]
  rw [show symbols.getD id.toNat (0,0,[]) = bmAt symbols id from rfl]
  generalize bmAt symbols id = B at *
  refine Eq.trans (within_ok hfl hc (by omega) (by omega) (by omega) hs (R:=R) (fun v e s he=> ?_)) ?_
  · dsimp only
    rw [within_err he (by omega)]
    dsimp only
    rw [within_err he (by omega)]
    dsimp only
    rw [within_err he (by omega)]
    dsimp only
    rw [cond_t (by simp [he])]
    exact hK0 _ _ e s he
  rw [fin_bind]
  refine fin_congr (withinD_all (by omega) (by omega)) hs (fun w sw hw hsw=> ?_) (fun e s he=>rfl)
  dsimp only
  refine Eq.trans (within_ok hfl hc (by omega) (by omega) (by omega) hsw (R:=R) (fun v e s he=> ?_)) ?_
  · dsimp only
    rw [within_err he (by omega)]
    dsimp only
    rw [within_err he (by omega)]
    dsimp only
    rw [cond_t (by simp [he])]
    exact hK0 _ _ e s he
  rw [fin_bind]
  refine fin_congr (withinD_all (by omega) (by omega)) hsw (fun h sh hh hsh=> ?_) (fun e s he=>rfl)
  dsimp only
  refine Eq.trans (within_ok hfl hc (by omega) (by omega) (by omega) hsh (R:=R) (fun v e s he=> ?_)) ?_
  · dsimp only
    rw [within_err he (by omega)]
    dsimp only
    rw [cond_t (by simp [he])]
    exact hK0 _ _ e s he
  rw [fin_bind]
  refine fin_congr (withinD_all (by omega) (by omega)) hsh (fun dx sx hdx hsx=> ?_) (fun e s he=>rfl)
  dsimp only
  refine Eq.trans (within_ok hfl hc (by omega) (by omega) (by omega) hsx (R:=R) (fun v e s he=> ?_)) ?_
  · dsimp only
    rw [cond_t (by simp [he])]
    exact hK0 _ _ e s he
  rw [fin_bind]
  refine fin_congr (withinD_all (by omega) (by omega)) hsx (fun dy sy hdy hsy=> ?_) (fun e s he=>rfl)
  dsimp only
  have hf:=shape_fit hw.1 hw.2 hh.1 hh.2
  have hr:∀ p,Pix w h p→RR o7 dx dy o5 w h p B.1 B.2.1 B.2.2:=fun p hp=>⟨tt,kk,hdx,hdy,hp,pb⟩
  have hg:∀ K,F_refine_Get_fd3 fl (lik symbols) o7 dx dy false o5 w h B.1 B.2.1 B.2.2 kx sy.x.lo sy.x.hi ((4 + sy.k:Nat):Int) (win (strm code) sy.k) (byd code sy.k) false true sy.x.st code K = gRes kx code w h K ((regD o7 dx dy (lik symbols) w h B.1 B.2.1 B.2.2).run kx code sy):=fun K=>get_ok3 hfl hc hr hf (by omega) (by omega) hsy
  rw [cond_f (b:=(0:Int) != 0) rfl]
  unfold F_text_layout_options
  simp only [hsy.ok,Bool.not_true,hg,both_same,gRes_aft]
  rw [fin_bind]
  refine fin_congr (regD_all pb.bit (by omega) (by omega) hf) hsy (fun p sp hp hsp=> ?_) (fun e s he=> ?_)
  · rw [fine_ok]
    rfl
  · rw [fine_ok]
    exact hK1 _ _ _ _ _ e s he
omit hfl hc in
theorem refD_all (hrf:rf = true) {id S' T':Int} (i0:0≤id) (i1:id < (symbols.length:Int)):(refD o7 (lik symbols) (bmAt symbols id) id S' T').All N (fun _=>True):=by
  obtain ⟨s0,s1,s2,s3,s4⟩:=lik_sz o7 rf symbols T.n
  have hs4:=s4 hrf
  obtain ⟨pb,b0,b1,b2,b3⟩:=T.bm i0 i1
  unfold refD
  refine Dec.All.bind (fun w hw=> ?_) _ (withinD_all (by omega) (by omega))
  refine Dec.All.bind (fun h hh=> ?_) _ (withinD_all (by omega) (by omega))
  refine Dec.All.bind (fun dx _=> ?_) _ (withinD_all (by omega) (by omega))
  refine Dec.All.bind (fun dy _=> ?_) _ (withinD_all (by omega) (by omega))
  refine Dec.All.bind (P:=Pix w h) (fun p _=> ?_) _ (regD_all pb.bit (by omega) (by omega) (shape_fit hw.1 hw.2 hh.1 hh.2))
  exact trivial
theorem item_ok {st S':Int} (hst: -1000000000≤st∧st≤1000000000) {s:S} (hs:St kx code N s) (hl:l.length≤100000) {k0 k1} {R:Int→S→Option Ans}
    (hK0:∀ e (s:S),e ≠ 0→k0 (o0,o1,tu,o3,o4,o5,rf,o7,(tk symbols:Int),lik symbols,tsz o7 rf symbols,symbols,n,e,kx,s.x.lo,s.x.hi,((4 + s.k:Nat):Int),win (strm code) s.k,byd code s.k,!s.ok,true,l,s.x.st,code) = R e s):
    F_text_reader_item_457 fl st S' o0 o1 tu o3 o4 o5 rf o7 (tk symbols:Int) (lik symbols) (tsz o7 rf symbols) symbols n 0 kx s.x.lo s.x.hi ((4 + s.k:Nat):Int) (win (strm code) s.k) (byd code s.k) (!s.ok) true l s.x.st code k0 k1
    = Aft (fun (i:Item) s'=>k1 (o0,o1,tu,o3,o4,o5,rf,o7,(tk symbols:Int),lik symbols,tsz o7 rf symbols,symbols,n,0,kx,s'.x.lo,s'.x.hi,((4 + s'.k:Nat):Int),win (strm code) s'.k,byd code s'.k,!s'.ok,true,l++ [i],s'.x.st,code)) R ((itemD o0 o7 rf symbols st S').run kx code s):=by
  obtain ⟨s0,s1,s2,s3,s4⟩:=lik_sz o7 rf symbols T.n
  obtain ⟨q1,_⟩:=ov_iff.1 T.ov
  obtain ⟨ka,kb,kc,kd⟩:=tk_ok T.n
  have hcl:=hc.l
  have e2:(2:Int) ^ tk symbols = ((2 ^ tk symbols:Nat):Int):=by rw [Int.natCast_pow]; rfl
  have hmul: -8000000000≤st * o0∧st * o0≤8000000000:=by rcases q1 with rfl | rfl | rfl | rfl <;> omega
  have hlen:∀ L:List Item,L.length≤100000→((L.length + (1:Nat)) * (88:Nat)≤(140737488355328:Nat)∧L.length + (1:Nat)≤(140737488355328:Nat)):=fun L h=>by omega
  unfold F_text_reader_item_457 Fg_text_reader_item_457 itemD
  simp only [both_same]
  by_cases h1:o0 > 1
  · rw [dec_t h1,if_pos h1,w6 (x:=o0 - 1)]
    refine Eq.trans (within_ok hfl hc (by omega) (by omega) (by omega) hs (R:=R) (fun v e s he=> ?_)) ?_
    · try dsimp only
      rw [near_ok (by omega) (by omega)]
      try dsimp only
      rw [check_e he]
      try dsimp only
      rw [cond_t (b:=!false) rfl]
      exact hK0 e s he
    rw [fin_bind]
    refine fin_congr (withinD_all (by omega) (by omega)) hs (fun d sd hd hsd=> ?_) (fun e s he=>rfl)
    try dsimp only
    rw [w6 (x:=st * o0),w6 (x:=st * o0 + d),near_ok (by omega) (by omega)]
    try dsimp only
    by_cases hnr:near (st * o0 + d) 100000
    rotate_left
    · rw [decide_eq_false hnr,check_0]
      try dsimp only
      rw [cond_t (b:=!false) rfl,if_neg hnr]
      exact hK0 3 sd (by decide)
    rw [decide_eq_true hnr,check_1,if_pos hnr]
    try dsimp only
    rw [cond_f (b:=!true) rfl,hsd.ok,Bool.not_true]
    refine Eq.trans (GetId_ok hfl hc (Q:=tk symbols) (by omega) (by omega) (by rw [e2]; unfold lik at *; omega) hsd) ?_
    rw [fin_bind]
    refine fin_congr (idD_all (P:=fun id:Int=>0≤id) (by omega) (by rw [e2]; unfold lik at *; omega) (fun p hp _=>by show (0:Int)≤p - ((2 ^ tk symbols:Nat):Int); rw [← e2]; omega) _ 0 1 (by omega) (by decide) (by decide)) hsd (fun id sq hid hsq=> ?_) (fun e s he=> ?_)
    rotate_left
    · try dsimp only
      rw [fine_e he]
      try dsimp only
      rw [cond_t (b:=!false) rfl]
      exact hK0 e s he
    try dsimp only
    rw [fine_0]
    try dsimp only
    rw [cond_f (b:=!true) rfl]
    by_cases hlt:id < (symbols.length:Int)
    rotate_left
    · rw [decide_eq_false hlt,check_0]
      try dsimp only
      rw [cond_t (b:=!false) rfl,if_neg hlt]
      exact hK0 3 sq (by decide)
    rw [decide_eq_true hlt,check_1]
    try dsimp only
    rw [cond_f (b:=!true) rfl,if_pos hlt]
    cases rf with
    | false=>
      rw [cond_false,if_neg (by simp),cond_t (b:=(0:Int)==0) rfl,dec_t (hlen l hl)]
      rfl
    | true=>
      have hs4:=s4 rfl
      rw [cond_true,if_pos rfl,hsq.ok,Bool.not_true,Co.get_okB hfl hsq.x (by omega) (by rw [hsq.sl]; omega) hc.b hcl (by have:=hsq.k; omega)]
      simp only [Dec.run]
      cases eg:Co.get kx code sq.x sq.k 384 with
      | none=>
        try dsimp only
        refine Eq.trans (fine_e (s:=⟨false,sq.x,sq.k⟩) (by decide)) ?_
        try dsimp only
        rw [cond_t (b:=!false) rfl]
        exact hK0 6 ⟨false,sq.x,sq.k⟩ (by decide)
      | some v=>
        obtain ⟨b',x',k'⟩:=v
        obtain ⟨g1,g2,g3,g4⟩:=get_some hsq.x (by omega) (by rw [hsq.sl]; omega) eg
        have hs3:Dc.St kx code N ⟨true,x',k'⟩:=⟨rfl,g2,by rw [g3]; exact hsq.sl,g4⟩
        try dsimp only
        refine Eq.trans (fine_0 (s:=⟨true,x',k'⟩)) ?_
        try dsimp only
        rw [cond_f (b:=!true) rfl]
        rcases g1 with rfl | rfl
        · rw [cond_f (b:=(0:Int)==1) rfl,if_neg (by decide),cond_t (b:=(0:Int)==0) rfl,dec_t (hlen l hl)]
          rfl
        · rw [cond_t (b:=(1:Int)==1) rfl,if_pos rfl]
          refine Eq.trans (bitmap_ok hfl hc T hN rfl hid hlt hs3 (R:=R) (fun dx dy e s he=> ?_) (fun dx dy w h p e s he=> ?_)) ?_
          · try dsimp only
            rw [cond_f (by simp [he])]
            exact hK0 e s he
          · try dsimp only
            rw [cond_f (by simp [he])]
            exact hK0 e s he
          refine fin_congr (refD_all T hN rfl hid hlt) hs3 (fun i s5 _ hs5=> ?_) (fun e s he=>rfl)
          try dsimp only
          rw [cond_t (b:=(0:Int)==0) rfl,dec_t (hlen l hl)]
  · rw [dec_f h1,if_neg h1,w6 (x:=st * o0),near_ok (by omega) (by omega)]
    try dsimp only
    simp only [Dec.bind]
    rw [Int.add_zero]
    by_cases hnr:near (st * o0) 100000
    rotate_left
    · rw [decide_eq_false hnr,check_0]
      try dsimp only
      rw [cond_t (b:=!false) rfl,if_neg hnr]
      exact hK0 3 s (by decide)
    rw [decide_eq_true hnr,check_1,if_pos hnr]
    try dsimp only
    rw [cond_f (b:=!true) rfl,hs.ok,Bool.not_true]
    refine Eq.trans (GetId_ok hfl hc (Q:=tk symbols) (by omega) (by omega) (by rw [e2]; unfold lik at *; omega) hs) ?_
    rw [fin_bind]
    refine fin_congr (idD_all (P:=fun id:Int=>0≤id) (by omega) (by rw [e2]; unfold lik at *; omega) (fun p hp _=>by show (0:Int)≤p - ((2 ^ tk symbols:Nat):Int); rw [← e2]; omega) _ 0 1 (by omega) (by decide) (by decide)) hs (fun id sq hid hsq=> ?_) (fun e s he=> ?_)
    rotate_left
    · try dsimp only
      rw [fine_e he]
      try dsimp only
      rw [cond_t (b:=!false) rfl]
      exact hK0 e s he
    try dsimp only
    rw [fine_0]
    try dsimp only
    rw [cond_f (b:=!true) rfl]
    by_cases hlt:id < (symbols.length:Int)
    rotate_left
    · rw [decide_eq_false hlt,check_0]
      try dsimp only
      rw [cond_t (b:=!false) rfl,if_neg hlt]
      exact hK0 3 sq (by decide)
    rw [decide_eq_true hlt,check_1]
    try dsimp only
    rw [cond_f (b:=!true) rfl,if_pos hlt]
    cases rf with
    | false=>
      rw [cond_false,if_neg (by simp),cond_t (b:=(0:Int)==0) rfl,dec_t (hlen l hl)]
      rfl
    | true=>
      have hs4:=s4 rfl
      rw [cond_true,if_pos rfl,hsq.ok,Bool.not_true,Co.get_okB hfl hsq.x (by omega) (by rw [hsq.sl]; omega) hc.b hcl (by have:=hsq.k; omega)]
      simp only [Dec.run]
      cases eg:Co.get kx code sq.x sq.k 384 with
      | none=>
        try dsimp only
        refine Eq.trans (fine_e (s:=⟨false,sq.x,sq.k⟩) (by decide)) ?_
        try dsimp only
        rw [cond_t (b:=!false) rfl]
        exact hK0 6 ⟨false,sq.x,sq.k⟩ (by decide)
      | some v=>
        obtain ⟨b',x',k'⟩:=v
        obtain ⟨g1,g2,g3,g4⟩:=get_some hsq.x (by omega) (by rw [hsq.sl]; omega) eg
        have hs3:Dc.St kx code N ⟨true,x',k'⟩:=⟨rfl,g2,by rw [g3]; exact hsq.sl,g4⟩
        try dsimp only
        refine Eq.trans (fine_0 (s:=⟨true,x',k'⟩)) ?_
        try dsimp only
        rw [cond_f (b:=!true) rfl]
        rcases g1 with rfl | rfl
        · rw [cond_f (b:=(0:Int)==1) rfl,if_neg (by decide),cond_t (b:=(0:Int)==0) rfl,dec_t (hlen l hl)]
          rfl
        · rw [cond_t (b:=(1:Int)==1) rfl,if_pos rfl]
          refine Eq.trans (bitmap_ok hfl hc T hN rfl hid hlt hs3 (R:=R) (fun dx dy e s he=> ?_) (fun dx dy w h p e s he=> ?_)) ?_
          · try dsimp only
            rw [cond_f (by simp [he])]
            exact hK0 e s he
          · try dsimp only
            rw [cond_f (by simp [he])]
            exact hK0 e s he
          refine fin_congr (refD_all T hN rfl hid hlt) hs3 (fun i s5 _ hs5=> ?_) (fun e s he=>rfl)
          try dsimp only
          rw [cond_t (b:=(0:Int)==0) rfl,dec_t (hlen l hl)]
end
end Go.Proofs.YtipdidpalcmlhaaGreat.Tx
