/- Laws of the typed texts that TextEncodes reaches, in plain Lean. No condition but what each theorem names. -/
import Derived.Test.YtipdidpalcmlhaaGreatEvO
import Derived.Test.YtipdidpalcmlhaaGreatFsTextEncodes6
import Derived.Test.YtipdidpalcmlhaaGreatFsTextEncodes1
import Derived.Test.YtipdidpalcmlhaaGreatFsTextEncodes2
import Derived.Test.YtipdidpalcmlhaaGreatFsTextEncodes3
import Derived.Test.YtipdidpalcmlhaaGreatFsTextEncodes7
import Derived.Test.YtipdidpalcmlhaaGreatFsTextEncodes4
set_option linter.unusedVariables false
set_option linter.unusedSimpArgs false
set_option linter.unusedSectionVars false
namespace Go.Proofs.YtipdidpalcmlhaaGreat.Ev
open Go
theorem cond_t {α:Sort _} {b:Bool} {x y:α} (h:b = true):(bif b then x else y) = x:=by rw [h]; rfl
theorem cond_f {α:Sort _} {b:Bool} {x y:α} (h:b = false):(bif b then x else y) = y:=by rw [h]; rfl
theorem dec_t {p:Prop} {i:Decidable p} {α:Sort _} {x y:α} (h:p):(bif @decide p i then x else y) = x:=cond_t (decide_eq_true h)
theorem dec_f {p:Prop} {i:Decidable p} {α:Sort _} {x y:α} (h:¬p):(bif @decide p i then x else y) = y:=cond_f (decide_eq_false h)
theorem both_same (x:Option Ans):both x x = x:=by
  unfold both
  cases x with
  | none=>rfl
  | some u=>rfl
theorem fuel_eq:fuel = 18446744073709551616:=rfl
theorem wrap64 {x:Int} (h1: -9223372036854775808≤x) (h2:x≤9223372036854775807):IntKind.i64.wrap x = x:=by
  simp [IntKind.wrap,IntKind.min,IntKind.max,IntKind.signed,IntKind.bits]
  omega
theorem wrap8 {x:Int} (h1:0≤x) (h2:x≤255):IntKind.u8.wrap x = x:=by
  simp [IntKind.wrap,IntKind.min,IntKind.max,IntKind.signed,IntKind.bits]
  omega
theorem ishl_one {y:Int} (h0:0≤y) (h:y≤62):ishl .i64 1 y = 2 ^ y.toNat:=by
  unfold ishl
  have hb:min y.toNat IntKind.i64.bits = y.toNat:=by
    have:IntKind.i64.bits = 64:=rfl
    rw [this]
    omega
  rw [hb,Int.one_mul]
  have h1:(2:Int) ^ y.toNat≤2 ^ 62:=by
    have:=Nat.pow_le_pow_right (n:=2) (by omega) (show y.toNat≤62 by omega)
    exact_mod_cast this
  have h2:(0:Int) < 2 ^ y.toNat:=Int.pow_pos (by omega)
  exact wrap64 (by omega) (by omega)
theorem ofInt_toNat {n:Nat} {x:Int} (h0:0≤x) (h:x < 2 ^ n):(BitVec.ofInt n x).toNat = x.toNat:=by
  rw [BitVec.toNat_ofInt]
  rw [Int.emod_eq_of_lt h0 (by exact_mod_cast h)]
theorem iand_one {x:Int} (hx:0≤x) (hx':x < 2 ^ 63):iand .i64 x 1 = x % 2:=by
  unfold iand
  have e:IntKind.i64.bits = 64:=rfl
  rw [e,BitVec.toNat_and,ofInt_toNat hx (by omega),ofInt_toNat (by omega) (by omega)]
  have h1:x.toNat&&& (1:Int).toNat = x.toNat % 2:=Nat.and_one_is_mod _
  rw [h1]
  have h2:((x.toNat % 2:Nat):Int) = x % 2:=by omega
  rw [h2]
  exact wrap64 (by omega) (by omega)
theorem iter_to {V B:Type} {step:V→(V→Option Ans)→B→Option Ans} {b:B} {r:Option Ans} (σ:Nat→V) (n:Nat)
    (h:∀ i,i < n→∀ c,step (σ i) c b = c (σ (i + 1))) (hn:∀ c,step (σ n) c b = r) {m:Nat} (hm:n < m):iter step m (σ 0) b = r:=by
  have key:∀ d i m,i + d = n→d < m→iter step m (σ i) b = r:=by
    intro d
    induction d with
    | zero=>
      intro i m hi hm
      obtain ⟨m,rfl⟩:∃ k,m = k + 1:=⟨m - 1,by omega⟩
      have:i = n:=by omega
      subst this
      exact hn _
    | succ d ih=>
      intro i m hi hm
      obtain ⟨m,rfl⟩:∃ k,m = k + 1:=⟨m - 1,by omega⟩
      simp only [iter]
      rw [h i (by omega)]
      exact ih (i + 1) m (by omega) (by omega)
  exact key n 0 m (by omega) hm
theorem iter_seq {V B:Type} {step:V→(V→Option Ans)→B→Option Ans} {b:B} {r:Option Ans} {v:V} {m:Nat} (σ:Nat→V) (n:Nat) (hv:v = σ 0)
    (h:∀ i,i < n→∀ c,step (σ i) c b = c (σ (i + 1))) (hn:∀ c,step (σ n) c b = r) (hm:n < m):iter step m v b = r:=by
  rw [hv]
  exact iter_to σ n h hn hm
theorem take_succ_getD {α:Type} {l:List α} {i:Nat} (h:i < l.length) (d:α):l.take (i + 1) = l.take i++ [l.getD i d]:=by
  rw [List.take_add_one]
  simp [List.getElem?_eq_getElem h]
theorem map_take_succ {α β:Type} {l:List α} {i:Nat} (h:i < l.length) (d:α) (f:α→β):(l.take (i + 1)).map f = (l.take i).map f++ [f (l.getD i d)]:=by
  rw [take_succ_getD h d,List.map_append]; rfl
theorem all_take_succ {α:Type} {l:List α} {i:Nat} (h:i < l.length) (d:α) (p:α→Bool):(l.take (i + 1)).all p = ((l.take i).all p&&p (l.getD i d)):=by
  rw [take_succ_getD h d,List.all_append]; simp
theorem getD_lt {α:Type} {l:List α} {i:Nat} (h:i < l.length) (d:α):l.getD i d = l[i]:=by simp [h]
theorem getD_mem {α:Type} {l:List α} {i:Nat} (h:i < l.length) (d:α):l.getD i d ∈ l:=by rw [getD_lt h]; exact List.getElem_mem h
theorem all_or_first {α:Type} (p:α→Bool) (d:α) (l:List α):l.all p = true∨∃ n,n < l.length∧p (l.getD n d) = false∧∀ i,i < n→p (l.getD i d) = true:=by
  induction l with
  | nil=>exact .inl rfl
  | cons x l ih=>
    cases hx:p x with
    | false=>exact .inr ⟨0,by simp,by simpa using hx,fun i hi=>by omega⟩
    | true=>
      rcases ih with ih | ⟨n,h1,h2,h3⟩
      · left; simp [hx,ih]
      · refine .inr ⟨n + 1,by simpa using h1,by simpa using h2,fun i hi=> ?_⟩
        cases i with
        | zero=>simpa using hx
        | succ i=>simpa using h3 i (by omega)
theorem all_getD {α:Type} {p:α→Bool} {l:List α} (h:l.all p = true) (d:α) {i:Nat} (hi:i < l.length):p (l.getD i d) = true:=
  List.all_eq_true.1 h _ (getD_mem hi d)
theorem not_all {α:Type} {p:α→Bool} {l:List α} {d:α} {n:Nat} (h:n < l.length) (hp:p (l.getD n d) = false):l.all p = false:=by
  rw [List.all_eq_false]
  exact ⟨_,getD_mem h d,by rw [hp]; simp⟩
theorem nat_or_first (P:Nat→Prop) [DecidablePred P]:∀ n,(∀ i,i < n→P i)∨∃ k,k < n∧¬ P k∧∀ i,i < k→P i
  | 0=>.inl fun i h=>by omega
  | n + 1=>by
    rcases nat_or_first P n with h | ⟨k,h1,h2,h3⟩
    · by_cases hn:P n
      · left
        intro i hi
        rcases Nat.lt_or_ge i n with h' | h'
        · exact h i h'
        · have:i = n:=by omega
          subst this; exact hn
      · exact .inr ⟨n,by omega,hn,h⟩
    · exact .inr ⟨k,by omega,h2,h3⟩
theorem range_map_succ {α:Type} (f:Nat→α) (i:Nat):(List.range (i + 1)).map f = (List.range i).map f++ [f i]:=by
  rw [List.range_succ,List.map_append]; rfl
theorem range_getD {α:Type} (f:Nat→α) {n i:Nat} (h:i < n) (d:α):((List.range n).map f).getD i d = f i:=by
  rw [getD_lt (by simpa using h)]
  simp
end Go.Proofs.YtipdidpalcmlhaaGreat.Ev
namespace Go.Proofs.YtipdidpalcmlhaaGreat.Co
open Go Ev
def mid (lo hi p:Int):Int:=lo + (hi - lo) / 4096 * p + (hi - lo) % 4096 * p / 4096
theorem mid_in {lo hi p:Int} (h:lo < hi) (h1:1≤p) (h2:p≤4095):lo≤mid lo hi p∧mid lo hi p < hi:=by
  unfold mid
  have hr:1≤hi - lo:=by omega
  have e:=Int.emod_add_mul_ediv (hi - lo) 4096
  have b0:0≤(hi - lo) % 4096:=Int.emod_nonneg _ (by omega)
  have b1:(hi - lo) % 4096 < 4096:=Int.emod_lt_of_pos _ (by omega)
  have a0:0≤(hi - lo) / 4096:=Int.ediv_nonneg (by omega) (by omega)
  generalize (hi - lo) % 4096 = b at *
  generalize (hi - lo) / 4096 = a at *
  have m1:0≤a * p:=Int.mul_nonneg a0 (by omega)
  have m2:a * p≤a * 4095:=Int.mul_le_mul_of_nonneg_left h2 a0
  have m3:0≤b * p:=Int.mul_nonneg b0 (by omega)
  have m4:b * p≤b * 4095:=Int.mul_le_mul_of_nonneg_left h2 b0
  generalize a * p = x at *
  generalize b * p = y at *
  omega
theorem mid_parts {lo hi p:Int} (h:lo≤hi) (hl:0≤lo) (hh:hi < 4294967296) (h1:1≤p) (h2:p≤4095):
    0≤(hi - lo) / 4096 * p∧(hi - lo) / 4096 * p < 4294967296∧0≤(hi - lo) % 4096 * p∧(hi - lo) % 4096 * p < 4294967296:=by
  have b0:0≤(hi - lo) % 4096:=Int.emod_nonneg _ (by omega)
  have b1:(hi - lo) % 4096 < 4096:=Int.emod_lt_of_pos _ (by omega)
  have a0:0≤(hi - lo) / 4096:=Int.ediv_nonneg (by omega) (by omega)
  have e:=Int.emod_add_mul_ediv (hi - lo) 4096
  generalize (hi - lo) % 4096 = b at *
  generalize (hi - lo) / 4096 = a at *
  have m1:0≤a * p:=Int.mul_nonneg a0 (by omega)
  have m2:a * p≤a * 4095:=Int.mul_le_mul_of_nonneg_left h2 a0
  have m3:0≤b * p:=Int.mul_nonneg b0 (by omega)
  have m4:b * p≤b * 4095:=Int.mul_le_mul_of_nonneg_left h2 b0
  generalize a * p = x at *
  generalize b * p = y at *
  omega
def same (lo hi:Int):Prop:=lo / 16777216 = hi / 16777216
instance (lo hi:Int):Decidable (same lo hi):=by unfold same; infer_instance
def nl (lo:Int):Int:=lo % 16777216 * 256
def nh (hi:Int):Int:=hi % 16777216 * 256 + 255
structure Rg (lo hi:Int):Prop where
  l:0≤lo
  m:lo≤hi
  h:hi < 4294967296
theorem Rg.next {lo hi:Int} (h:Rg lo hi) (hs:same lo hi):Rg (nl lo) (nh hi):=by
  obtain ⟨a,b,c⟩:=h
  unfold same at hs
  unfold nl nh
  constructor <;> omega
def nrm:Nat→Int→Int→Nat×Int×Int
  | 0,lo,hi=>(0,lo,hi)
  | n + 1,lo,hi=>if same lo hi then ((nrm n (nl lo) (nh hi)).1 + 1,(nrm n (nl lo) (nh hi)).2) else (0,lo,hi)
def nrmB:Nat→Int→Int→List Int
  | 0,_,_=>[]
  | n + 1,lo,hi=>if same lo hi then lo / 16777216::nrmB n (nl lo) (nh hi) else []
theorem nrmB_len:∀ (n:Nat) (lo hi:Int),(nrmB n lo hi).length = (nrm n lo hi).1
  | 0,_,_=>rfl
  | n + 1,lo,hi=>by
    unfold nrmB nrm
    split
    · simp [nrmB_len n]
    · rfl
theorem nrm_le:∀ (n:Nat) (lo hi:Int),(nrm n lo hi).1≤n
  | 0,_,_=>Nat.le_refl _
  | n + 1,lo,hi=>by
    unfold nrm
    split
    · have:=nrm_le n (nl lo) (nh hi)
      show _ + 1≤n + 1
      omega
    · exact Nat.zero_le _
theorem nrm_rg:∀ (n:Nat) {lo hi:Int},Rg lo hi→Rg (nrm n lo hi).2.1 (nrm n lo hi).2.2
  | 0,_,_,h=>h
  | n + 1,lo,hi,h=>by
    unfold nrm
    split
    · rename_i hs
      exact nrm_rg n (h.next hs)
    · exact h
theorem nrm_same {n:Nat} {lo hi:Int} (h:same lo hi):(nrm (n + 1) lo hi).2 = (nrm n (nl lo) (nh hi)).2:=by
  rw [nrm,if_pos h]
theorem nrm_diff {n:Nat} {lo hi:Int} (h:¬ same lo hi):(nrm (n + 1) lo hi).2 = (lo,hi):=by
  rw [nrm,if_neg h]
theorem ends4 {lo hi:Int} (h:Rg lo hi) (h1:lo = 0) (h2:hi = 4294967295) {n:Nat}:¬ same (nrm (n + 1) lo hi).2.1 (nrm (n + 1) lo hi).2.2:=by
  have hs:¬ same lo hi:=by unfold same; omega
  rw [nrm_diff hs]
  exact hs
theorem ends3 {lo hi:Int} (h:Rg lo hi) (h1:lo % 16777216 = 0) (h2:hi % 16777216 = 16777215):¬ same (nrm 2 lo hi).2.1 (nrm 2 lo hi).2.2:=by
  by_cases hs:same lo hi
  · rw [nrm_same hs]
    exact ends4 (h.next hs) (by unfold nl; omega) (by unfold nh; omega)
  · rw [nrm_diff hs]
    exact hs
theorem ends2 {lo hi:Int} (h:Rg lo hi) (h1:lo % 65536 = 0) (h2:hi % 65536 = 65535):¬ same (nrm 3 lo hi).2.1 (nrm 3 lo hi).2.2:=by
  by_cases hs:same lo hi
  · rw [nrm_same hs]
    exact ends3 (h.next hs) (by unfold nl; omega) (by unfold nh; omega)
  · rw [nrm_diff hs]
    exact hs
theorem ends1 {lo hi:Int} (h:Rg lo hi) (h1:lo % 256 = 0) (h2:hi % 256 = 255):¬ same (nrm 4 lo hi).2.1 (nrm 4 lo hi).2.2:=by
  by_cases hs:same lo hi
  · rw [nrm_same hs]
    exact ends2 (h.next hs) (by unfold nl; omega) (by unfold nh; omega)
  · rw [nrm_diff hs]
    exact hs
theorem nrm_ends {lo hi:Int} (h:Rg lo hi):¬ same (nrm 5 lo hi).2.1 (nrm 5 lo hi).2.2:=by
  by_cases hs:same lo hi
  · rw [nrm_same hs]
    exact ends1 (h.next hs) (by unfold nl; omega) (by unfold nh; omega)
  · rw [nrm_diff hs]
    exact hs
theorem lt_of {lo hi:Int} (h:Rg lo hi) (hs:¬ same lo hi):lo < hi:=by
  obtain ⟨a,b,c⟩:=h
  unfold same at hs
  omega
def Byt (S:Nat→Int):Prop:=∀ n,0≤S n∧S n≤255
def win (S:Nat→Int) (n:Nat):Int:=S n * 16777216 + S (n + 1) * 65536 + S (n + 2) * 256 + S (n + 3)
theorem win_next {S:Nat→Int} (h:Byt S) (n:Nat):win S (n + 1) = win S n % 16777216 * 256 + S (n + 4):=by
  have a:=h n; have b:=h (n + 1); have c:=h (n + 2); have d:=h (n + 3); have e:=h (n + 4)
  have e0:win S n = S n * 16777216 + S (n + 1) * 65536 + S (n + 2) * 256 + S (n + 3):=rfl
  have e1:win S (n + 1) = S (n + 1) * 16777216 + S (n + 2) * 65536 + S (n + 3) * 256 + S (n + 4):=rfl
  omega
theorem win_rg {S:Nat→Int} (h:Byt S) (n:Nat):0≤win S n∧win S n < 4294967296:=by
  have a:=h n; have b:=h (n + 1); have c:=h (n + 2); have d:=h (n + 3)
  have e0:win S n = S n * 16777216 + S (n + 1) * 65536 + S (n + 2) * 256 + S (n + 3):=rfl
  omega
open Go Ev
def q:Nat→Int
  | 0=>2048
  | k + 1=>q k - q k / 8
theorem q_rg:∀ k:Fin 32,1≤q k.val∧q k.val≤2048:=by decide
def pr (kd s:Int):Int:=
  if kd = 1 then min (max ((2 * (s % 256) + 1) * 4096 / (2 * (s / 256) + 2 * (s % 256) + 2)) 1) 4095
  else if 32≤s then 4096 - q (s - 32).toNat else q s.toNat
def most (kd:Int):Int:=if kd = 1 then 65536 else 64
def vst (kd s:Int):Prop:=0≤s∧s < most kd
theorem pr_rg {kd s:Int} (hk:kd = 0∨kd = 1) (h:vst kd s):1≤pr kd s∧pr kd s≤4095:=by
  unfold vst most at h
  unfold pr
  by_cases h1:kd = 1
  · rw [if_pos h1]
    omega
  · rw [if_neg h1] at h ⊢
    split
    · have:=q_rg ⟨(s - 32).toNat,by omega⟩
      simp only at this
      omega
    · have:=q_rg ⟨s.toNat,by omega⟩
      simp only at this
      omega
def nx (kd s bit:Int):Int:=
  if kd = 1 then
    (if bit = 0 then (if s / 256 = 255 then 256 * 128 + s % 256 / 2 else 256 * (s / 256 + 1) + s % 256)
     else (if s % 256 = 255 then 256 * (s / 256 / 2) + 128 else 256 * (s / 256) + (s % 256 + 1)))
  else if bit = s / 32 then 32 * (s / 32) + min (s % 32 + 1) 31
  else if s % 32 = 0 then 32 * bit
  else 32 * (s / 32) + (s % 32 - (1 + s % 32 / 4))
theorem nx_rg {kd s bit:Int} (hk:kd = 0∨kd = 1) (h:vst kd s) (hb:bit = 0∨bit = 1):vst kd (nx kd s bit):=by
  unfold vst most at *
  unfold nx
  by_cases h1:kd = 1
  · rw [if_pos h1] at h ⊢
    rw [if_pos h1]
    split <;> split <;> omega
  · rw [if_neg h1] at h ⊢
    rw [if_neg h1]
    split
    · omega
    · split <;> omega
structure Iv where
  st:List Int
  lo:Int
  hi:Int
structure Iv.Ok (kd:Int) (x:Iv):Prop where
  k:kd = 0∨kd = 1
  r:Rg x.lo x.hi
  d:¬ same x.lo x.hi
  s:∀ s ∈ x.st,vst kd s
def Iv.mid (kd:Int) (x:Iv) (c:Int):Int:=Co.mid x.lo x.hi (pr kd (x.st.getD c.toNat 0))
def Iv.clo (kd:Int) (x:Iv) (c b:Int):Int:=if b = 1 then x.lo else x.mid kd c + 1
def Iv.chi (kd:Int) (x:Iv) (c b:Int):Int:=if b = 1 then x.mid kd c else x.hi
def Iv.many (kd:Int) (x:Iv) (c b:Int):Nat:=(nrm 5 (x.clo kd c b) (x.chi kd c b)).1
def Iv.bytes (kd:Int) (x:Iv) (c b:Int):List Int:=nrmB 5 (x.clo kd c b) (x.chi kd c b)
def Iv.next (kd:Int) (x:Iv) (c b:Int):Iv:=
  ⟨x.st.set c.toNat (nx kd (x.st.getD c.toNat 0) b),(nrm 5 (x.clo kd c b) (x.chi kd c b)).2.1,(nrm 5 (x.clo kd c b) (x.chi kd c b)).2.2⟩
theorem Iv.bytes_len (kd:Int) (x:Iv) (c b:Int):(x.bytes kd c b).length = x.many kd c b:=nrmB_len _ _ _
theorem Iv.next_len (kd:Int) (x:Iv) (c b:Int):(x.next kd c b).st.length = x.st.length:=by simp [Iv.next]
theorem Iv.Ok.get {kd:Int} {x:Iv} (h:x.Ok kd) {c:Int} (h0:0≤c) (h1:c < x.st.length):vst kd (x.st.getD c.toNat 0):=h.s _ (getD_mem (by omega) 0)
theorem Iv.Ok.mid_in {kd:Int} {x:Iv} (h:x.Ok kd) {c:Int} (h0:0≤c) (h1:c < x.st.length):x.lo≤x.mid kd c∧x.mid kd c < x.hi:=by
  obtain ⟨a,b⟩:=pr_rg h.k (h.get h0 h1)
  exact Co.mid_in (lt_of h.r h.d) a b
theorem Iv.Ok.cut {kd:Int} {x:Iv} (h:x.Ok kd) {c b:Int} (h0:0≤c) (h1:c < x.st.length):Rg (x.clo kd c b) (x.chi kd c b):=by
  have hm:=h.mid_in h0 h1
  obtain ⟨a,b,c⟩:=h.r
  unfold Iv.clo Iv.chi
  split <;> constructor <;> omega
theorem Iv.Ok.next {kd:Int} {x:Iv} (h:x.Ok kd) {c b:Int} (h0:0≤c) (h1:c < x.st.length) (hb:b = 0∨b = 1):(x.next kd c b).Ok kd:=by
  refine ⟨h.k,nrm_rg 5 (h.cut h0 h1),nrm_ends (h.cut h0 h1),fun s hs=> ?_⟩
  rcases List.mem_or_eq_of_mem_set hs with hs | rfl
  · exact h.s s hs
  · exact nx_rg h.k (h.get h0 h1) hb
def run (kd:Int):Iv→List Int→List (Int×Int)→Iv×List Int
  | x,out,[]=>(x,out)
  | x,out,(c,b)::r=>run kd (x.next kd c b) (out++x.bytes kd c b) r
def Evs (n:Nat) (l:List (Int×Int)):Prop:=∀ e ∈ l,0≤e.1∧e.1 < (n:Int)∧(e.2 = 0∨e.2 = 1)
theorem run_append (kd:Int):∀ (a b:List (Int×Int)) (x:Iv) (out:List Int),run kd x out (a++b) = run kd (run kd x out a).1 (run kd x out a).2 b
  | [],b,x,out=>rfl
  | (c,t)::a,b,x,out=>run_append kd a b _ _
theorem run_ok {kd:Int}:∀ (l:List (Int×Int)) {x:Iv} {out:List Int},x.Ok kd→Evs x.st.length l→(run kd x out l).1.Ok kd∧(run kd x out l).1.st.length = x.st.length
  | [],x,out,h,_=>⟨h,rfl⟩
  | (c,b)::r,x,out,h,he=>by
    obtain ⟨h0,h1,hb⟩:=he (c,b) (by simp)
    have h2:=run_ok r (out:=out++x.bytes kd c b) (h.next h0 h1 hb) (by rw [Iv.next_len]; exact fun e he'=>he e (by simp [he']))
    rw [Iv.next_len] at h2
    exact h2
theorem run_len_le {kd:Int}:∀ (l:List (Int×Int)) {x:Iv} {out:List Int},(run kd x out l).2.length≤out.length + 5 * l.length
  | [],x,out=>by simp [run]
  | (c,b)::r,x,out=>by
    have h:=run_len_le r (kd:=kd) (x:=x.next kd c b) (out:=out++x.bytes kd c b)
    have hb:=x.bytes_len kd c b
    have hm:x.many kd c b≤5:=nrm_le _ _ _
    rw [run]
    rw [List.length_append] at h
    simp only [List.length_cons]
    omega
def bitOf (kd:Int) (S:Nat→Int) (x:Iv) (n:Nat) (c:Int):Int:=if win S n≤x.mid kd c then 1 else 0
def endB (lo hi:Int):List Int:=
  if lo≤0 then [] else if lo≤hi / 16777216 * 16777216 then [hi / 16777216] else if lo≤hi / 65536 * 65536 then [hi / 16777216,hi / 65536 % 256]
  else if lo≤hi / 256 * 256 then [hi / 16777216,hi / 65536 % 256,hi / 256 % 256] else [hi / 16777216,hi / 65536 % 256,hi / 256 % 256,hi % 256]
def strm (code:List Int) (n:Nat):Int:=code.getD n 0
theorem strm_byt {code:List Int} (h:∀ v ∈ code,0≤v∧v≤255):Byt (strm code):=by
  intro n
  unfold strm
  by_cases hn:n < code.length
  · exact h _ (getD_mem hn 0)
  · rw [List.getD_eq_getElem?_getD,List.getElem?_eq_none (by omega)]
    simp
def get (kd:Int) (code:List Int) (x:Iv) (k:Nat) (c:Int):Option (Int×Iv×Nat):=
  if code.length < k + x.many kd c (bitOf kd (strm code) x k c) then none
  else some (bitOf kd (strm code) x k c,x.next kd c (bitOf kd (strm code) x k c),k + x.many kd c (bitOf kd (strm code) x k c))
end Go.Proofs.YtipdidpalcmlhaaGreat.Co
namespace Go.Proofs.YtipdidpalcmlhaaGreat.Bm
open Go Ev
theorem cd {α:Sort _} {p:Prop} {i:Decidable p} {x y:α}:(bif @decide p i then x else y) = @ite α p i x y:=by by_cases h:p <;> simp [h]
theorem cb {α:Sort _} {a b:Int} {x y:α}:(bif a==b then x else y) = if a = b then x else y:=by
  by_cases h:a = b
  · simp [h]
  · rw [if_neg h,cond_f (by simpa using h)]
theorem cn {α:Sort _} {a b:Int} {x y:α}:(bif a != b then x else y) = if a = b then y else x:=by
  by_cases h:a = b
  · simp [h]
  · rw [if_neg h,cond_t (by simpa using h)]
theorem mul_le {w h a b:Int} (h0:0≤w) (h1:w≤a) (h2:0≤h) (h3:h≤b):0≤w * h∧w * h≤a * b:=
  ⟨Int.mul_nonneg h0 h2,Int.mul_le_mul h1 h3 h2 (by omega)⟩
def fit (w h:Int):Bool:=decide (0≤w∧0≤h∧w≤200∧h≤200∧w * h≤8192)
theorem fit_iff {w h:Int}:fit w h = true↔0≤w∧0≤h∧w≤200∧h≤200∧w * h≤8192:=by simp [fit]
theorem fits_ok {fl:Nat} {w h:Int} {K:Bool→Option Ans}:F_bitmap_fits fl w h K = K (fit w h):=by
  unfold F_bitmap_fits fit
  simp only [cd]
  split
  · split
    · split
      · split
        · have:=mul_le (a:=200) (b:=200) (show 0≤w by omega) (by omega) (show 0≤h by omega) (by omega)
          rw [wrap64 (by omega) (by omega)]
          exact congrArg K (decide_eq_decide.2 (by omega))
        · exact congrArg K (decide_eq_false (by omega)).symm
      · exact congrArg K (decide_eq_false (by omega)).symm
    · exact congrArg K (decide_eq_false (by omega)).symm
  · exact congrArg K (decide_eq_false (by omega)).symm
def valid (w h:Int) (pix:List Int):Bool:=fit w h&&decide ((pix.length:Int) = w * h)&&pix.all fun x=>decide (x≤1)
theorem valid_iff {w h:Int} {pix:List Int}:valid w h pix = true↔(0≤w∧0≤h∧w≤200∧h≤200∧w * h≤8192)∧(pix.length:Int) = w * h∧∀ x ∈ pix,x≤1:=by
  unfold valid
  rw [Bool.and_eq_true,Bool.and_eq_true,fit_iff,decide_eq_true_eq,List.all_eq_true]
  simp [and_assoc]
theorem fit_mul {w h:Int} (hf:fit w h = true):IntKind.i64.wrap (w * h) = w * h:=by
  obtain ⟨h1,h2,h3,h4,h5⟩:=fit_iff.1 hf
  have:=mul_le (a:=200) (b:=200) h1 h3 h2 h4
  exact wrap64 (by omega) (by omega)
theorem valid_ok {fl:Nat} (hfl:9223372036854775808≤fl) {w h:Int} {pix:List Int} {K:Bool→Option Ans}:F_bitmap_Valid fl w h pix K = K (valid w h pix):=by
  unfold F_bitmap_Valid Fg_bitmap_Valid
  rw [fits_ok]
  unfold valid
  cases hf:fit w h with
  | false=>rfl
  | true=>
  rw [cond_f (b:=!true) rfl,fit_mul hf,cn]
  obtain ⟨h1,h2,h3,h4,h5⟩:=fit_iff.1 hf
  split
  rotate_left
  · rename_i hne
    rw [decide_eq_false hne]
    rfl
  rename_i he
  rw [decide_eq_true he]
  simp only [Bool.true_and]
  unfold L_bitmap_Valid_0
  rcases all_or_first (fun x=>decide (x≤1)) 0 pix with ha | ⟨n,hn,hb,hi⟩
  · rw [ha]
    refine iter_seq (step:=S_bitmap_Valid_0 fl) (fun i:Nat=>(pix,(pix.length:Int),(i:Int))) pix.length rfl (fun i hi c=> ?_) (fun c=> ?_) (by omega)
    · have g:=all_getD ha 0 hi
      simp only [decide_eq_true_eq] at g
      simp (disch:=omega) only [S_bitmap_Valid_0,Sg_bitmap_Valid_0,dec_t,dec_f,wrap64,Int.toNat_natCast]
      rfl
    · simp (disch:=omega) only [S_bitmap_Valid_0,Sg_bitmap_Valid_0,dec_f]
  · rw [not_all hn hb]
    refine iter_seq (step:=S_bitmap_Valid_0 fl) (fun i:Nat=>(pix,(pix.length:Int),(i:Int))) n rfl (fun i hin c=> ?_) (fun c=> ?_) (by omega)
    · have g:=hi i hin
      simp only [decide_eq_true_eq] at g
      simp (disch:=omega) only [S_bitmap_Valid_0,Sg_bitmap_Valid_0,dec_t,dec_f,wrap64,Int.toNat_natCast]
      rfl
    · simp only [decide_eq_false_iff_not] at hb
      simp (disch:=omega) only [S_bitmap_Valid_0,Sg_bitmap_Valid_0,dec_t,Int.toNat_natCast]
def ins (w h x y:Int):Prop:=0≤x∧0≤y∧x < w∧y < h
instance {w h x y:Int}:Decidable (ins w h x y):=by unfold ins; infer_instance
def px (w h:Int) (pix:List Int) (x y:Int):Int:=if ins w h x y then pix.getD (y * w + x).toNat 0 else 0
theorem place {w h x y:Int} (hi:ins w h x y):0≤y * w + x∧y * w + x < w * h:=by
  obtain ⟨h1,h2,h3,h4⟩:=hi
  have a:0≤y * w:=Int.mul_nonneg h2 (by omega)
  have b:(y + 1) * w≤h * w:=Int.mul_le_mul_of_nonneg_right (by omega) (by omega)
  rw [Int.add_mul,Int.one_mul,Int.mul_comm h w] at b
  omega
theorem place_y {w h x y:Int} (hi:ins w h x y):0≤y * w∧y * w < w * h:=by
  obtain ⟨h1,h2,h3,h4⟩:=hi
  have a:0≤y * w:=Int.mul_nonneg h2 (by omega)
  have b:(y + 1) * w≤h * w:=Int.mul_le_mul_of_nonneg_right (by omega) (by omega)
  rw [Int.add_mul,Int.one_mul,Int.mul_comm h w] at b
  omega
theorem px_01 {w h:Int} {pix:List Int} (h0:∀ v ∈ pix,0≤v∧v≤1) (x y:Int):0≤px w h pix x y∧px w h pix x y≤1:=by
  unfold px
  split
  · by_cases hl:(y * w + x).toNat < pix.length
    · exact h0 _ (getD_mem hl 0)
    · rw [List.getD_eq_getElem?_getD,List.getElem?_eq_none (by omega)]
      simp
  · omega
end Go.Proofs.YtipdidpalcmlhaaGreat.Bm
namespace Go.Proofs.YtipdidpalcmlhaaGreat.Co
open Go Ev
theorem wrapU {x:Int} (h1:0≤x) (h2:x < 18446744073709551616):IntKind.u64.wrap x = x:=by
  simp [IntKind.wrap,IntKind.min,IntKind.max,IntKind.signed,IntKind.bits]
  omega
theorem shrU {x:Int} (h:0≤x):ishr .u64 x 24 = x / 16777216:=by
  unfold ishr
  have hb:min (24:Int).toNat IntKind.u64.bits = 24:=by decide
  rw [hb,Int.fdiv_eq_ediv_of_nonneg _ (by decide)]
  rfl
theorem nlU {x:Int} (h1:0≤x) (h2:x < 4294967296):iand .u64 (ishl .u64 x 8) 4294967295 = nl x:=by
  unfold ishl
  have hb:min (8:Int).toNat IntKind.u64.bits = 8:=by decide
  have e:x * 2 ^ 8 = x * 256:=rfl
  rw [hb,e,wrapU (by omega) (by omega)]
  unfold iand nl
  have e1:IntKind.u64.bits = 64:=rfl
  rw [e1,BitVec.toNat_and,ofInt_toNat (by omega) (by omega),ofInt_toNat (by omega) (by omega)]
  have h3:(x * 256).toNat&&& (4294967295:Int).toNat = (x * 256).toNat % 2 ^ 32:=Nat.and_two_pow_sub_one_eq_mod _ 32
  rw [h3,wrapU (by omega) (by omega)]
  omega
theorem nhU {x:Int} (h1:0≤x) (h2:x < 4294967296):ior .u64 (iand .u64 (ishl .u64 x 8) 4294967295) 255 = nh x:=by
  rw [nlU h1 h2]
  unfold ior nh nl
  have e1:IntKind.u64.bits = 64:=rfl
  rw [e1,BitVec.toNat_or,ofInt_toNat (by omega) (by omega),ofInt_toNat (by omega) (by omega)]
  have h3:(x % 16777216 * 256).toNat = (x % 16777216).toNat <<< 8:=by rw [Nat.shiftLeft_eq]; omega
  have h4:(255:Int).toNat = 255:=rfl
  rw [h3,h4, ← Nat.shiftLeft_add_eq_or_of_lt (by decide),Nat.shiftLeft_eq,wrapU (by omega) (by omega)]
  omega
theorem byteU {x:Int} (h1:0≤x) (h2:x < 4294967296):IntKind.u8.wrap (ishr .u64 x 24) = x / 16777216:=by
  rw [shrU h1]
  exact wrap8 (by omega) (by omega)
theorem chance0 {fl:Nat}:∀ (n:Fin 64) (K:Int→Option Ans),F_coder_table_chance_bb9 fl 0 (n.val:Int) K = K (pr 0 (n.val:Int))
  | ⟨0,_⟩,K=>rfl
  | ⟨1,_⟩,K=>rfl
  | ⟨2,_⟩,K=>rfl
  | ⟨3,_⟩,K=>rfl
  | ⟨4,_⟩,K=>rfl
  | ⟨5,_⟩,K=>rfl
  | ⟨6,_⟩,K=>rfl
  | ⟨7,_⟩,K=>rfl
  | ⟨8,_⟩,K=>rfl
  | ⟨9,_⟩,K=>rfl
  | ⟨10,_⟩,K=>rfl
  | ⟨11,_⟩,K=>rfl
  | ⟨12,_⟩,K=>rfl
  | ⟨13,_⟩,K=>rfl
  | ⟨14,_⟩,K=>rfl
  | ⟨15,_⟩,K=>rfl
  | ⟨16,_⟩,K=>rfl
  | ⟨17,_⟩,K=>rfl
  | ⟨18,_⟩,K=>rfl
  | ⟨19,_⟩,K=>rfl
  | ⟨20,_⟩,K=>rfl
  | ⟨21,_⟩,K=>rfl
  | ⟨22,_⟩,K=>rfl
  | ⟨23,_⟩,K=>rfl
  | ⟨24,_⟩,K=>rfl
  | ⟨25,_⟩,K=>rfl
  | ⟨26,_⟩,K=>rfl
  | ⟨27,_⟩,K=>rfl
  | ⟨28,_⟩,K=>rfl
  | ⟨29,_⟩,K=>rfl
  | ⟨30,_⟩,K=>rfl
  | ⟨31,_⟩,K=>rfl
  | ⟨32,_⟩,K=>rfl
  | ⟨33,_⟩,K=>rfl
  | ⟨34,_⟩,K=>rfl
  | ⟨35,_⟩,K=>rfl
  | ⟨36,_⟩,K=>rfl
  | ⟨37,_⟩,K=>rfl
  | ⟨38,_⟩,K=>rfl
  | ⟨39,_⟩,K=>rfl
  | ⟨40,_⟩,K=>rfl
  | ⟨41,_⟩,K=>rfl
  | ⟨42,_⟩,K=>rfl
  | ⟨43,_⟩,K=>rfl
  | ⟨44,_⟩,K=>rfl
  | ⟨45,_⟩,K=>rfl
  | ⟨46,_⟩,K=>rfl
  | ⟨47,_⟩,K=>rfl
  | ⟨48,_⟩,K=>rfl
  | ⟨49,_⟩,K=>rfl
  | ⟨50,_⟩,K=>rfl
  | ⟨51,_⟩,K=>rfl
  | ⟨52,_⟩,K=>rfl
  | ⟨53,_⟩,K=>rfl
  | ⟨54,_⟩,K=>rfl
  | ⟨55,_⟩,K=>rfl
  | ⟨56,_⟩,K=>rfl
  | ⟨57,_⟩,K=>rfl
  | ⟨58,_⟩,K=>rfl
  | ⟨59,_⟩,K=>rfl
  | ⟨60,_⟩,K=>rfl
  | ⟨61,_⟩,K=>rfl
  | ⟨62,_⟩,K=>rfl
  | ⟨63,_⟩,K=>rfl
  | ⟨n + 64,h⟩,_=>absurd h (by omega)
theorem tdiv_e {x k:Int} (h:0≤x):x.tdiv k = x / k:=Int.tdiv_eq_ediv_of_nonneg h
theorem tmod_e {x k:Int} (h:0≤x):x.tmod k = x % k:=Int.tmod_eq_emod_of_nonneg h
theorem chance {fl:Nat} {kd s:Int} (hk:kd = 0∨kd = 1) (h:vst kd s) {K:Int→Option Ans}:F_coder_table_chance_bb9 fl kd s K = K (pr kd s):=by
  rcases hk with rfl | rfl
  · obtain ⟨h0,h1⟩:=h
    have h1:s < 64:=h1
    have:=chance0 (fl:=fl) ⟨s.toNat,by omega⟩ K
    simp only at this
    rwa [show ((s.toNat:Nat):Int) = s by omega] at this
  · obtain ⟨h0,h1⟩:=h
    have h1:s < 65536:=h1
    unfold F_coder_table_chance_bb9 pr
    rw [cond_t (b:=(1:Int)==1) rfl,if_pos rfl,tdiv_e h0,tmod_e h0]
    have a0:0≤s / 256:=by omega
    have a1:s / 256≤255:=by omega
    have b0:0≤s % 256:=by omega
    have b1:s % 256≤255:=by omega
    generalize s / 256 = a at *
    generalize s % 256 = b at *
    rw [w6 (x:=a),w6 (x:=2 * a),w6 (x:=2 * b),w6 (x:=2 * a + 2 * b),w6 (x:=2 * a + 2 * b + 2),
      w6 (x:=2 * b + 1),w6 (x:=(2 * b + 1) * 4096),tdiv_e (by omega)]
    have q0:0≤(2 * b + 1) * 4096 / (2 * a + 2 * b + 2):=Int.ediv_nonneg (by omega) (by omega)
    have q1:(2 * b + 1) * 4096 / (2 * a + 2 * b + 2)≤(2 * b + 1) * 4096:=Int.ediv_le_self _ (by omega)
    rw [dec_f (by omega),wrap64 (by omega) (by omega)]
    generalize (2 * b + 1) * 4096 / (2 * a + 2 * b + 2) = z at *
    congr 1
    by_cases c1:1 > z
    · rw [dec_t c1,dec_f (by omega),Int.max_eq_right (by omega),Int.min_eq_left (by omega)]
    · rw [dec_f c1,Int.max_eq_left (by omega)]
      by_cases c2:4095 < z
      · rw [dec_t c2,Int.min_eq_right (by omega)]
      · rw [dec_f c2,Int.min_eq_left (by omega)]
theorem next {fl:Nat} {kd s b:Int} (hk:kd = 0∨kd = 1) (h:vst kd s) (hb:b = 0∨b = 1) {K:Int→Option Ans}:F_coder_next fl kd s b K = K (nx kd s b):=by
  obtain ⟨h0,h1⟩:=h
  unfold F_coder_next nx
  rw [tdiv_e h0,tdiv_e h0,tmod_e h0,tmod_e h0]
  rcases hk with rfl | rfl
  · have h1:s < 64:=h1
    rw [cond_f (b:=(0:Int)==1) rfl,if_neg (by decide)]
    have a0:0≤s / 32:=by omega
    have a1:s / 32≤1:=by omega
    have b0:0≤s % 32:=by omega
    have b1:s % 32≤31:=by omega
    generalize s / 32 = m at *
    generalize s % 32 = k at *
    have t4:k.tdiv 4 = k / 4:=tdiv_e b0
    rw [w6 (x:=m),t4,w6 (x:=k + 1),w6 (x:=32 * m)]
    rw [Bm.cb,Bm.cb]
    by_cases c1:b = m
    · rw [if_pos c1,if_pos c1]
      by_cases c2:31 < k + 1
      · rw [dec_t c2,wrap64 (by omega) (by omega),Int.min_eq_right (by omega)]
      · rw [dec_f c2,wrap64 (by omega) (by omega),Int.min_eq_left (by omega)]
    · rw [if_neg c1,if_neg c1]
      by_cases c2:k = 0
      · rw [if_pos c2,if_pos c2,w6 (x:=32 * b),wrap64 (by omega) (by omega),c2,Int.add_zero]
      · rw [if_neg c2,if_neg c2,w6 (x:=k / 4),w6 (x:=1 + k / 4),w6 (x:=k - (1 + k / 4)),wrap64 (by omega) (by omega)]
  · have h1:s < 65536:=h1
    rw [cond_t (b:=(1:Int)==1) rfl,if_pos rfl]
    have a0:0≤s / 256:=by omega
    have a1:s / 256≤255:=by omega
    have b0:0≤s % 256:=by omega
    have b1:s % 256≤255:=by omega
    generalize s / 256 = m at *
    generalize s % 256 = k at *
    have t2:k.tdiv 2 = k / 2:=tdiv_e b0
    have t3:m.tdiv 2 = m / 2:=tdiv_e a0
    have w1:IntKind.i64.wrap m = m:=wrap64 (by omega) (by omega)
    have w2:IntKind.i64.wrap (m / 2) = m / 2:=wrap64 (by omega) (by omega)
    have w3:IntKind.i64.wrap (k / 2) = k / 2:=wrap64 (by omega) (by omega)
    rw [w1,t2,t3,w2,w3]
    rcases hb with rfl | rfl
    · rw [dec_t (p:=(0:Int)≤0∧(0:Int) < ((2:Nat):Int)) (by decide),dec_t (p:=(0:Int) = ((0:Nat):Int)) rfl,if_pos rfl,Bm.cb]
      by_cases c1:m = 255
      · rw [if_pos c1,if_pos c1]
        simp (disch:=decide) only [dec_t]
        rw [w6 (x:=m / 2 + 1),w6 (x:=256 * (m / 2 + 1)),wrap64 (by omega) (by omega)]
        congr 1
        omega
      · rw [if_neg c1,if_neg c1]
        simp (disch:=decide) only [dec_t]
        rw [w6 (x:=m + 1),w6 (x:=256 * (m + 1)),wrap64 (by omega) (by omega)]
    · rw [dec_t (p:=(0:Int)≤1∧(1:Int) < ((2:Nat):Int)) (by decide),dec_f (p:=(1:Int) = ((0:Nat):Int)) (by decide),dec_t (p:=(1:Int) = ((1:Nat):Int)) rfl,if_neg (by decide),Bm.cb]
      by_cases c1:k = 255
      · rw [if_pos c1,if_pos c1]
        simp (disch:=decide) only [dec_t,dec_f]
        rw [w6 (x:=k / 2 + 1),w6 (x:=256 * (m / 2)),wrap64 (by omega) (by omega)]
        congr 1
        omega
      · rw [if_neg c1,if_neg c1]
        simp (disch:=decide) only [dec_t,dec_f]
        rw [w6 (x:=k + 1),w6 (x:=256 * m),wrap64 (by omega) (by omega)]
open Go Ev
theorem shiftsB {V B:Type} {step:V→(V→Option Ans)→B→Option Ans} {b:B} {r:Option Ans} (N:Nat) (σ:List Int→Int→Int→V)
    (hstep:∀ o lo hi c,Rg lo hi→same lo hi→o.length < N→step (σ o lo hi) c b = c (σ (o++ [lo / 16777216]) (nl lo) (nh hi)))
    :∀ (n:Nat) (o:List Int) (lo hi:Int) (m:Nat),Rg lo hi→¬ same (nrm n lo hi).2.1 (nrm n lo hi).2.2→n < m→o.length + n≤N→(∀ c,step (σ (o++nrmB n lo hi) (nrm n lo hi).2.1 (nrm n lo hi).2.2) c b = r)→iter step m (σ o lo hi) b = r
  | n,o,lo,hi,0,_,_,hm,_,_=>by omega
  | 0,o,lo,hi,m + 1,hr,hs,hm,hN,hn=>by
    have:=hn (fun v=>iter step m v b)
    simp only [nrmB,List.append_nil] at this
    exact this
  | n + 1,o,lo,hi,m + 1,hr,hs,hm,hN,hn=>by
    simp only [iter]
    by_cases h:same lo hi
    · rw [hstep o lo hi _ hr h (by omega)]
      refine shiftsB N σ hstep n (o++ [lo / 16777216]) (nl lo) (nh hi) m (hr.next h) (by rw [← nrm_same h]; exact hs) (by omega) (by simp; omega) fun c=> ?_
      have e:=hn c
      rw [nrm,if_pos h,nrmB,if_pos h] at e
      rw [List.append_assoc]
      exact e
    · have e:=hn (fun v=>iter step m v b)
      rw [nrm,if_neg h,nrmB,if_neg h,List.append_nil] at e
      exact e
theorem mid_ok {fl:Nat} {kd:Int} {x:Iv} (h:x.Ok kd) {c:Int} (h0:0≤c) (h1:c < x.st.length) {real:Bool} {out:List Int} {K:Int×Int×Int×Int×Bool×List Int×List Int→Option Ans}:
    F_coder_interval_mid_402 fl c kd x.lo x.hi real x.st out K = K (x.mid kd c,kd,x.lo,x.hi,real,x.st,out):=by
  unfold F_coder_interval_mid_402 Fg_coder_interval_mid_402 Iv.mid Co.mid
  rw [dec_t ⟨h0,h1⟩,chance h.k (h.get h0 h1)]
  obtain ⟨p1,p2⟩:=pr_rg h.k (h.get h0 h1)
  obtain ⟨r1,r2,r3⟩:=h.r
  obtain ⟨m1,m2,m3,m4⟩:=mid_parts r2 r1 r3 p1 p2
  generalize pr kd (x.st.getD c.toNat 0) = p at *
  rw [wrapU (x:=x.hi - x.lo) (by omega) (by omega),tdiv_e (by omega),tmod_e (by omega),wrapU (x:=p) (by omega) (by omega),wrapU (x:=(x.hi - x.lo) / 4096) (by omega) (by omega),
    wrapU (x:=(x.hi - x.lo) / 4096 * p) (by omega) (by omega),wrapU (x:=(x.hi - x.lo) % 4096 * p) (by omega) (by omega),tdiv_e m3,wrapU (x:=x.lo + (x.hi - x.lo) / 4096 * p) (by omega) (by omega),
    wrapU (x:=(x.hi - x.lo) % 4096 * p / 4096) (by omega) (by omega),wrapU (by omega) (by omega)]
theorem take_ok {fl:Nat} {kd:Int} {x:Iv} (h:x.Ok kd) {c b:Int} (h0:0≤c) (h1:c < x.st.length) (hb:b = 0∨b = 1) {real:Bool} {out:List Int} {K:Int×Int×Int×Bool×List Int×List Int→Option Ans}:
    F_coder_interval_take_546 fl c b (x.mid kd c) kd x.lo x.hi real x.st out K = K (kd,x.clo kd c b,x.chi kd c b,real,x.st.set c.toNat (nx kd (x.st.getD c.toNat 0) b),out):=by
  have hm:=h.mid_in h0 h1
  obtain ⟨r1,r2,r3⟩:=h.r
  unfold F_coder_interval_take_546 Fg_coder_interval_take_546 Iv.clo Iv.chi
  simp only [next h.k (h.get h0 h1) hb]
  rcases hb with rfl | rfl
  · rw [cond_f (b:=(0:Int)==1) rfl,dec_t ⟨h0,h1⟩,dec_t ⟨h0,h1⟩,if_neg (by decide),if_neg (by decide),wrapU (by omega) (by omega)]
  · rw [cond_t (b:=(1:Int)==1) rfl,dec_t ⟨h0,h1⟩,dec_t ⟨h0,h1⟩,if_pos rfl,if_pos rfl]
theorem put_loop {fl:Nat} (hfl:9223372036854775808≤fl) {kd lo hi:Int} (hr:Rg lo hi) {real:Bool} {st out:List Int} (ho:out.length≤1000000000) {K:Int×Int×Int×Bool×List Int×List Int→Option Ans}:
    L_coder_Encoder_Put_cf0_1 fl (kd,lo,hi,real,st,out) K = K (kd,(nrm 5 lo hi).2.1,(nrm 5 lo hi).2.2,real,st,out++nrmB 5 lo hi):=by
  unfold L_coder_Encoder_Put_cf0_1
  refine shiftsB (step:=S_coder_Encoder_Put_cf0_1 fl) 1000000100 (fun o lo hi=>(kd,lo,hi,real,st,o)) (fun o lo hi c hr hs hl=> ?_) 5 out lo hi fl hr (nrm_ends hr) (by omega) (by omega) fun c=> ?_
  · obtain ⟨r1,r2,r3⟩:=hr
    simp only [S_coder_Encoder_Put_cf0_1,Sg_coder_Encoder_Put_cf0_1,F_coder_interval_same_a20,F_coder_interval_lose_a20,both_same]
    rw [shrU (x:=lo) r1,shrU (x:=hi) (by omega),cond_t (b:=lo / 16777216==hi / 16777216) (beq_iff_eq.2 hs),dec_t (by simp; omega),nlU r1 (by omega),nhU (by omega) r3, ← shrU (x:=lo) r1,byteU r1 (by omega),shrU r1]
  · have hr':=nrm_rg 5 hr
    have hs':=nrm_ends hr
    generalize (nrm 5 lo hi).2.1 = lo' at *
    generalize (nrm 5 lo hi).2.2 = hi' at *
    obtain ⟨r1,r2,r3⟩:=hr'
    simp only [S_coder_Encoder_Put_cf0_1,Sg_coder_Encoder_Put_cf0_1,F_coder_interval_same_a20]
    rw [shrU (x:=lo') r1,shrU (x:=hi') (by omega),cond_f (b:=lo' / 16777216==hi' / 16777216) (beq_eq_false_iff_ne.2 hs')]
theorem put_ok {fl:Nat} (hfl:9223372036854775808≤fl) {kd:Int} {x:Iv} (h:x.Ok kd) {c b:Int} (h0:0≤c) (h1:c < x.st.length) (hb:b = 0∨b = 1) {out:List Int} (ho:out.length≤1000000000)
    {k0 k1:Int×Int×Int×Int×Bool×List Int×List Int→Option Ans}:
    F_coder_Encoder_Put_cf0 fl c b kd x.lo x.hi true x.st out k0 k1 = k1 (0,kd,(x.next kd c b).lo,(x.next kd c b).hi,true,(x.next kd c b).st,out++x.bytes kd c b):=by
  unfold F_coder_Encoder_Put_cf0 Fg_coder_Encoder_Put_cf0 F_coder_Encoder_none_a20
  dsimp only
  rw [cond_f (b:=!true) rfl,dec_f (by omega),dec_f (by omega)]
  simp only [mid_ok h h0 h1,take_ok h h0 h1 hb,put_loop hfl (h.cut (b:=b) h0 h1) ho]
  rcases hb with rfl | rfl
  · rw [cond_f (b:=(0:Int) != 0) rfl]
    rfl
  · rw [cond_t (b:=(1:Int) != 0) rfl,cond_f (b:=(1:Int) != 1) rfl]
    rfl
theorem put_bad {fl:Nat} {kd lo hi:Int} {st out:List Int} {k0 k1:Int×Int×Int×Int×Bool×List Int×List Int→Option Ans}:
    F_coder_Encoder_Put_cf0 fl (-1) 0 kd lo hi true st out k0 k1 = k0 (2,kd,lo,hi,true,st,out):=by
  unfold F_coder_Encoder_Put_cf0 Fg_coder_Encoder_Put_cf0 F_coder_Encoder_none_a20
  dsimp only
  rw [cond_f (b:=!true) rfl,dec_t (by omega)]
theorem clone_ok {fl:Nat} {kd:Int} {st:List Int} (h:st.length≤1000000) {K:Int×List Int→Option Ans}:F_coder_clone fl kd st K = K (kd,st):=by
  unfold F_coder_clone
  rw [dec_t (by omega),List.nil_append]
theorem begin_ok {fl:Nat} {kd:Int} {st:List Int} (h:st.length≤1000000) {K:Int×Int×Int×List Int→Option Ans}:F_coder_begin fl kd st K = K (kd,0,4294967295,st):=by
  unfold F_coder_begin Fg_coder_begin F_coder_chances
  rw [clone_ok h]
def vM (kd:Int) (st:List Int):Bool:=decide (kd = 0∨kd = 1)&&decide (st.length≤8192)&&st.all fun s=>decide (0≤s∧s < most kd)
theorem valid_loop {fl:Nat} (hfl:9223372036854775808≤fl) {e:Int} {st:List Int} (hl:st.length≤8192) {ret:Bool→Option Ans} {b:Unit→Option Ans}:
    L_coder_Valid_0 fl (e,st,(st.length:Int),0) ret b = if st.all (fun s=>decide (0≤s∧s < e)) = true then b () else ret false:=by
  unfold L_coder_Valid_0
  rcases all_or_first (fun s=>decide (0≤s∧s < e)) 0 st with ha | ⟨n,hn,hb,hi⟩
  · rw [if_pos ha]
    refine iter_to (step:=S_coder_Valid_0 fl) (fun i:Nat=>(e,st,(st.length:Int),(i:Int))) st.length (fun i hi c=> ?_) (fun c=> ?_) (by omega)
    · have g:=all_getD ha 0 hi
      simp only [decide_eq_true_eq] at g
      simp only [S_coder_Valid_0]
      rw [dec_t (by omega),dec_t (by omega),Int.toNat_natCast,dec_f (by omega),dec_f (by omega),wrap64 (by omega) (by omega)]
      rfl
    · simp only [S_coder_Valid_0]
      rw [dec_f (by omega)]
  · rw [if_neg (by rw [not_all hn hb]; simp)]
    refine iter_to (step:=S_coder_Valid_0 fl) (fun i:Nat=>(e,st,(st.length:Int),(i:Int))) n (fun i hin c=> ?_) (fun c=> ?_) (by omega)
    · have g:=hi i hin
      simp only [decide_eq_true_eq] at g
      simp only [S_coder_Valid_0]
      rw [dec_t (by omega),dec_t (by omega),Int.toNat_natCast,dec_f (by omega),dec_f (by omega),wrap64 (by omega) (by omega)]
      rfl
    · simp only [decide_eq_false_iff_not] at hb
      simp only [S_coder_Valid_0]
      rw [dec_t (by omega),dec_t (by omega),Int.toNat_natCast]
      by_cases h0:st.getD n 0 < 0
      · rw [dec_t h0]
      · rw [dec_f h0,dec_t (by omega)]
theorem cvalid {fl:Nat} (hfl:9223372036854775808≤fl) {kd:Int} {st:List Int} {K:Bool→Option Ans}:F_coder_Valid fl kd st K = K (vM kd st):=by
  unfold F_coder_Valid vM
  by_cases hk:kd = 0∨kd = 1
  · by_cases hl:st.length≤8192
    · rcases hk with rfl | rfl
      · rw [cond_f (b:=(0:Int) != 0) rfl,dec_f (by omega),cond_f (b:=(0:Int)==1) rfl,valid_loop hfl hl,decide_eq_true hl]
        show (if (st.all fun s=>decide (0≤s∧s < 64)) = true then K true else K false) = K (true&&true&&st.all fun s=>decide (0≤s∧s < 64))
        cases st.all _ <;> rfl
      · rw [cond_t (b:=(1:Int) != 0) rfl,cond_f (b:=(1:Int) != 1) rfl,dec_f (by omega),cond_t (b:=(1:Int)==1) rfl,valid_loop hfl hl,decide_eq_true hl]
        show (if (st.all fun s=>decide (0≤s∧s < 65536)) = true then K true else K false) = K (true&&true&&st.all fun s=>decide (0≤s∧s < 65536))
        cases st.all _ <;> rfl
    · simp (disch:=omega) only [dec_t]
      rw [decide_eq_false hl,Bool.and_false,Bool.false_and]
      cases kd != 0 <;> cases kd != 1 <;> rfl
  · have h0:(kd != 0) = true:=by simp; omega
    have h1:(kd != 1) = true:=by simp; omega
    rw [h0,h1,decide_eq_false hk]
    rfl
theorem new_enc {fl:Nat} (hfl:9223372036854775808≤fl) {kd:Int} {st:List Int} (hv:vM kd st = true) {k0:Int→Option Ans} {k1:Int×Int×Int×Int×Bool×List Int×List Int→Option Ans}:
    F_coder_NewEncoder fl kd st k0 k1 = k1 (0,kd,0,4294967295,true,st,[]):=by
  have hl:st.length≤8192:=by
    unfold vM at hv
    simp only [Bool.and_eq_true,decide_eq_true_eq] at hv
    exact hv.1.2
  unfold F_coder_NewEncoder Fg_coder_NewEncoder
  rw [cvalid hfl,hv,cond_f (b:=!true) rfl,begin_ok (by omega)]
theorem ok_new {kd:Int} {st:List Int} (hv:vM kd st = true):(Iv.mk st 0 4294967295).Ok kd:=by
  unfold vM at hv
  simp only [Bool.and_eq_true,decide_eq_true_eq,List.all_eq_true] at hv
  exact ⟨hv.1.1,⟨(show (0:Int)≤0 by decide),(show (0:Int)≤4294967295 by decide),(show (4294967295:Int) < 4294967296 by decide)⟩,(show ¬ same 0 4294967295 by decide),fun s hs=>hv.2 s hs⟩
theorem vM_zeros {kd:Int} (hk:kd = 0∨kd = 1) {n:Nat} (hn:n≤8192):vM kd (List.replicate n 0) = true:=by
  unfold vM most
  simp only [Bool.and_eq_true,decide_eq_true_eq,List.all_eq_true,List.length_replicate]
  refine ⟨⟨hk,hn⟩,fun s hs=> ?_⟩
  have:=(List.mem_replicate.1 hs).2
  split <;> omega
open Go Ev
theorem q_all:∀ k:Fin 32,0≤q k.val∧q k.val≤2048:=by decide
theorem unlikely {fl:Nat} (hfl:9223372036854775808≤fl) {n:Nat} (hn:n < 32) {K:Int→Option Ans}:F_ref02_unlikely fl (n:Int) K = K (q n):=by
  unfold F_ref02_unlikely L_ref02_unlikely_0
  refine iter_to (step:=S_ref02_unlikely_0 fl) (fun i:Nat=>((n:Int),q i,(i:Int))) n (fun i hi c=> ?_) (fun c=> ?_) (by omega)
  · obtain ⟨a,b⟩:=q_all ⟨i,by omega⟩
    simp only at a b
    simp only [S_ref02_unlikely_0]
    rw [dec_t (by omega),tdiv_e a,w6 (x:=q i / 8),w6 (x:=q i - q i / 8),wrap64 (by omega) (by omega)]
    rfl
  · simp only [S_ref02_unlikely_0]
    rw [dec_f (by omega)]
theorem likely {fl:Nat} (hfl:9223372036854775808≤fl) {kd s:Int} (hk:kd = 0∨kd = 1) (h:vst kd s) {K:Int→Option Ans}:F_ref02_Likely fl kd s K = K (pr kd s):=by
  rcases hk with rfl | rfl
  · obtain ⟨h0,h1⟩:=h
    have h1:s < 64:=h1
    unfold F_ref02_Likely Fg_ref02_Likely pr
    have e:s.tmod 32 = ((s.toNat % 32:Nat):Int):=by rw [tmod_e h0]; omega
    rw [cond_t (b:=(0:Int)==0) rfl,e,unlikely hfl (by omega),if_neg (by decide)]
    try dsimp only
    by_cases c1:s < 32
    · rw [dec_t c1,if_neg (by omega),show s.toNat % 32 = s.toNat by omega]
    · rw [dec_f c1,if_pos (by omega),unlikely hfl (by omega),show s.toNat % 32 = (s - 32).toNat by omega]
      obtain ⟨a,b⟩:=q_all ⟨(s - 32).toNat,by omega⟩
      simp only at a b
      rw [wrap64 (by omega) (by omega)]
  · exact (show F_ref02_Likely fl 1 s K = F_coder_table_chance_bb9 fl 1 s K from rfl).trans (chance (.inr rfl) h)
theorem after {fl:Nat} {kd s b:Int} (hk:kd = 0∨kd = 1) (h:vst kd s) (hb:b = 0∨b = 1) {K:Int→Option Ans}:F_ref02_After fl kd s b K = K (nx kd s b):=by
  rcases hk with rfl | rfl
  · obtain ⟨h0,h1⟩:=h
    have h1:s < 64:=h1
    unfold F_ref02_After nx
    rw [tdiv_e h0,tmod_e h0,cond_t (b:=(0:Int)==0) rfl,if_neg (by decide)]
    have a0:0≤s / 32:=by omega
    have a1:s / 32≤1:=by omega
    have b0:0≤s % 32:=by omega
    have b1:s % 32≤31:=by omega
    generalize s / 32 = m at *
    generalize s % 32 = k at *
    have t4:k.tdiv 4 = k / 4:=tdiv_e b0
    rw [w6 (x:=m),t4,w6 (x:=k + 1),w6 (x:=32 * m),w6 (x:=32 * m + k)]
    rw [Bm.cb,Bm.cb]
    by_cases c1:b = m
    · rw [if_pos c1,if_pos c1]
      by_cases c2:31 < k + 1
      · rw [dec_t c2,wrap64 (by omega) (by omega),Int.min_eq_right (by omega)]
      · rw [dec_f c2,wrap64 (by omega) (by omega),Int.min_eq_left (by omega)]
    · rw [if_neg c1,if_neg c1]
      by_cases c2:k = 0
      · rw [if_pos c2,if_pos c2,wrap64 (by omega) (by omega)]
      · rw [if_neg c2,if_neg c2,w6 (x:=32 * m + k - 1),w6 (x:=k / 4),wrap64 (by omega) (by omega)]
        congr 1
        omega
  · exact (show F_ref02_After fl 1 s b K = F_coder_next fl 1 s b K from rfl).trans (next (.inr rfl) h hb)
theorem rmid {fl:Nat} {lo hi p:Int} (hr:Rg lo hi) (p1:1≤p) (p2:p≤4095) {K:Int→Option Ans}:F_ref02_Interval_Mid fl lo hi p K = K (Co.mid lo hi p):=by
  unfold F_ref02_Interval_Mid Co.mid
  obtain ⟨r1,r2,r3⟩:=hr
  obtain ⟨m1,m2,m3,m4⟩:=mid_parts r2 r1 r3 p1 p2
  rw [wrapU (x:=hi - lo) (by omega) (by omega),tdiv_e (by omega),tmod_e (by omega),wrapU (x:=p) (by omega) (by omega),wrapU (x:=(hi - lo) / 4096) (by omega) (by omega),
    wrapU (x:=(hi - lo) / 4096 * p) (by omega) (by omega),wrapU (x:=(hi - lo) % 4096 * p) (by omega) (by omega),tdiv_e m3,wrapU (x:=lo + (hi - lo) / 4096 * p) (by omega) (by omega),
    wrapU (x:=(hi - lo) % 4096 * p / 4096) (by omega) (by omega),wrapU (by omega) (by omega)]
theorem rpart {fl:Nat} {kd:Int} {x:Iv} (h:x.Ok kd) {c b:Int} (h0:0≤c) (h1:c < x.st.length) (hb:b = 0∨b = 1) {K:Int×Int→Option Ans}:
    F_ref02_Interval_Part fl x.lo x.hi (pr kd (x.st.getD c.toNat 0)) b K = K (x.clo kd c b,x.chi kd c b):=by
  have hm:=h.mid_in h0 h1
  obtain ⟨p1,p2⟩:=pr_rg h.k (h.get h0 h1)
  unfold F_ref02_Interval_Part Fg_ref02_Interval_Part Iv.clo Iv.chi
  rw [rmid h.r p1 p2,rmid h.r p1 p2]
  obtain ⟨r1,r2,r3⟩:=h.r
  have e:Co.mid x.lo x.hi (pr kd (x.st.getD c.toNat 0)) = x.mid kd c:=rfl
  rw [e]
  rcases hb with rfl | rfl
  · rw [cond_f (b:=(0:Int)==1) rfl,if_neg (by decide),if_neg (by decide),wrapU (by omega) (by omega)]
  · rw [cond_t (b:=(1:Int)==1) rfl,if_pos rfl,if_pos rfl]
theorem rfixed {fl:Nat} {lo hi:Int} (hr:Rg lo hi) {K:Bool→Option Ans}:F_ref02_Interval_Fixed fl lo hi K = K (decide (same lo hi)):=by
  obtain ⟨r1,r2,r3⟩:=hr
  unfold F_ref02_Interval_Fixed same
  rw [shrU r1,shrU (by omega)]
  congr 1
theorem rshifted {fl:Nat} {lo hi:Int} (hr:Rg lo hi) {K:Int×Int→Option Ans}:F_ref02_Interval_Shifted fl lo hi K = K (nl lo,nh hi):=by
  obtain ⟨r1,r2,r3⟩:=hr
  unfold F_ref02_Interval_Shifted nl nh
  rw [tmod_e r1,tmod_e (by omega),wrapU (x:=lo % 16777216 * 256) (by omega) (by omega),wrapU (x:=hi % 16777216 * 256) (by omega) (by omega),wrapU (by omega) (by omega)]
theorem rvalid_loop {fl:Nat} (hfl:9223372036854775808≤fl) {e:Int} {st:List Int} (hl:st.length≤8192) {ret:Bool→Option Ans} {b:Unit→Option Ans}:
    L_ref02_Valid_0 fl (e,st,(st.length:Int),0) ret b = if st.all (fun s=>decide (0≤s∧s < e + 1)) = true then b () else ret false:=by
  unfold L_ref02_Valid_0
  rcases all_or_first (fun s=>decide (0≤s∧s < e + 1)) 0 st with ha | ⟨n,hn,hb,hi⟩
  · rw [if_pos ha]
    refine iter_to (step:=S_ref02_Valid_0 fl) (fun i:Nat=>(e,st,(st.length:Int),(i:Int))) st.length (fun i hi c=> ?_) (fun c=> ?_) (by omega)
    · have g:=all_getD ha 0 hi
      simp only [decide_eq_true_eq] at g
      simp only [S_ref02_Valid_0]
      rw [dec_t (by omega),dec_t (by omega),Int.toNat_natCast,dec_f (by omega),dec_f (by omega),wrap64 (by omega) (by omega)]
      rfl
    · simp only [S_ref02_Valid_0]
      rw [dec_f (by omega)]
  · rw [if_neg (by rw [not_all hn hb]; simp)]
    refine iter_to (step:=S_ref02_Valid_0 fl) (fun i:Nat=>(e,st,(st.length:Int),(i:Int))) n (fun i hin c=> ?_) (fun c=> ?_) (by omega)
    · have g:=hi i hin
      simp only [decide_eq_true_eq] at g
      simp only [S_ref02_Valid_0]
      rw [dec_t (by omega),dec_t (by omega),Int.toNat_natCast,dec_f (by omega),dec_f (by omega),wrap64 (by omega) (by omega)]
      rfl
    · simp only [decide_eq_false_iff_not] at hb
      simp only [S_ref02_Valid_0]
      rw [dec_t (by omega),dec_t (by omega),Int.toNat_natCast]
      by_cases h0:st.getD n 0 < 0
      · rw [dec_t h0]
      · rw [dec_f h0,dec_t (by omega)]
theorem rmvalid {fl:Nat} (hfl:9223372036854775808≤fl) {kd:Int} {st:List Int} {K:Bool→Option Ans}:F_ref02_Valid fl kd st K = K (vM kd st):=by
  unfold F_ref02_Valid vM
  by_cases hk:kd = 0∨kd = 1
  · by_cases hl:st.length≤8192
    · rcases hk with rfl | rfl
      · rw [cond_f (b:=(0:Int)==1) rfl,cond_f (b:=(0:Int) != 0) rfl,dec_f (by omega),rvalid_loop hfl hl,decide_eq_true hl]
        show (if (st.all fun s=>decide (0≤s∧s < 64)) = true then K true else K false) = K (true&&true&&st.all fun s=>decide (0≤s∧s < 64))
        cases st.all _ <;> rfl
      · rw [cond_t (b:=(1:Int)==1) rfl,cond_t (b:=(1:Int) != 0) rfl,cond_f (b:=(1:Int) != 1) rfl,dec_f (by omega),rvalid_loop hfl hl,decide_eq_true hl]
        show (if (st.all fun s=>decide (0≤s∧s < 65536)) = true then K true else K false) = K (true&&true&&st.all fun s=>decide (0≤s∧s < 65536))
        cases st.all _ <;> rfl
    · simp (disch:=omega) only [dec_t]
      rw [decide_eq_false hl,Bool.and_false,Bool.false_and]
      cases kd==1 <;> cases kd != 0 <;> cases kd != 1 <;> rfl
  · have h0:(kd != 0) = true:=by simp; omega
    have h1:(kd != 1) = true:=by simp; omega
    rw [h0,h1,decide_eq_false hk]
    cases kd==1 <;> rfl
open Go Ev
def Bytes (l:List Int):Prop:=∀ v ∈ l,0≤v∧v≤255
theorem shlU {x b:Int} (h1:0≤x) (h2:x < 4294967296) (b1:0≤b) (b2:b≤255):ior .u64 (iand .u64 (ishl .u64 x 8) 4294967295) b = x % 16777216 * 256 + b:=by
  rw [nlU h1 h2]
  unfold ior nl
  have e1:IntKind.u64.bits = 64:=rfl
  rw [e1,BitVec.toNat_or,ofInt_toNat (by omega) (by omega),ofInt_toNat (by omega) (by omega)]
  have h3:(x % 16777216 * 256).toNat = (x % 16777216).toNat <<< 8:=by rw [Nat.shiftLeft_eq]; omega
  rw [h3, ← Nat.shiftLeft_add_eq_or_of_lt (by omega),Nat.shiftLeft_eq,wrapU (by omega) (by omega)]
  omega
def byd (code:List Int) (k:Nat):Int:=((4 + k - code.length:Nat):Int)
theorem strm_get {code:List Int} {n:Nat} (h:n < code.length):code.getD n 0 = strm code n:=rfl
theorem strm_out {code:List Int} {n:Nat} (h:¬ n < code.length):strm code n = 0:=by
  unfold strm
  rw [List.getD_eq_getElem?_getD,List.getElem?_eq_none (by omega)]
  rfl
theorem shift_ok {fl:Nat} {kd lo hi:Int} {code:List Int} (hb:Bytes code) (hl:code.length≤10000000) {k:Nat} (hk:k≤100000000) {e r:Bool} {st:List Int} {K:Int×Int×Int×Int×Int×Int×Bool×Bool×List Int×List Int→Option Ans}:
    F_coder_Decoder_shift_40a fl kd lo hi ((4 + k:Nat):Int) (win (strm code) k) (byd code k) e r st code K = K (kd,lo,hi,((4 + (k + 1):Nat):Int),win (strm code) (k + 1),byd code (k + 1),e,r,st,code):=by
  have hS:=strm_byt hb
  obtain ⟨w1,w2⟩:=win_rg hS k
  have hn:=win_next hS k
  unfold F_coder_Decoder_shift_40a
  rw [w6 (x:=((4 + k:Nat):Int) + 1)]
  by_cases h:4 + k < code.length
  · have hv:=hb _ (getD_mem h 0)
    have e4:strm code (4 + k) = strm code (k + 4):=by rw [Nat.add_comm]
    rw [dec_t (by omega),dec_t (by omega),Int.toNat_natCast,wrapU (by omega) (by omega),shlU w1 w2 hv.1 hv.2,strm_get h,e4, ← hn]
    congr 1
    unfold byd
    rw [show 4 + k - code.length = 4 + (k + 1) - code.length by omega]
    rfl
  · rw [dec_f (by omega),wrapU (by omega) (by omega),shlU w1 w2 (by omega) (by omega)]
    have h0:strm code (k + 4) = 0:=strm_out (by omega)
    rw [h0] at hn
    rw [← hn]
    congr 1
    unfold byd
    rw [wrap64 (by omega) (by omega),show ((4 + k - code.length:Nat):Int) + 1 = ((4 + (k + 1) - code.length:Nat):Int) by omega]
    rfl
open Go Ev
theorem wrap8mod {x:Int} (h:0≤x):IntKind.u8.wrap x = x % 256:=by
  simp [IntKind.wrap,IntKind.min,IntKind.max,IntKind.signed,IntKind.bits]
theorem shrN {x:Int} (h:0≤x) {y:Nat} (hy:y≤63):ishr .u64 x (y:Int) = x / 2 ^ y:=by
  unfold ishr
  have hb:min ((y:Int)).toNat IntKind.u64.bits = y:=by
    have:IntKind.u64.bits = 64:=rfl
    rw [this]
    omega
  rw [hb,Int.fdiv_eq_ediv_of_nonneg _ (Int.le_of_lt (Int.pow_pos (by omega)))]
theorem shlN {x:Int} (h:0≤x) {y:Nat} (hy:y≤63) (hx:x * 2 ^ y < 18446744073709551616):ishl .u64 x (y:Int) = x * 2 ^ y:=by
  unfold ishl
  have hb:min ((y:Int)).toNat IntKind.u64.bits = y:=by
    have:IntKind.u64.bits = 64:=rfl
    rw [this]
    omega
  rw [hb]
  exact wrapU (Int.mul_nonneg h (Int.le_of_lt (Int.pow_pos (by omega)))) hx
def topB (hi:Int) (n:Nat):List Int:=(List.range n).map fun i=>hi / 2 ^ (24 - 8 * i) % 256
def topV (hi:Int) (n:Nat):Int:=hi / 2 ^ (32 - 8 * n) * 2 ^ (32 - 8 * n)
theorem topV_rg {hi:Int} (h0:0≤hi) (n:Nat):0≤topV hi n∧topV hi n≤hi:=by
  unfold topV
  have hp:(0:Int) < 2 ^ (32 - 8 * n):=Int.pow_pos (by omega)
  exact ⟨Int.mul_nonneg (Int.ediv_nonneg h0 (Int.le_of_lt hp)) (Int.le_of_lt hp),Int.ediv_mul_le _ (Int.ne_of_gt hp)⟩
theorem topV_step {hi:Int} (h0:0≤hi) (h1:hi < 4294967296) {n:Nat} (hn:n < 4):topV hi (n + 1) = topV hi n + hi / 2 ^ (24 - 8 * n) % 256 * 2 ^ (24 - 8 * n):=by
  unfold topV
  match n,hn with
  | 0,_=>simp; omega
  | 1,_=>simp; omega
  | 2,_=>simp; omega
  | 3,_=>simp; omega
theorem end_first {lo hi:Int} (h:Rg lo hi):∃ n,n < 5∧lo≤topV hi n∧(∀ i,i < n→¬ lo≤topV hi i)∧endB lo hi = topB hi n:=by
  obtain ⟨r1,r2,r3⟩:=h
  have v0:topV hi 0 = hi / 4294967296 * 4294967296:=rfl
  have v1:topV hi 1 = hi / 16777216 * 16777216:=rfl
  have v2:topV hi 2 = hi / 65536 * 65536:=rfl
  have v3:topV hi 3 = hi / 256 * 256:=rfl
  have v4:topV hi 4 = hi / 1 * 1:=rfl
  rcases nat_or_first (fun i=>¬ lo≤topV hi i) 5 with h | ⟨n,hn,hb,hi'⟩
  · exact absurd (by omega) (h 4 (by omega))
  · simp only [Decidable.not_not] at hb
    refine ⟨n,hn,hb,hi', ?_⟩
    unfold endB topB
    match n,hn with
    | 0,_=>rw [if_pos (by omega)]; rfl
    | 1,_=>
      have:=hi' 0 (by omega)
      rw [if_neg (by omega),if_pos (by omega)]
      simp [List.range,List.range.loop]
      omega
    | 2,_=>
      have:=hi' 0 (by omega); have:=hi' 1 (by omega)
      rw [if_neg (by omega),if_neg (by omega),if_pos (by omega)]
      simp [List.range,List.range.loop]
      omega
    | 3,_=>
      have:=hi' 0 (by omega); have:=hi' 1 (by omega); have:=hi' 2 (by omega)
      rw [if_neg (by omega),if_neg (by omega),if_neg (by omega),if_pos (by omega)]
      simp [List.range,List.range.loop]
      omega
    | 4,_=>
      have:=hi' 0 (by omega); have:=hi' 1 (by omega); have:=hi' 2 (by omega); have:=hi' 3 (by omega)
      rw [if_neg (by omega),if_neg (by omega),if_neg (by omega),if_neg (by omega)]
      simp [List.range,List.range.loop]
      omega
theorem topB_succ (hi:Int) (n:Nat):topB hi (n + 1) = topB hi n++ [hi / 2 ^ (24 - 8 * n) % 256]:=range_map_succ _ n
theorem topB_len (hi:Int) (n:Nat):(topB hi n).length = n:=by simp [topB]
theorem endB_len (lo hi:Int):(endB lo hi).length≤4:=by
  unfold endB
  repeat' split
  all_goals simp
theorem end_inner {fl:Nat} (hfl:9223372036854775808≤fl) {n:Nat} (hn:n≤4) {kd lo hi:Int} (h0:0≤hi) {real:Bool} {st out acc:List Int} (hl:acc.length≤1000000000) {K:Int×Int×Int×Bool×List Int×List Int×List Int→Option Ans}:
    L_coder_Encoder_End_a20_2 fl ((n:Int),0,kd,lo,hi,real,st,out,acc) K = K (kd,lo,hi,real,st,out,acc++topB hi n):=by
  unfold L_coder_Encoder_End_a20_2
  refine iter_seq (step:=S_coder_Encoder_End_a20_2 fl) (fun i:Nat=>((n:Int),(i:Int),kd,lo,hi,real,st,out,acc++topB hi i)) n (by simp [topB]) (fun i hi' c=> ?_) (fun c=> ?_) (by omega)
  · simp only [S_coder_Encoder_End_a20_2,Sg_coder_Encoder_End_a20_2]
    have e:(24:Int) - 8 * (i:Int) = ((24 - 8 * i:Nat):Int):=by omega
    rw [dec_t (by omega),w6 (x:=8 * (i:Int)),w6 (x:=24 - 8 * (i:Int)),w6 (x:=(i:Int) + 1),dec_f (by omega),e,shrN h0 (by omega),
      wrap8mod (Int.ediv_nonneg h0 (Int.le_of_lt (Int.pow_pos (by omega)))),dec_t (by simp [topB_len]; omega),topB_succ,List.append_assoc]
    rfl
  · simp only [S_coder_Encoder_End_a20_2,Sg_coder_Encoder_End_a20_2]
    rw [dec_f (by omega)]
theorem end_ok {fl:Nat} (hfl:9223372036854775808≤fl) {kd:Int} {x:Iv} (h:Rg x.lo x.hi) {out:List Int} (hl:out.length≤1000000000) {K:Int×Int×Int×Bool×List Int×List Int×List Int→Option Ans}:
    F_coder_Encoder_End_a20 fl kd x.lo x.hi true x.st out K = K (kd,x.lo,x.hi,true,x.st,out,out++endB x.lo x.hi):=by
  obtain ⟨n,hn,hb,hbe,he⟩:=end_first h
  rw [he]
  obtain ⟨r1,r2,r3⟩:=h
  unfold F_coder_Encoder_End_a20 Fg_coder_Encoder_End_a20 F_coder_Encoder_none_a20
  dsimp only
  rw [cond_f (b:=!true) rfl,dec_t (by omega),List.nil_append]
  unfold L_coder_Encoder_End_a20_0
  have cutv:∀ i:Nat,i < 5→ishl .u64 (ishr .u64 x.hi (IntKind.u64.wrap (IntKind.i64.wrap (32 - IntKind.i64.wrap (8 * (i:Int)))))) (IntKind.u64.wrap (IntKind.i64.wrap (32 - IntKind.i64.wrap (8 * (i:Int))))) = topV x.hi i∧¬ IntKind.u64.wrap (IntKind.i64.wrap (32 - IntKind.i64.wrap (8 * (i:Int)))) < 0:=by
    intro i hi'
    have hx:=topV_rg (hi:=x.hi) (by omega) i
    have e:(32:Int) - 8 * (i:Int) = ((32 - 8 * i:Nat):Int):=by omega
    rw [w6 (x:=8 * (i:Int)),w6 (x:=32 - 8 * (i:Int)),wrapU (by omega) (by omega),e,shrN (by omega) (by omega)]
    refine ⟨?_,by omega⟩
    unfold topV at hx ⊢
    exact shlN (Int.ediv_nonneg (by omega) (Int.le_of_lt (Int.pow_pos (by omega)))) (by omega) (by omega)
  refine iter_to (step:=S_coder_Encoder_End_a20_0 fl) (fun i:Nat=>((i:Int),kd,x.lo,x.hi,true,x.st,out,out)) n (fun i hi' c=> ?_) (fun c=> ?_) (by omega)
  · obtain ⟨c1,c2⟩:=cutv i (by omega)
    simp only [S_coder_Encoder_End_a20_0,Sg_coder_Encoder_End_a20_0]
    rw [dec_t (by omega),dec_f c2,dec_f c2,c1,dec_f (by have:=hbe i hi'; omega),wrap64 (by omega) (by omega)]
    rfl
  · obtain ⟨c1,c2⟩:=cutv n hn
    simp only [S_coder_Encoder_End_a20_0,Sg_coder_Encoder_End_a20_0]
    rw [dec_t (by omega),dec_f c2,dec_f c2,c1,dec_t (by omega),end_inner hfl (by omega) (by omega) hl]
theorem emodel_ok {fl:Nat} {kd lo hi:Int} {st out:List Int} (hl:st.length≤1000000) {K:Int×Int×Int×Int×Bool×List Int×List Int×List Int→Option Ans}:
    F_coder_Encoder_Model_a20 fl kd lo hi true st out K = K (kd,kd,lo,hi,true,st,out,st):=by
  unfold F_coder_Encoder_Model_a20 Fg_coder_Encoder_Model_a20 F_coder_Encoder_none_a20
  dsimp only
  rw [cond_f (b:=!true) rfl,clone_ok hl]
theorem rput_loop {fl:Nat} (hfl:9223372036854775808≤fl) {kd lo hi:Int} (hr:Rg lo hi) {st out:List Int} (ho:out.length≤1000000000) {K:Int×Int×Int×List Int×List Int→Option Ans}:
    L_ref02_Encoder_Put_e89_0 fl (kd,lo,hi,st,out) K = K (kd,(nrm 5 lo hi).2.1,(nrm 5 lo hi).2.2,st,out++nrmB 5 lo hi):=by
  unfold L_ref02_Encoder_Put_e89_0
  refine shiftsB (step:=S_ref02_Encoder_Put_e89_0 fl) 1000000100 (fun o lo hi=>(kd,lo,hi,st,o)) (fun o lo hi c hr hs hl=> ?_) 5 out lo hi fl hr (nrm_ends hr) (by omega) (by omega) fun c=> ?_
  · simp only [S_ref02_Encoder_Put_e89_0,Sg_ref02_Encoder_Put_e89_0,both_same]
    have hb:IntKind.u8.wrap (ishr .u64 hi 24) = lo / 16777216:=by
      rw [byteU (by have:=hr.l; have:=hr.m; omega) hr.h]
      exact hs.symm
    rw [rfixed hr,decide_eq_true hs,cond_true,hb,dec_t (by simp; omega),rshifted hr]
  · simp only [S_ref02_Encoder_Put_e89_0,Sg_ref02_Encoder_Put_e89_0]
    rw [rfixed (nrm_rg 5 hr),decide_eq_false (nrm_ends hr),cond_false]
theorem rput_ok {fl:Nat} (hfl:9223372036854775808≤fl) {kd:Int} {x:Iv} (h:x.Ok kd) {c b:Int} (h0:0≤c) (h1:c < x.st.length) (hb:b = 0∨b = 1) {out:List Int} (ho:out.length≤1000000000)
    {k0 k1:Int×Int×Int×Int×List Int×List Int→Option Ans}:
    F_ref02_Encoder_Put_e89 fl c b kd x.lo x.hi x.st out k0 k1 = k1 (0,kd,(x.next kd c b).lo,(x.next kd c b).hi,(x.next kd c b).st,out++x.bytes kd c b):=by
  unfold F_ref02_Encoder_Put_e89 Fg_ref02_Encoder_Put_e89
  have hd:decide (0≤c∧c < (x.st.length:Int)) = true:=decide_eq_true ⟨h0,h1⟩
  rw [dec_f (by omega),dec_f (by omega)]
  simp only [hd,cond_true,likely hfl h.k (h.get h0 h1),rpart h h0 h1 hb,after h.k (h.get h0 h1) hb,rput_loop hfl (h.cut (b:=b) h0 h1) ho]
  rcases hb with rfl | rfl
  · rw [cond_f (b:=(0:Int) != 0) rfl]
    rfl
  · rw [cond_t (b:=(1:Int) != 0) rfl,cond_f (b:=(1:Int) != 1) rfl]
    rfl
theorem rend_ok {fl:Nat} (hfl:9223372036854775808≤fl) {kd:Int} {x:Iv} (h:Rg x.lo x.hi) {out:List Int} (hl:out.length≤1000000000) {K:Int×Int×Int×List Int×List Int×List Int→Option Ans}:
    F_ref02_Encoder_End_2fe fl kd x.lo x.hi x.st out K = K (kd,x.lo,x.hi,x.st,out,out++endB x.lo x.hi):=by
  have hel:=endB_len x.lo x.hi
  obtain ⟨n,hn,hb,hbe,he⟩:=end_first h
  have hlt:∀ i,i < n→i < 4:=fun i hi'=>by omega
  obtain ⟨r1,r2,r3⟩:=h
  unfold F_ref02_Encoder_End_2fe Fg_ref02_Encoder_End_2fe F_ref02_Interval_End L_ref02_Interval_End_0
  rw [dec_t (by omega),List.nil_append]
  refine iter_seq (step:=S_ref02_Interval_End_0 fl) (fun i:Nat=>(topV x.hi i,x.lo,x.hi,topB x.hi i)) n (by
    have:topV x.hi 0 = 0:=by
      show x.hi / 4294967296 * 4294967296 = 0
      omega
    rw [this]
    rfl) (fun i hi' c=> ?_) (fun c=> ?_) (by omega)
  · have hx:=topV_rg (hi:=x.hi) (by omega) i
    have hx1:=topV_rg (hi:=x.hi) (by omega) (i + 1)
    have hst:=topV_step (hi:=x.hi) (by omega) r3 (hlt i hi')
    have e:(24:Int) - 8 * (i:Int) = ((24 - 8 * i:Nat):Int):=by omega
    have q0:0≤x.hi / 2 ^ (24 - 8 * i):=Int.ediv_nonneg (by omega) (Int.le_of_lt (Int.pow_pos (by omega)))
    have q1:0≤x.hi / 2 ^ (24 - 8 * i) % 256 * 2 ^ (24 - 8 * i):=Int.mul_nonneg (Int.emod_nonneg _ (by omega)) (Int.le_of_lt (Int.pow_pos (by omega)))
    simp only [S_ref02_Interval_End_0]
    rw [topB_len,dec_t (by have:=hbe i hi'; omega),w6 (x:=8 * (i:Int)),w6 (x:=24 - 8 * (i:Int)),dec_f (by omega),e,shrN (by omega) (by omega),dec_t (by simp; omega),dec_f (by omega),dec_f (by omega),
      wrap8mod q0,tmod_e q0,shlN (Int.emod_nonneg _ (by omega)) (by omega) (by omega), ← hst,wrapU (by omega) (by omega),topB_succ]
  · simp only [S_ref02_Interval_End_0]
    rw [dec_f (by omega), ← he,dec_t (by omega)]
theorem rnew_enc {fl:Nat} (hfl:9223372036854775808≤fl) {kd:Int} {st:List Int} (hv:vM kd st = true) {k0:Int→Option Ans} {k1:Int×Int×Int×Int×List Int×List Int→Option Ans}:
    F_ref02_NewEncoder fl kd st k0 k1 = k1 (0,kd,0,4294967295,st,[]):=by
  have hl:st.length≤8192:=by
    unfold vM at hv
    simp only [Bool.and_eq_true,decide_eq_true_eq] at hv
    exact hv.1.2
  unfold F_ref02_NewEncoder Fg_ref02_NewEncoder F_ref02_Copy F_ref02_Whole
  rw [rmvalid hfl,hv,cond_f (b:=!true) rfl,dec_t (by omega),List.nil_append]
theorem remodel_ok {fl:Nat} {kd lo hi:Int} {st out:List Int} (hl:st.length≤1000000) {K:Int×Int×Int×Int×List Int×List Int×List Int→Option Ans}:
    F_ref02_Encoder_Model_2fe fl kd lo hi st out K = K (kd,kd,lo,hi,st,out,st):=by
  unfold F_ref02_Encoder_Model_2fe Fg_ref02_Encoder_Model_2fe F_ref02_Copy
  rw [dec_t (by omega),List.nil_append]
end Go.Proofs.YtipdidpalcmlhaaGreat.Co
namespace Go.Proofs.YtipdidpalcmlhaaGreat.Dc
open Go Ev Bm Co
inductive Dec (α:Type) where
  | ret (a:α)
  | bad (e:Int)
  | get (c:Int) (k:Int→Dec α)
structure S where
  ok:Bool
  x:Iv
  k:Nat
def Dec.run {α:Type} (kx:Int) (code:List Int):Dec α→S→(Int ⊕ α)×S
  | .ret a,s=>(.inr a,s)
  | .bad e,s=>(.inl e,s)
  | .get c f,s=>match Co.get kx code s.x s.k c with
    | some (b,x',k')=>(f b).run kx code ⟨true,x',k'⟩
    | none=>(.inl 6,⟨false,s.x,s.k⟩)
def Dec.All {α:Type} (n:Nat) (P:α→Prop):Dec α→Prop
  | .ret a=>P a
  | .bad e=>e = 3
  | .get c k=>(0≤c∧c < (n:Int))∧∀ b,b = 0∨b = 1→(k b).All n P
theorem Dec.All.mono {α:Type} {n:Nat} {P Q:α→Prop} (h:∀ a,P a→Q a):∀ (d:Dec α),d.All n P→d.All n Q
  | .ret a,hd=>h a hd
  | .bad _,hd=>hd
  | .get c k,hd=>⟨hd.1,fun b hb=>Dec.All.mono h (k b) (hd.2 b hb)⟩
structure St (kx:Int) (code:List Int) (n:Nat) (s:S):Prop where
  ok:s.ok = true
  x:s.x.Ok kx
  sl:s.x.st.length = n
  k:s.k≤code.length
open Go Ev Bm Co
def digC (c j:Nat):Int:=if j = 0 then 23 + c else min (43 + j) 47
def digEv (base:Int) (v c:Nat):Nat→List (Int×Int)
  | 0=>[]
  | j + 1=>digEv base v c j++ [(base + digC c j,((v / 2 ^ (c - 1 - j) % 2:Nat):Int))]
def onesEv (base:Int):Nat→List (Int×Int)
  | 0=>[]
  | i + 1=>onesEv base i++ [(base + 1 + i,1)]
def numEv (base:Int) (none:Bool) (n:Int):List (Int×Int):=
  if none = true then [(base,1)]
  else (((base,0)::onesEv base (Nat.log2 (n.natAbs + 1)))++(if Nat.log2 (n.natAbs + 1) < 20 then [(base + 1 + (Nat.log2 (n.natAbs + 1):Int),0)] else [])
    ++digEv base (n.natAbs + 1) (Nat.log2 (n.natAbs + 1)) (Nat.log2 (n.natAbs + 1)))++(if n = 0 then [] else [(base + 22,if n < 0 then 1 else 0)])
def idEv (base:Int) (k id:Nat):Nat→List (Int×Int)
  | 0=>[]
  | j + 1=>idEv base k id j++ [(base + ((2 ^ j + id / 2 ^ (k - j):Nat):Int) - 1,((id / 2 ^ (k - 1 - j) % 2:Nat):Int))]
open Go Ev Bm Co
def blen (n:Nat):Nat:=if n = 0 then 0 else Nat.log2 n + 1
theorem blen_div {v:Nat} {k:Nat} (h:2 ^ k≤v):blen (v / 2 ^ k) + k = blen v:=by
  have hp:0 < 2 ^ k:=Nat.pow_pos (by omega)
  have h1:1≤v / 2 ^ k:=(Nat.le_div_iff_mul_le hp).2 (by omega)
  unfold blen
  rw [if_neg (by omega),if_neg (by omega)]
  have h2:=Nat.log2_self_le (n:=v / 2 ^ k) (by omega)
  have h3:=Nat.lt_log2_self (n:=v / 2 ^ k)
  generalize Nat.log2 (v / 2 ^ k) = c at *
  have:Nat.log2 v = c + k:=(Nat.log2_eq_iff (by omega)).2 ⟨by
    rw [Nat.pow_add]
    exact (Nat.le_div_iff_mul_le hp).1 h2,by
    rw [show c + k + 1 = (c + 1) + k by omega,Nat.pow_add]
    exact (Nat.div_lt_iff_lt_mul hp).1 h3⟩
  omega
theorem blen_le {v n:Nat} (h:v < 2 ^ n):blen v≤n:=by
  unfold blen
  split
  · omega
  · rename_i hv
    have:=(Nat.log2_lt hv).2 h
    omega
theorem len64 {fl:Nat} {v:Nat} (hv:v < 4194304) {K:Int→Option Ans}:F_math_bits_Len64 fl (v:Int) K = K (blen v:Int):=by
  unfold F_math_bits_Len64
  generalize hT:ByteArray.mk _ = T
  have hs:T.size = 256:=by rw [← hT]; decide +kernel
  have ht:∀ i:Fin 256,(T.data.toList.getD i.val 0).toNat = blen i.val:=by rw [← hT]; decide +kernel
  clear hT
  have ht:∀ i:Nat,i < 256→(T.data.toList.getD i 0).toNat = blen i:=fun i hi=>ht ⟨i,hi⟩
  rw [dec_f (by omega),hs]
  by_cases h1:v≥65536
  · have e16:ishr .u64 (v:Int) 16 = ((v / 65536:Nat):Int):=by rw [show (16:Int) = ((16:Nat):Int) from rfl,shrN (by omega) (by omega)]; omega
    have hb:blen (v / 65536) + 16 = blen v:=blen_div (v:=v) (k:=16) h1
    have hl:=blen_le (v:=v / 65536) (n:=8) (by omega)
    rw [dec_t (by omega),e16,dec_f (by omega),wrap8 (by omega) (by omega),dec_t (by omega),Int.toNat_natCast,ht _ (by omega),w6 (x:=0 + 16),w6 (x:=((blen (v / 65536):Nat):Int)),wrap64 (by omega) (by omega)]
    congr 1
    omega
  rw [dec_f (by omega)]
  by_cases h2:v≥256
  · have e8:ishr .u64 (v:Int) 8 = ((v / 256:Nat):Int):=by rw [show (8:Int) = ((8:Nat):Int) from rfl,shrN (by omega) (by omega)]; omega
    have hb:blen (v / 256) + 8 = blen v:=blen_div (v:=v) (k:=8) h2
    have hl:=blen_le (v:=v / 256) (n:=8) (by omega)
    rw [dec_t (by omega),e8,wrap8 (by omega) (by omega),dec_t (by omega),Int.toNat_natCast,ht _ (by omega),w6 (x:=0 + 8),w6 (x:=((blen (v / 256):Nat):Int)),wrap64 (by omega) (by omega)]
    congr 1
    omega
  · have hl:=blen_le (v:=v) (n:=8) (by omega)
    rw [dec_f (by omega),wrap8 (by omega) (by omega),dec_t (by omega),Int.toNat_natCast,ht _ (by omega),w6 (x:=((blen v:Nat):Int)),wrap64 (by omega) (by omega)]
    congr 1
    omega
theorem blen_pos {v:Nat} (h:0 < v):blen v = Nat.log2 v + 1:=by unfold blen; rw [if_neg (by omega)]
theorem ishr_nat {v n:Nat} (hn:n≤62):ishr .i64 (v:Int) (n:Int) = ((v / 2 ^ n:Nat):Int):=by
  unfold ishr
  have hb:min ((n:Int)).toNat IntKind.i64.bits = n:=by
    have:IntKind.i64.bits = 64:=rfl
    rw [this]
    omega
  rw [hb,Int.fdiv_eq_ediv_of_nonneg _ (Int.le_of_lt (Int.pow_pos (by omega)))]
  rw [Int.natCast_ediv,Int.natCast_pow]
  rfl
theorem bit_nat {v n:Nat} (hv:v < 9223372036854775808) (hn:n≤62):iand .i64 (ishr .i64 (v:Int) (n:Int)) 1 = ((v / 2 ^ n % 2:Nat):Int):=by
  rw [ishr_nat hn]
  have:=Nat.div_le_self v (2 ^ n)
  generalize v / 2 ^ n = q at *
  rw [iand_one (by omega) (by omega)]
  omega
theorem onesEv_len (base:Int):∀ c,(onesEv base c).length = c
  | 0=>rfl
  | c + 1=>by rw [onesEv,List.length_append,onesEv_len base c]; rfl
theorem digEv_len (base:Int) (v c:Nat):∀ j,(digEv base v c j).length = j
  | 0=>rfl
  | j + 1=>by rw [digEv,List.length_append,digEv_len base v c j]; rfl
def tailN (j:Nat):Int:=if j = 0 then 44 else ((min (43 + j) 47:Nat):Int)
section
variable {fl:Nat} (hfl:9223372036854775808≤fl)
include hfl
theorem dig_loop {base:Int} (hb:0≤base) (hb2:base≤100000) {v c:Nat} (hv:v≤1048577) (hc:c≤20) {o:Bool} {n:Int} {pre:List (Int×Int)} (hp:pre.length≤100) {K:Int×Bool×Int×List (Int×Int)→Option Ans}:
    L_number_events_2 fl (base,(v:Int),(c:Int),IntKind.i64.wrap ((c:Int) - 1),o,n,pre,44) K = K (base,o,n,pre++digEv base v c c):=by
  unfold L_number_events_2
  refine iter_seq (step:=S_number_events_2 fl) (fun j:Nat=>(base,(v:Int),(c:Int),(c:Int) - 1 - (j:Int),o,n,pre++digEv base v c j,tailN j)) c (by
    rw [wrap64 (by omega) (by omega)]
    simp [digEv,tailN]) (fun j hj k=> ?_) (fun k=> ?_) (by omega)
  · have hl:=digEv_len base v c j
    have e:(c:Int) - 1 - (j:Int) = ((c - 1 - j:Nat):Int):=by omega
    simp only [S_number_events_2,Sg_number_events_2]
    rw [dec_t (by omega),w6 (x:=(c:Int) - 1),w6 (x:=(c:Int) - 1 - (j:Int) - 1),e,bit_nat (by omega) (by omega)]
    by_cases hj0:j = 0
    · subst hj0
      have ht:(tailN 0:Int) = tailN 1:=rfl
      rw [dec_f (by omega),dec_f (by omega),w6 (x:=23 + (c:Int)),w6 (x:=base + (23 + (c:Int))),dec_t (by simp; omega)]
      rw [List.append_assoc]
      congr 1
      have e5:((c - 1 - 0:Nat):Int) - 1 = (c:Int) - 1 - ((0 + 1:Nat):Int):=by omega
      rw [e5]
      rfl
    · have hd:(tailN j:Int) = digC c j:=by unfold tailN digC; rw [if_neg hj0,if_neg hj0]; omega
      have hd0:44≤digC c j∧digC c j≤47:=by unfold digC; rw [if_neg hj0]; omega
      unfold F_number_tail_take
      rw [dec_t (by omega)]
      dsimp only
      rw [dec_f (by omega),hd,w6 (x:=base + digC c j),dec_t (by simp; omega),w6 (x:=digC c j + 1)]
      have hn:(bif decide (47 < digC c j + 1) then (47:Int) else digC c j + 1) = tailN (j + 1):=by
        unfold digC tailN
        rw [if_neg hj0,if_neg (by omega)]
        by_cases h:(47:Int) < min (43 + (j:Int)) 47 + 1
        · rw [dec_t h]; omega
        · rw [dec_f h]; omega
      rw [hn,List.append_assoc]
      congr 1
      have e5:((c - 1 - j:Nat):Int) - 1 = (c:Int) - 1 - ((j + 1:Nat):Int):=by omega
      rw [e5]
      rfl
  · simp only [S_number_events_2,Sg_number_events_2]
    rw [dec_f (by omega)]
theorem events_ok {base:Int} (hb:0≤base) (hb2:base≤100000) {o:Bool} {n:Int} (h0: -1048576≤n) (h1:n≤1048576) {K:List (Int×Int)→Option Ans}:F_number_events fl base o n K = K (numEv base o n):=by
  unfold F_number_events Fg_number_events numEv
  cases o with
  | true=>rfl
  | false=>
  have hm:(bif decide (IntKind.i64.wrap (0 - n) > n) then IntKind.i64.wrap (0 - n) else n) = ((n.natAbs:Nat):Int):=by
    rw [wrap64 (by omega) (by omega)]
    by_cases h:0 - n > n
    · rw [dec_t h]; omega
    · rw [dec_f h]; omega
  rw [cond_false,hm,if_neg (by simp)]
  have hv0:0 < n.natAbs + 1:=by omega
  have hv1:n.natAbs + 1≤1048577:=by omega
  have hz:(n = 0) = (n.natAbs + 1 = 1):=by apply propext; omega
  have e1:((n.natAbs:Nat):Int) + 1 = ((n.natAbs + 1:Nat):Int):=by omega
  rw [e1]
  generalize hv:n.natAbs + 1 = v at *
  have hc:=blen_pos hv0
  have hc20:=blen_le (v:=v) (n:=21) (by omega)
  unfold F_math_bits_Len Fg_math_bits_Len
  rw [w6 (x:=(v:Int)),wrapU (x:=(v:Int)) (by omega) (by omega),len64 (by omega),hc]
  try dsimp only
  rw [hc] at hc20
  have e2:IntKind.i64.wrap (((Nat.log2 v + 1:Nat):Int) - 1) = ((Nat.log2 v:Nat):Int):=by rw [wrap64 (by omega) (by omega)]; omega
  rw [e2]
  generalize hcc:Nat.log2 v = c at *
  unfold L_number_events_0
  refine iter_seq (step:=S_number_events_0 fl) (fun i:Nat=>(base,(v:Int),(c:Int),(c:Int),(i:Int),false,n,(base,0)::onesEv base i)) c rfl (fun i hi k=> ?_) (fun k=> ?_) (by omega)
  · have hl:=onesEv_len base i
    simp only [S_number_events_0,Sg_number_events_0]
    rw [dec_t (by omega),w6 (x:=base + 1),w6 (x:=base + 1 + (i:Int)),dec_t (by simp; omega),w6 (x:=(i:Int) + 1)]
    rfl
  · have hl:=onesEv_len base c
    have hdl:=digEv_len base v c c
    simp only [S_number_events_0,Sg_number_events_0]
    rw [dec_f (by omega)]
    have tail:∀ L:List (Int×Int),L.length≤200→(bif n != 0 then
              (bif decide (n < 0) then
                (bif decide ((L.length + [(IntKind.i64.wrap (base + 22),(1:Int))].length) * (16:Nat)≤(140737488355328:Nat)∧L.length + [(IntKind.i64.wrap (base + 22),(1:Int))].length≤(140737488355328:Nat)) then
                K (L++ [(IntKind.i64.wrap (base + 22),1)])
                else none)
               else
                (bif decide ((L.length + [(IntKind.i64.wrap (base + 22),(0:Int))].length) * (16:Nat)≤(140737488355328:Nat)∧L.length + [(IntKind.i64.wrap (base + 22),(0:Int))].length≤(140737488355328:Nat)) then
                K (L++ [(IntKind.i64.wrap (base + 22),0)])
                else none))
              else
               K L) = K (L++if n = 0 then [] else [(base + 22,if n < 0 then 1 else 0)]):=by
      intro L hL
      rw [w6 (x:=base + 22),cn]
      by_cases hn:n = 0
      · rw [if_pos hn,if_pos hn,List.append_nil]
      · rw [if_neg hn,if_neg hn]
        by_cases hneg:n < 0
        · rw [dec_t hneg,dec_t (by simp; omega),if_pos hneg]
        · rw [dec_f hneg,dec_t (by simp; omega),if_neg hneg]
    by_cases h20:c < 20
    · rw [dec_t (by omega),w6 (x:=base + 1),w6 (x:=base + 1 + (c:Int)),dec_t (by simp; omega),dig_loop hfl hb hb2 hv1 (by omega) (by simp; omega)]
      dsimp only
      rw [tail _ (by simp; omega),if_pos h20]
      try rfl
    · rw [dec_f (by omega),dig_loop hfl hb hb2 hv1 (by omega) (by simp; omega)]
      dsimp only
      rw [tail _ (by simp; omega),if_neg h20,List.append_nil]
theorem nput_ok {kd:Int} {x:Iv} (h:x.Ok kd) {l:List (Int×Int)} (he:Evs x.st.length l) (hll:l.length≤1000000) {out:List Int} (ho:out.length≤900000000) {K:Int×Int×Int×Int×Bool×List Int×List Int→Option Ans}:
    F_number_put_2d4 fl l kd x.lo x.hi true x.st out K = K (0,kd,(run kd x out l).1.lo,(run kd x out l).1.hi,true,(run kd x out l).1.st,(run kd x out l).2):=by
  unfold F_number_put_2d4 Fg_number_put_2d4 L_number_put_2d4_0
  refine iter_seq (step:=S_number_put_2d4_0 fl) (fun i:Nat=>(l,(l.length:Int),(i:Int),kd,(run kd x out (l.take i)).1.lo,(run kd x out (l.take i)).1.hi,true,(run kd x out (l.take i)).1.st,(run kd x out (l.take i)).2)) l.length rfl (fun i hi c=> ?_) (fun c=> ?_) (by omega)
  · have hm:=he _ (getD_mem hi (0,0))
    have he':Evs x.st.length (l.take i):=fun e he2=>he e (List.mem_of_mem_take he2)
    obtain ⟨ok,okl⟩:=run_ok (l.take i) (out:=out) h he'
    have hol:=run_len_le (l.take i) (kd:=kd) (x:=x) (out:=out)
    have htl:(l.take i).length≤1000000:=by rw [List.length_take]; omega
    simp only [S_number_put_2d4_0,Sg_number_put_2d4_0]
    rw [take_succ_getD hi (0,0),run_append]
    generalize run kd x out (l.take i) = R at *
    obtain ⟨X,O⟩:=R
    simp only at ok okl hol ⊢
    rw [dec_t (by omega),dec_t (by omega),Int.toNat_natCast,put_ok hfl ok hm.1 (by rw [okl]; exact hm.2.1) hm.2.2 (by omega)]
    dsimp only
    rw [cond_f (b:=(0:Int) != 0) rfl,wrap64 (by omega) (by omega)]
    rfl
  · simp only [S_number_put_2d4_0,Sg_number_put_2d4_0]
    rw [dec_f (by omega),List.take_length]
end
theorem digEv_evs {base:Int} {v c n:Nat} (h0:0≤base) (h1:base + 48≤(n:Int)) (hc:c≤20):∀ j,Evs n (digEv base v c j)
  | 0=>fun e he=>by cases he
  | j + 1=>fun e he=>by
    rcases List.mem_append.1 he with he | he
    · exact digEv_evs h0 h1 hc j e he
    · rw [List.mem_singleton] at he
      subst he
      have:0≤digC c j∧digC c j≤47:=by unfold digC; split <;> omega
      exact ⟨by simp only; omega,by simp only; omega,by simp only; omega⟩
theorem onesEv_evs {base:Int} {n:Nat} (h0:0≤base) (h1:base + 48≤(n:Int)):∀ c,c≤20→Evs n (onesEv base c)
  | 0,_=>fun e he=>by cases he
  | c + 1,hc=>fun e he=>by
    rcases List.mem_append.1 he with he | he
    · exact onesEv_evs h0 h1 c (by omega) e he
    · rw [List.mem_singleton] at he
      subst he
      exact ⟨by simp only; omega,by simp only; omega,.inr rfl⟩
theorem Evs.app {n:Nat} {a b:List (Int×Int)} (ha:Evs n a) (hb:Evs n b):Evs n (a++b):=fun e he=>by
  rcases List.mem_append.1 he with he | he
  · exact ha e he
  · exact hb e he
theorem Evs.one {n:Nat} {c b:Int} (h0:0≤c) (h1:c < (n:Int)) (hb:b = 0∨b = 1):Evs n [(c,b)]:=fun e he=>by
  rw [List.mem_singleton] at he
  subst he
  exact ⟨h0,h1,hb⟩
theorem Evs.nil (n:Nat):Evs n []:=fun e he=>by cases he
theorem numEv_ok {base:Int} {n:Nat} (h0:0≤base) (h1:base + 48≤(n:Int)) (o:Bool) {v:Int} (hv0: -1048576≤v) (hv1:v≤1048576):Evs n (numEv base o v)∧(numEv base o v).length≤50:=by
  unfold numEv
  cases o with
  | true=>exact ⟨Evs.one h0 (by omega) (.inr rfl),by simp⟩
  | false=>
  rw [if_neg (by simp)]
  have hc:Nat.log2 (v.natAbs + 1)≤20:=by
    have:=(Nat.log2_lt (n:=v.natAbs + 1) (k:=21) (by omega)).2 (by omega)
    omega
  generalize Nat.log2 (v.natAbs + 1) = c at *
  have h22:Evs n (if v = 0 then [] else [(base + 22,if v < 0 then (1:Int) else 0)]):=by
    split
    · exact Evs.nil n
    · refine Evs.one (by omega) (by omega) ?_
      split
      · exact .inr rfl
      · exact .inl rfl
  have h20:Evs n (if c < 20 then [(base + 1 + (c:Int),(0:Int))] else []):=by
    split
    · exact Evs.one (by omega) (by omega) (.inl rfl)
    · exact Evs.nil n
  refine ⟨Evs.app (Evs.app (Evs.app (Evs.app (a:=[(base,0)]) (Evs.one h0 (by omega) (.inl rfl)) (onesEv_evs h0 h1 c hc)) h20) (digEv_evs h0 h1 hc c)) h22, ?_⟩
  have a:=onesEv_len base c
  have b:=digEv_len base (v.natAbs + 1) c c
  have d:(if v = 0 then [] else [(base + 22,if v < 0 then (1:Int) else 0)]).length≤1:=by split <;> simp
  have e:(if c < 20 then [(base + 1 + (c:Int),(0:Int))] else []).length≤1:=by split <;> simp
  simp only [List.length_append,List.length_cons]
  omega
theorem idEv_len (base:Int) (k id:Nat):∀ j,(idEv base k id j).length = j
  | 0=>rfl
  | j + 1=>by rw [idEv,List.length_append,idEv_len base k id j]; rfl
theorem idEv_evs {base:Int} {n k id:Nat} (h0:0≤base) (h1:base + 2 ^ k - 1≤(n:Int)) (hid:id < 2 ^ k):∀ j,j≤k→Evs n (idEv base k id j)
  | 0,_=>fun e he=>by cases he
  | j + 1,hj=>fun e he=>by
    rcases List.mem_append.1 he with he | he
    · exact idEv_evs h0 h1 hid j (by omega) e he
    · rw [List.mem_singleton] at he
      subst he
      have hp:0 < 2 ^ j:=Nat.pow_pos (by omega)
      have e1:2 ^ k = 2 ^ j * 2 ^ (k - j):=by rw [← Nat.pow_add]; congr 1; omega
      have h2:id / 2 ^ (k - j) < 2 ^ j:=(Nat.div_lt_iff_lt_mul (Nat.pow_pos (by omega))).2 (by rw [← e1]; exact hid)
      have h3:2 ^ (j + 1)≤2 ^ k:=Nat.pow_le_pow_right (by omega) hj
      have h3':2 ^ j + 2 ^ j≤2 ^ k:=by rw [Nat.pow_succ] at h3; omega
      have h4:((2 ^ k:Nat):Int) = (2:Int) ^ k:=by rw [Int.natCast_pow]; rfl
      rw [← h4] at h1
      clear e1
      generalize id / 2 ^ (k - j) = u at *
      generalize id / 2 ^ (k - 1 - j) = u2 at *
      generalize 2 ^ k = P at *
      generalize 2 ^ j = Q at *
      exact ⟨by simp only; omega,by simp only; omega,by simp only; omega⟩
section
variable {fl:Nat} (hfl:9223372036854775808≤fl)
include hfl
theorem Put_ok {kd:Int} {x:Iv} (h:x.Ok kd) (hn:x.st.length≤8192) {base:Int} (hb:0≤base) (hb2:base + 48≤(x.st.length:Int)) {o:Bool} {n:Int} (hon:o = true→n = 0) (h0: -1048576≤n) (h1:n≤1048576) {out:List Int} (ho:out.length≤900000000)
    {K:Int×Int×Int×Int×Bool×List Int×List Int→Option Ans}:
    F_number_Put_856 fl base o n kd x.lo x.hi true x.st out K = K (0,kd,(run kd x out (numEv base o n)).1.lo,(run kd x out (numEv base o n)).1.hi,true,(run kd x out (numEv base o n)).1.st,(run kd x out (numEv base o n)).2):=by
  obtain ⟨he,hl⟩:=numEv_ok hb hb2 o h0 h1
  unfold F_number_Put_856
  rw [put_bad]
  dsimp only
  have hv:F_number_Valid fl o n = fun K=>K true:=by
    funext K
    unfold F_number_Valid
    cases o with
    | true=>rw [cond_true,hon rfl]; rfl
    | false=>rw [cond_false,dec_t (by omega),decide_eq_true (by omega)]
  rw [cond_f (b:=(2:Int)==7) rfl,hv]
  dsimp only
  rw [cond_f (b:=!true) rfl,emodel_ok (by omega)]
  dsimp only
  unfold F_number_fits
  rw [dec_f (by omega),w6 (x:=(x.st.length:Int) - 48),dec_f (by omega)]
  dsimp only
  rw [cond_f (b:=(0:Int) != 0) rfl,events_ok hfl hb (by omega) h0 h1,nput_ok hfl h he (by omega) ho]
theorem PutId_ok {kd:Int} {x:Iv} (h:x.Ok kd) (hn:x.st.length≤8192) {base:Int} (hb:0≤base) {k id:Nat} (hk:k≤10) (hid:id < 2 ^ k) (hb2:base + 2 ^ k - 1≤(x.st.length:Int)) {out:List Int} (ho:out.length≤900000000)
    {K:Int×Int×Int×Int×Bool×List Int×List Int→Option Ans}:
    F_number_PutId_b82 fl base (k:Int) (id:Int) kd x.lo x.hi true x.st out K = K (0,kd,(run kd x out (idEv base k id k)).1.lo,(run kd x out (idEv base k id k)).1.hi,true,(run kd x out (idEv base k id k)).1.st,(run kd x out (idEv base k id k)).2):=by
  have he:=idEv_evs hb hb2 hid k (Nat.le_refl _)
  have hl:=idEv_len base k id k
  have hp:0 < 2 ^ k:=Nat.pow_pos (by omega)
  have hp2:2 ^ k≤2 ^ 10:=Nat.pow_le_pow_right (by omega) hk
  have e2:(2:Int) ^ k = ((2 ^ k:Nat):Int):=by rw [Int.natCast_pow]; rfl
  have es:ishl .i64 1 (k:Int) = ((2 ^ k:Nat):Int):=by rw [ishl_one (by omega) (by omega),Int.toNat_natCast,e2]
  rw [e2] at hb2
  unfold F_number_PutId_b82
  rw [put_bad]
  dsimp only
  rw [cond_f (b:=(2:Int)==7) rfl,dec_f (by omega),dec_f (by omega),dec_f (by omega),dec_f (by omega),es,dec_f (by omega),dec_f (by omega),emodel_ok (by omega)]
  dsimp only
  unfold F_number_fits
  rw [w6 (x:=((2 ^ k:Nat):Int) - 1),dec_f (by omega),w6 (x:=(x.st.length:Int) - _),dec_f (by omega)]
  dsimp only
  rw [cond_f (b:=(0:Int) != 0) rfl]
  unfold L_number_PutId_b82_0
  refine iter_seq (step:=S_number_PutId_b82_0 fl) (fun j:Nat=>(base,(id:Int),((2 ^ j + id / 2 ^ (k - j):Nat):Int),(k:Int) - 1 - (j:Int),kd,x.lo,x.hi,true,x.st,out,idEv base k id j)) k (by
    rw [wrap64 (by omega) (by omega),Nat.sub_zero,Nat.div_eq_of_lt hid]
    simp [idEv]) (fun j hj c=> ?_) (fun c=> ?_) (by omega)
  · have hjl:=idEv_len base k id j
    have e:(k:Int) - 1 - (j:Int) = ((k - 1 - j:Nat):Int):=by omega
    have e1:2 ^ k = 2 ^ j * 2 ^ (k - j):=by rw [← Nat.pow_add]; congr 1; omega
    have h2:id / 2 ^ (k - j) < 2 ^ j:=(Nat.div_lt_iff_lt_mul (Nat.pow_pos (by omega))).2 (by rw [← e1]; exact hid)
    have h3:2 ^ j≤2 ^ k:=Nat.pow_le_pow_right (by omega) (by omega)
    have e3:id / 2 ^ (k - 1 - j) = 2 * (id / 2 ^ (k - j)) + id / 2 ^ (k - 1 - j) % 2:=by
      rw [show k - j = (k - 1 - j) + 1 by omega,Nat.pow_succ, ← Nat.div_div_eq_div_mul]
      omega
    simp only [S_number_PutId_b82_0,Sg_number_PutId_b82_0]
    rw [w6 (x:=(k:Int) - 1 - (j:Int) - 1),e,bit_nat (by omega) (by omega),dec_t (by omega),dec_f (by omega),w6 (x:=base + _),w6 (x:=base + _ - 1),dec_t (by simp; omega),w6 (x:=2 * _),wrap64 (by omega) (by omega)]
    congr 1
    have e4:2 * ((2 ^ j + id / 2 ^ (k - j):Nat):Int) + ((id / 2 ^ (k - 1 - j) % 2:Nat):Int) = ((2 ^ (j + 1) + id / 2 ^ (k - (j + 1)):Nat):Int):=by
      rw [show k - (j + 1) = k - 1 - j by omega,Nat.pow_succ]
      clear es e2 hb2 he hid e1
      generalize id / 2 ^ (k - j) = u at *
      generalize id / 2 ^ (k - 1 - j) = u2 at *
      generalize 2 ^ j = Q at *
      omega
    have e5:((k - 1 - j:Nat):Int) - 1 = (k:Int) - 1 - ((j + 1:Nat):Int):=by omega
    rw [e4,e5]
    rfl
  · simp only [S_number_PutId_b82_0,Sg_number_PutId_b82_0]
    rw [dec_f (by omega),nput_ok hfl h he (by omega) ho]
end
end Go.Proofs.YtipdidpalcmlhaaGreat.Dc
namespace Go.Proofs.YtipdidpalcmlhaaGreat.Gen
open Go Ev Bm
def vr (t ax ay kd:Int):Bool:=decide (0≤t∧t≤3∧(kd = 0∨kd = 1)∧ -8≤ax∧ax≤8∧ -8≤ay∧ay≤0∧(ay < 0∨ax < 0))
def tpl (t:Int):List (Int×Int):=
  if t = 0 then [(-1, -2),(0, -2),(1, -2),(-2, -1),(-1, -1),(0, -1),(1, -1),(2, -1),(-2,0),(-1,0)]
  else if t = 1 then [(-1, -2),(0, -2),(-1, -1),(0, -1),(1, -1),(-2,0),(-1,0)]
  else if t = 2 then [(-2, -1),(-1, -1),(0, -1),(1, -1),(2, -1),(-2,0),(-1,0)]
  else [(-1, -1),(0, -1),(1, -1),(-1,0)]
def size (t:Int):Int:=2 ^ ((tpl t).length + 1) + 1
structure Pix (w h:Int) (p:List Int):Prop where
  w0:0≤w
  h0:0≤h
  w1:w≤200
  h1:h≤200
  n:w * h≤8192
  len:(p.length:Int) = w * h
  bit:∀ v ∈ p,0≤v∧v≤1
theorem pix_of {w h:Int} {p:List Int} (hv:valid w h p = true) (h0:∀ v ∈ p,0≤v):Pix w h p:=by
  obtain ⟨⟨a,b,c,d,e⟩,f,g⟩:=valid_iff.1 hv
  exact ⟨a,b,c,d,e,f,fun v hv=>⟨h0 v hv,g v hv⟩⟩
open Go Ev Bm Co
def Sk (w h:Int) (sp:List Int):Prop:=sp = []∨(sp.length:Int) = w * h
theorem place_nat {w h:Int} {x y:Nat} (hx:(x:Int) < w) (hy:(y:Int) < h):((y * w.toNat + x:Nat):Int) = (y:Int) * w + x∧(y:Int) * w + x < w * h∧(y:Int) * w + w≤w * h:=by
  have hp:=place (w:=w) (h:=h) (x:=x) (y:=y) ⟨by omega,by omega,hx,hy⟩
  have hw:((w.toNat:Nat):Int) = w:=by omega
  refine ⟨by rw [Int.natCast_add,Int.natCast_mul,hw],hp.2, ?_⟩
  have:((y:Int) + 1) * w≤h * w:=Int.mul_le_mul_of_nonneg_right (by omega) (by omega)
  rw [Int.add_mul,Int.one_mul,Int.mul_comm h w] at this
  exact this
theorem px_in {w h:Int} {p:List Int} {x y:Nat} (hx:(x:Int) < w) (hy:(y:Int) < h):px w h p (x:Int) (y:Int) = p.getD (y * w.toNat + x) 0:=by
  unfold px
  rw [if_pos ⟨by omega,by omega,hx,hy⟩]
  congr 1
  have:=(place_nat hx hy).1
  omega
section
variable (t ax ay base w h:Int) (ty:Bool) (p sp:List Int)
end
structure Reg (t ax ay kd base w h:Int) (p sp:List Int) (n:Nat):Prop where
  v:vr t ax ay kd = true
  p:Pix w h p
  s:Sk w h sp
  b0:0≤base
  b1:base + size t≤(n:Int)
theorem getD_01 {p:List Int} (h0:∀ v ∈ p,0≤v∧v≤1) (i:Nat):p.getD i 0 = 0∨p.getD i 0 = 1:=by
  by_cases hi:i < p.length
  · have:=h0 _ (getD_mem hi 0)
    omega
  · rw [List.getD_eq_getElem?_getD,List.getElem?_eq_none (by omega)]
    exact .inl rfl
end Go.Proofs.YtipdidpalcmlhaaGreat.Gen
namespace Go.Proofs.YtipdidpalcmlhaaGreat.Rf
open Go Ev Bm Co Gen Dc
def fr (t:Int):List (Int×Int):=if t = 0 then [(-1, -1),(0, -1),(1, -1),(-1,0)] else [(0, -1),(-1,0)]
def bs:List (Int×Int):=[(0,0),(-1,0),(1,0),(0, -1),(0,1)]
def csz (t:Int):Int:=if t = 0 then 512 else 128
theorem csz_eq (t:Int):csz t = 512∨csz t = 128:=by unfold csz; split <;> omega
theorem fr_near (t:Int):∀ d ∈ fr t, -1≤d.1∧d.1≤1∧ -1≤d.2∧d.2≤0:=by
  unfold fr
  split <;> decide
theorem bs_near:∀ d ∈ bs, -1≤d.1∧d.1≤1∧ -1≤d.2∧d.2≤1:=by decide
theorem fr_len (t:Int):(fr t).length≤4∧(32:Int) * 2 ^ (fr t).length = csz t:=by
  unfold fr csz
  split <;> decide
def fold (w h:Int) (p:List Int) (x y:Int) (l:List (Int×Int)) (a:Int):Int:=l.foldl (fun n d=>2 * n + px w h p (x + d.1) (y + d.2)) a
theorem fold_take {w h:Int} {p:List Int} {x y a:Int} {l:List (Int×Int)} {i:Nat} (hi:i < l.length):
    fold w h p x y (l.take (i + 1)) a = 2 * fold w h p x y (l.take i) a + px w h p (x + (l.getD i (0,0)).1) (y + (l.getD i (0,0)).2):=by
  unfold fold
  rw [take_succ_getD hi (0,0),List.foldl_append]
  rfl
theorem fold_rg {w h:Int} {p:List Int} (h0:∀ v ∈ p,0≤v∧v≤1) {x y:Int}:∀ (l:List (Int×Int)) {a M:Int},0≤a→a < M→0≤fold w h p x y l a∧fold w h p x y l a < M * 2 ^ l.length
  | [],a,M,ha,hM=>by
    unfold fold
    simp
    omega
  | d::l,a,M,ha,hM=>by
    have b:=px_01 (w:=w) (h:=h) h0 (x + d.1) (y + d.2)
    have:=fold_rg (w:=w) (h:=h) h0 (x:=x) (y:=y) l (a:=2 * a + px w h p (x + d.1) (y + d.2)) (M:=M * 2) (by omega) (by omega)
    rw [List.length_cons,Int.pow_succ]
    rw [show M * (2 ^ l.length * 2) = M * 2 * 2 ^ l.length by rw [Int.mul_assoc,Int.mul_comm 2]]
    exact this
def rctx (t dx dy w h:Int) (p:List Int) (rw rh:Int) (rp:List Int) (x y:Int):Int:=fold rw rh rp (x - dx) (y - dy) bs (fold w h p x y (fr t) 0)
theorem rctx_rg {t dx dy w h:Int} {p:List Int} {rw rh:Int} {rp:List Int} (hp:∀ v ∈ p,0≤v∧v≤1) (hr:∀ v ∈ rp,0≤v∧v≤1) (x y:Int):0≤rctx t dx dy w h p rw rh rp x y∧rctx t dx dy w h p rw rh rp x y < csz t:=by
  obtain ⟨_,h2⟩:=fr_len t
  have a:=fold_rg hp (w:=w) (h:=h) (x:=x) (y:=y) (fr t) (a:=0) (M:=1) (by omega) (by omega)
  have b:=fold_rg hr (w:=rw) (h:=rh) (x:=x - dx) (y:=y - dy) bs a.1 a.2
  unfold rctx
  have e:(1:Int) * 2 ^ (fr t).length * 2 ^ bs.length = csz t:=by
    rw [← h2]
    show 1 * 2 ^ (fr t).length * 2 ^ 5 = _
    rw [Int.one_mul,Int.mul_comm]
    rfl
  rw [e] at b
  exact b
theorem grid_ok {fl:Nat} {w h:Int} {p:List Int} (hp:Pix w h p) {x y:Int} {K:Int→Option Ans}:F_refine_grid_at fl w h p x y K = K (px w h p x y):=by
  have hl:=hp.len
  have hn:=hp.n
  unfold F_refine_grid_at px
  simp only [cd]
  by_cases hi:ins w h x y
  · have hq:=place hi
    have hy:=place_y hi
    rw [if_pos hi]
    obtain ⟨h1,h2,h3,h4⟩:=hi
    rw [if_neg (by omega),if_neg (by omega),if_neg (by omega),if_neg (by omega),w6 (x:=y * w),w6 (x:=y * w + x),if_pos (by omega)]
  · rw [if_neg hi]
    unfold ins at hi
    repeat' split
    all_goals first | rfl | omega
def flatv (dx dy rw rh:Int) (rp:List Int) (x y:Int):Int×Bool:=
  if (List.range 9).all (fun i=>decide (px rw rh rp (x - dx + ((i % 3:Nat):Int) - 1) (y - dy + ((i / 3:Nat):Int) - 1) = px rw rh rp (x - dx) (y - dy))) = true then (px rw rh rp (x - dx) (y - dy),true) else (0,false)
structure RR (t dx dy kd w h:Int) (p:List Int) (rw rh:Int) (rp:List Int):Prop where
  t:t = 0∨t = 1
  k:kd = 0∨kd = 1
  x: -200≤dx∧dx≤200
  y: -200≤dy∧dy≤200
  p:Pix w h p
  r:Pix rw rh rp
section
variable {fl:Nat} (hfl:9223372036854775808≤fl) {t dx dy kd w h:Int} {p:List Int} {rw rh:Int} {rp:List Int} {ty:Bool}
include hfl
theorem flat_ok (hr:RR t dx dy kd w h p rw rh rp) {x y:Int} (hx: -1000≤x∧x≤1000) (hy: -1000≤y∧y≤1000) {K:Int×Bool×Int×Int×Int×Bool×Int×Int×Int×List Int×Int×Int×List Int→Option Ans}:
    F_refine_region_flat_0d1 fl x y t dx dy ty kd w h p rw rh rp K = K ((flatv dx dy rw rh rp x y).1,(flatv dx dy rw rh rp x y).2,t,dx,dy,ty,kd,w,h,p,rw,rh,rp):=by
  have h1:=hr.x
  have h2:=hr.y
  unfold F_refine_region_flat_0d1 Fg_refine_region_flat_0d1
  rw [grid_ok hr.r,w6 (x:=x - dx),w6 (x:=y - dy)]
  try dsimp only
  unfold L_refine_region_flat_0d1_0 flatv
  generalize hc:px rw rh rp (x - dx) (y - dy) = c
  have step:∀ i:Nat,i < 9→∀ (ret:Int×Bool×Int×Int×Int×Bool×Int×Int×Int×List Int×Int×Int×List Int→Option Ans) (b:Int×Int×Int×Int×Bool×Int×Int×Int×List Int×Int×Int×List Int→Option Ans) k,S_refine_region_flat_0d1_0 fl (x,y,c,(i:Int),t,dx,dy,ty,kd,w,h,p,rw,rh,rp) k (ret,b)
      = if px rw rh rp (x - dx + ((i % 3:Nat):Int) - 1) (y - dy + ((i / 3:Nat):Int) - 1) = c then k (x,y,c,((i + 1:Nat):Int),t,dx,dy,ty,kd,w,h,p,rw,rh,rp) else ret (0,false,t,dx,dy,ty,kd,w,h,p,rw,rh,rp):=by
    intro i hi ret b k
    have e1:((i:Int)).tmod 3 = ((i % 3:Nat):Int):=by rw [tmod_e (by omega)]; omega
    have e2:((i:Int)).tdiv 3 = ((i / 3:Nat):Int):=by rw [tdiv_e (by omega)]; omega
    simp only [S_refine_region_flat_0d1_0,Sg_refine_region_flat_0d1_0]
    rw [dec_t (by omega),e1,e2,w6 (x:=x - dx),w6 (x:=y - dy),w6 (x:=((i / 3:Nat):Int)),w6 (x:=x - dx + _),w6 (x:=x - dx + _ - 1),w6 (x:=y - dy + _),w6 (x:=y - dy + _ - 1),grid_ok hr.r]
    try dsimp only
    rw [cn]
    split
    · rw [wrap64 (by omega) (by omega)]
      rfl
    · rfl
  rcases nat_or_first (fun i=>px rw rh rp (x - dx + ((i % 3:Nat):Int) - 1) (y - dy + ((i / 3:Nat):Int) - 1) = c) 9 with ha | ⟨n,hn,hb,hi⟩
  · rw [if_pos (by rw [List.all_eq_true]; exact fun i hi=>decide_eq_true (ha i (List.mem_range.1 hi)))]
    refine iter_seq (step:=S_refine_region_flat_0d1_0 fl) (fun i:Nat=>(x,y,c,(i:Int),t,dx,dy,ty,kd,w,h,p,rw,rh,rp)) 9 rfl (fun i hi k=> ?_) (fun k=> ?_) (by omega)
    · rw [step i hi,if_pos (ha i hi)]
    · simp only [S_refine_region_flat_0d1_0,Sg_refine_region_flat_0d1_0]
      rw [dec_f (by omega)]
  · rw [if_neg (by
      rw [List.all_eq_true]
      exact fun h=>hb (of_decide_eq_true (h n (List.mem_range.2 hn))))]
    refine iter_seq (step:=S_refine_region_flat_0d1_0 fl) (fun i:Nat=>(x,y,c,(i:Int),t,dx,dy,ty,kd,w,h,p,rw,rh,rp)) n rfl (fun i hin k=> ?_) (fun k=> ?_) (by omega)
    · rw [step i (by omega),if_pos (hi i hin)]
    · rw [step n hn,if_neg hb]
theorem ctx_ok (hr:RR t dx dy kd w h p rw rh rp) {x y:Int} (hx: -1000≤x∧x≤1000) (hy: -1000≤y∧y≤1000) {K:Int×Int×Int×Int×Bool×Int×Int×Int×List Int×Int×Int×List Int→Option Ans}:
    F_refine_region_context_0d1 fl x y t dx dy ty kd w h p rw rh rp K = K (rctx t dx dy w h p rw rh rp x y,t,dx,dy,ty,kd,w,h,p,rw,rh,rp):=by
  have h1:=hr.x
  have h2:=hr.y
  have hf:∀ K:List (Int×Int)→Option Ans,F_refine_fresh fl t K = K (fr t):=fun K=>by
    unfold F_refine_fresh fr
    rw [cb]
    split <;> rfl
  have hl:=(fr_len t).1
  unfold F_refine_region_context_0d1 Fg_refine_region_context_0d1
  rw [hf]
  try dsimp only
  unfold L_refine_region_context_0d1_0
  refine iter_seq (step:=S_refine_region_context_0d1_0 fl) (fun i:Nat=>(x,y,fold w h p x y ((fr t).take i) 0,((fr t).length:Int),(i:Int),t,dx,dy,ty,kd,w,h,p,rw,rh,rp,fr t)) (fr t).length rfl (fun i hi c=> ?_) (fun c=> ?_) (by omega)
  · have e:=fr_near t _ (getD_mem hi (0,0))
    have a:=fold_rg hr.p.bit (w:=w) (h:=h) (x:=x) (y:=y) ((fr t).take i) (a:=0) (M:=1) (by omega) (by omega)
    have hle:(2:Int) ^ ((fr t).take i).length≤2 ^ 4:=by
      have:=Nat.pow_le_pow_right (n:=2) (by omega) (show ((fr t).take i).length≤4 by rw [List.length_take]; omega)
      exact_mod_cast this
    have b:=px_01 (w:=w) (h:=h) hr.p.bit (x + ((fr t).getD i (0,0)).1) (y + ((fr t).getD i (0,0)).2)
    simp (disch:=omega) only [S_refine_region_context_0d1_0,Sg_refine_region_context_0d1_0,dec_t,Int.toNat_natCast,wrap64,grid_ok hr.p]
    rw [fold_take hi]
    rfl
  · simp (disch:=omega) only [S_refine_region_context_0d1_0,Sg_refine_region_context_0d1_0,dec_f,List.take_length]
    unfold F_refine_beside L_refine_region_context_0d1_2
    have a:=fold_rg hr.p.bit (w:=w) (h:=h) (x:=x) (y:=y) (fr t) (a:=0) (M:=1) (by omega) (by omega)
    have hle:(2:Int) ^ (fr t).length≤2 ^ 4:=by
      have:=Nat.pow_le_pow_right (n:=2) (by omega) hl
      exact_mod_cast this
    unfold rctx
    generalize fold w h p x y (fr t) 0 = g at *
    refine iter_seq (step:=S_refine_region_context_0d1_2 fl) (fun i:Nat=>(x,y,fold rw rh rp (x - dx) (y - dy) (bs.take i) g,(bs.length:Int),(i:Int),t,dx,dy,ty,kd,w,h,p,rw,rh,rp,bs)) bs.length rfl (fun i hi c=> ?_) (fun c=> ?_) (by show 5 < fl; omega)
    · have e:=bs_near _ (getD_mem hi (0,0))
      have a':=fold_rg hr.r.bit (w:=rw) (h:=rh) (x:=x - dx) (y:=y - dy) (bs.take i) (a:=g) (M:=16) (by omega) (by omega)
      have hle2:(2:Int) ^ (bs.take i).length≤2 ^ 5:=by
        have:=Nat.pow_le_pow_right (n:=2) (by omega) (show (bs.take i).length≤5 by rw [List.length_take]; exact Nat.min_le_right _ _)
        exact_mod_cast this
      have b:=px_01 (w:=rw) (h:=rh) hr.r.bit (x - dx + (bs.getD i (0,0)).1) (y - dy + (bs.getD i (0,0)).2)
      have hb5:bs.length = 5:=rfl
      simp (disch:=omega) only [S_refine_region_context_0d1_2,Sg_refine_region_context_0d1_2,dec_t,Int.toNat_natCast,wrap64,grid_ok hr.r]
      rw [fold_take hi]
      rfl
    · simp (disch:=omega) only [S_refine_region_context_0d1_2,Sg_refine_region_context_0d1_2,dec_f,List.take_length]
end
section
variable (t dx dy base w h:Int) (p:List Int) (rw rh:Int) (rp:List Int)
def pxE (y:Nat):Nat→List (Int×Int)
  | 0=>[]
  | x + 1=>pxE y x++ [(base + rctx t dx dy w h p rw rh rp (x:Int) (y:Int),p.getD (y * w.toNat + x) 0)]
def rwE:Nat→List (Int×Int)
  | 0=>[]
  | y + 1=>rwE y++pxE t dx dy base w h p rw rh rp y w.toNat
end
section
variable {t dx dy base w h kd:Int} {p:List Int} {rw rh:Int} {rp:List Int} {n:Nat}
theorem pxE_ok (hr:RR t dx dy kd w h p rw rh rp) (h0:0≤base) (h1:base + csz t + 1≤(n:Int)) (y:Nat):∀ x:Nat,Evs n (pxE t dx dy base w h p rw rh rp y x)∧(pxE t dx dy base w h p rw rh rp y x).length = x
  | 0=>⟨Evs.nil n,rfl⟩
  | x + 1=>by
    obtain ⟨a,b⟩:=pxE_ok hr h0 h1 y x
    have c:=rctx_rg (t:=t) (dx:=dx) (dy:=dy) (w:=w) (h:=h) (rw:=rw) (rh:=rh) hr.p.bit hr.r.bit (x:Int) (y:Int)
    refine ⟨Evs.app a (Evs.one (by omega) (by omega) (getD_01 hr.p.bit _)), ?_⟩
    rw [pxE,List.length_append,b]
    rfl
theorem rwE_ok (hr:RR t dx dy kd w h p rw rh rp) (h0:0≤base) (h1:base + csz t + 1≤(n:Int)):∀ y:Nat,Evs n (rwE t dx dy base w h p rw rh rp y)∧(rwE t dx dy base w h p rw rh rp y).length = y * w.toNat
  | 0=>⟨Evs.nil n,by simp [rwE]⟩
  | y + 1=>by
    obtain ⟨a,b⟩:=rwE_ok hr h0 h1 y
    obtain ⟨c,d⟩:=pxE_ok hr h0 h1 y w.toNat
    refine ⟨Evs.app a c, ?_⟩
    rw [rwE,List.length_append,b,d,Nat.succ_mul]
end
section
variable {fl:Nat} (hfl:9223372036854775808≤fl) {t dx dy base w h kd:Int} {p:List Int} {rw rh:Int} {rp:List Int}
include hfl
theorem put_row (hr:RR t dx dy kd w h p rw rh rp) {kx:Int} {x:Iv} (hx:x.Ok kx) (hn:x.st.length≤8192) (h0:0≤base) (h1:base + csz t + 1≤(x.st.length:Int)) {y:Nat} (hy:(y:Int) < h) {out:List Int} (ho:out.length≤900000000) {K}:
    L_refine_Put_d0e_3 fl (base,(y:Int),false,h,(y:Int),w,0,kx,x.lo,x.hi,true,x.st,out,t,dx,dy,false,kd,w,h,p,t,dx,dy,false,kd,w,h,p,rw,rh,rp) K
    = K (base,h,(y:Int),kx,(run kx x out (pxE t dx dy base w h p rw rh rp y w.toNat)).1.lo,(run kx x out (pxE t dx dy base w h p rw rh rp y w.toNat)).1.hi,true,(run kx x out (pxE t dx dy base w h p rw rh rp y w.toNat)).1.st,(run kx x out (pxE t dx dy base w h p rw rh rp y w.toNat)).2,t,dx,dy,false,kd,w,h,p,t,dx,dy,false,kd,w,h,p,rw,rh,rp):=by
  have hw0:=hr.p.w0; have hw1:=hr.p.w1; have hh1:=hr.p.h1
  unfold L_refine_Put_d0e_3
  refine iter_seq (step:=S_refine_Put_d0e_3 fl) (fun i:Nat=>(base,(y:Int),false,h,(y:Int),w,(i:Int),kx,(run kx x out (pxE t dx dy base w h p rw rh rp y i)).1.lo,(run kx x out (pxE t dx dy base w h p rw rh rp y i)).1.hi,true,(run kx x out (pxE t dx dy base w h p rw rh rp y i)).1.st,(run kx x out (pxE t dx dy base w h p rw rh rp y i)).2,t,dx,dy,false,kd,w,h,p,t,dx,dy,false,kd,w,h,p,rw,rh,rp)) w.toNat rfl (fun i hi c=> ?_) (fun c=> ?_) (by omega)
  · obtain ⟨e1,e2⟩:=pxE_ok hr h0 h1 y i
    obtain ⟨ok,okl⟩:=run_ok (pxE t dx dy base w h p rw rh rp y i) (out:=out) hx e1
    have hol:=run_len_le (pxE t dx dy base w h p rw rh rp y i) (kd:=kx) (x:=x) (out:=out)
    have er:run kx x out (pxE t dx dy base w h p rw rh rp y (i + 1)) = run kx (run kx x out (pxE t dx dy base w h p rw rh rp y i)).1 (run kx x out (pxE t dx dy base w h p rw rh rp y i)).2 [(base + rctx t dx dy w h p rw rh rp (i:Int) (y:Int),p.getD (y * w.toNat + i) 0)]:=run_append kx _ _ _ _
    have hc:=rctx_rg (t:=t) (dx:=dx) (dy:=dy) (w:=w) (h:=h) (rw:=rw) (rh:=rh) hr.p.bit hr.r.bit (i:Int) (y:Int)
    have hcs:=csz_eq t
    have hpx:px w h p (i:Int) (y:Int) = p.getD (y * w.toNat + i) 0:=px_in (by omega) hy
    have hb:=getD_01 hr.p.bit (y * w.toNat + i)
    have hcc:=fun K=>ctx_ok hfl hr (ty:=false) (x:=(i:Int)) (y:=(y:Int)) (by omega) (by omega) (K:=K)
    simp only [S_refine_Put_d0e_3,Sg_refine_Put_d0e_3]
    rw [er]
    generalize run kx x out (pxE t dx dy base w h p rw rh rp y i) = R at *
    obtain ⟨X,O⟩:=R
    simp only at ok okl hol ⊢
    rw [dec_t (by omega),flat_ok hfl hr (by omega) (by omega)]
    try dsimp only
    rw [cond_t (b:=!false) rfl,hcc,hcc]
    try dsimp only
    rw [both_same,grid_ok hr.p,hpx]
    try dsimp only
    rw [w6 (x:=base + _),w6 (x:=p.getD (y * w.toNat + i) 0),Co.put_ok hfl ok (by omega) (by omega) hb (by omega),w6 (x:=(i:Int) + 1)]
    rfl
  · simp only [S_refine_Put_d0e_3,Sg_refine_Put_d0e_3]
    rw [dec_f (by omega)]
theorem rvalid_ok2 (hr:RR t dx dy kd w h p rw rh rp) {ty:Bool} {K:Bool→Option Ans}:F_refine_Valid fl t dx dy ty kd K = K true:=by
  have h1:=hr.x
  have h2:=hr.y
  have hA:(bif decide (dy < dx) then dy else dx)≥ -200:=by
    by_cases h:dy < dx
    · rw [dec_t h]; omega
    · rw [dec_f h]; omega
  have im:∀ a b:Int,a≤200→b≤200→imax a b≤200:=fun a b ha hb=>by
    unfold imax
    by_cases h:b > a
    · rw [dec_t h]; exact hb
    · rw [dec_f h]; exact ha
  have hB:imax (imax (imax dx (IntKind.i64.wrap (0 - dx))) dy) (IntKind.i64.wrap (0 - dy))≤200:=by
    rw [w6 (x:=0 - dx),w6 (x:=0 - dy)]
    exact im _ _ (im _ _ (im _ _ (by omega) (by omega)) (by omega)) (by omega)
  unfold F_refine_Valid
  simp only [decide_eq_true hA,decide_eq_true hB,cond_true]
  rcases hr.t with rfl | rfl <;> rcases hr.k with rfl | rfl <;> rfl
theorem rput_ok2 (hr:RR t dx dy kd w h p rw rh rp) {kx:Int} {x:Iv} (hx:x.Ok kx) (hn:x.st.length≤8192) (h0:0≤base) (h1:base + csz t + 1≤(x.st.length:Int)) {out:List Int} (ho:out.length≤800000000) {K}:
    F_refine_Put_d0e fl base t dx dy false kd w h p rw rh rp kx x.lo x.hi true x.st out K
    = K (0,kx,(run kx x out (rwE t dx dy base w h p rw rh rp h.toNat)).1.lo,(run kx x out (rwE t dx dy base w h p rw rh rp h.toNat)).1.hi,true,(run kx x out (rwE t dx dy base w h p rw rh rp h.toNat)).1.st,(run kx x out (rwE t dx dy base w h p rw rh rp h.toNat)).2):=by
  have hcs:=csz_eq t
  have hw0:=hr.p.w0; have hw1:=hr.p.w1; have hh1:=hr.p.h1; have hh0:=hr.p.h0
  unfold F_refine_Put_d0e
  rw [put_bad]
  try dsimp only
  have hc:∀ K:Int→Option Ans,F_refine_contexts fl t K = K (csz t):=fun K=>by
    unfold F_refine_contexts Fg_refine_contexts F_refine_fresh csz
    rw [cb]
    rcases hr.t with rfl | rfl
    · rfl
    · rfl
  have hv:∀ {w h:Int} {p:List Int},Pix w h p→valid w h p = true:=fun {w h p} hp=>valid_iff.2 ⟨⟨hp.w0,hp.h0,hp.w1,hp.h1,hp.n⟩,hp.len,fun v hv=>(hp.bit v hv).2⟩
  rw [cond_f (b:=(2:Int)==7) rfl,rvalid_ok2 hfl hr]
  try dsimp only
  rw [cond_f (b:=!true) rfl,valid_ok hfl,hv hr.p]
  try dsimp only
  rw [cond_f (b:=!true) rfl,valid_ok hfl,hv hr.r]
  try dsimp only
  rw [cond_f (b:=!true) rfl,emodel_ok (by omega)]
  try dsimp only
  unfold F_refine_fits Fg_refine_fits F_refine_newRegion
  rw [dec_t (by omega),hc]
  try dsimp only
  rw [w6 (x:=(x.st.length:Int) - csz t),wrap64 (by omega) (by omega),decide_eq_true (by omega),cond_f (b:=!true) rfl]
  unfold L_refine_Put_d0e_1
  refine iter_seq (step:=S_refine_Put_d0e_1 fl) (fun i:Nat=>(base,h,(i:Int),kx,(run kx x out (rwE t dx dy base w h p rw rh rp i)).1.lo,(run kx x out (rwE t dx dy base w h p rw rh rp i)).1.hi,true,(run kx x out (rwE t dx dy base w h p rw rh rp i)).1.st,(run kx x out (rwE t dx dy base w h p rw rh rp i)).2,t,dx,dy,false,kd,w,h,p,t,dx,dy,false,kd,w,h,p,rw,rh,rp)) h.toNat rfl (fun i hi c=> ?_) (fun c=> ?_) (by omega)
  · obtain ⟨e1,e2⟩:=rwE_ok hr h0 h1 i
    have e3:i * w.toNat≤200 * 200:=Nat.mul_le_mul (by omega) (by omega)
    obtain ⟨ok,okl⟩:=run_ok (rwE t dx dy base w h p rw rh rp i) (out:=out) hx e1
    have hol:=run_len_le (rwE t dx dy base w h p rw rh rp i) (kd:=kx) (x:=x) (out:=out)
    have er:run kx x out (rwE t dx dy base w h p rw rh rp (i + 1)) = run kx (run kx x out (rwE t dx dy base w h p rw rh rp i)).1 (run kx x out (rwE t dx dy base w h p rw rh rp i)).2 (pxE t dx dy base w h p rw rh rp i w.toNat):=run_append kx _ _ _ _
    simp only [S_refine_Put_d0e_1,Sg_refine_Put_d0e_1]
    rw [er]
    generalize run kx x out (rwE t dx dy base w h p rw rh rp i) = R at *
    obtain ⟨X,O⟩:=R
    simp only at ok okl hol ⊢
    rw [dec_t (by omega),cond_false,cond_false,put_row hfl hr ok (by omega) h0 (by omega) (by omega) (by omega)]
    try dsimp only
    rw [wrap64 (by omega) (by omega)]
    rfl
  · simp only [S_refine_Put_d0e_1,Sg_refine_Put_d0e_1]
    rw [dec_f (by omega)]
end
end Go.Proofs.YtipdidpalcmlhaaGreat.Rf
namespace Go.Proofs.YtipdidpalcmlhaaGreat.Tx
open Go Ev Bm Co
abbrev Bmp:Type:=Int×Int×List Int
abbrev Item:Type:=Int×Int×Int×Bool×Int×Int×Int×Int×List Int
def ov (o0 o1 o3 o4 o5 o7:Int):Bool:=decide ((o0 = 1∨o0 = 2∨o0 = 4∨o0 = 8)∧0≤o1∧o1≤3∧ -16≤o3∧o3≤16∧0≤o4∧o4≤4∧(o5 = 0∨o5 = 1)∧(o7 = 0∨o7 = 1))
theorem ov_iff {o0 o1 o3 o4 o5 o7:Int}:ov o0 o1 o3 o4 o5 o7 = true↔(o0 = 1∨o0 = 2∨o0 = 4∨o0 = 8)∧0≤o1∧o1≤3∧ -16≤o3∧o3≤16∧0≤o4∧o4≤4∧(o5 = 0∨o5 = 1)∧(o7 = 0∨o7 = 1):=by simp [ov]
def shp (b:Bmp):Bool:=valid b.1 b.2.1 b.2.2&&decide (1≤b.1∧b.1≤40∧1≤b.2.1∧b.2.1≤40)
def near (x m:Int):Prop:= -m≤x∧x≤m
instance (x m:Int):Decidable (near x m):=by unfold near; infer_instance
def Item.pix (i:Item):Bmp:=(i.2.2.2.2.2.2.1,i.2.2.2.2.2.2.2.1,i.2.2.2.2.2.2.2.2)
def itm (rf:Bool) (n:Int) (i:Item):Bool:=
  decide (0≤i.1∧i.1 < n∧near i.2.1 100000∧near i.2.2.1 100000)&&
    (if i.2.2.2.1 = true then rf&&decide (near i.2.2.2.2.1 200∧near i.2.2.2.2.2.1 200)
     else decide (i.2.2.2.2.1 = 0∧i.2.2.2.2.2.1 = 0∧i.2.2.2.2.2.2.1 = 0∧i.2.2.2.2.2.2.2.1 = 0∧(i.2.2.2.2.2.2.2.2.length:Int) = 0))
def shpI (i:Item):Bool:=!i.2.2.2.1 || shp i.pix
def bErr (o0 o1 o3 o4 o5 o7:Int) (symbols:List Bmp) (l:List Item):Int:=
  if ov o0 o1 o3 o4 o5 o7 = true then (if symbols.all shp = true then (if l.all shpI = true then 0 else 30) else 30) else 2
def rights (rf:Bool) (n:Int) (l:List Item):Bool:=decide (n≤60)&&decide ((l.length:Int)≤300)&&l.all (itm rf n)
section
variable {fl:Nat} (hfl:9223372036854775808≤fl)
include hfl
theorem has4 {x:Int} {K:Bool→Option Ans}:F_slices_Contains_int_int fl [1,2,4,8] x K = K (decide (x = 1∨x = 2∨x = 4∨x = 8)):=by
  obtain ⟨m,rfl⟩:∃ m,fl = m + 5:=⟨fl - 5,by omega⟩
  unfold F_slices_Contains_int_int Fg_slices_Contains_int_int F_slices_Index_int_int L_slices_Index_int_int_0
  by_cases h1:x = 1
  · subst h1; rfl
  by_cases h2:x = 2
  · subst h2; rfl
  by_cases h4:x = 4
  · subst h4; rfl
  by_cases h8:x = 8
  · subst h8; rfl
  rw [decide_eq_false (by omega)]
  have e:∀ (i:Nat) (c:List Int×Int×Int×Int→Option Ans) (b:(Int→Option Ans)×(Unit→Option Ans)),i < 4→S_slices_Index_int_int_0 (m + 5) ([1,2,4,8],x,4,(i:Int)) c b = c ([1,2,4,8],x,4,((i + 1:Nat):Int)):=by
    intro i c b hi
    obtain ⟨ret,b⟩:=b
    have hh:i = 0∨i = 1∨i = 2∨i = 3:=by omega
    simp only [S_slices_Index_int_int_0]
    rw [dec_t (by omega),dec_t (show _∧_ from ⟨by omega,by show (i:Int) < 4; omega⟩),Int.toNat_natCast]
    rcases hh with rfl | rfl | rfl | rfl
    · rw [cond_f (by simp [h1])]; rfl
    · rw [cond_f (by simp [h2])]; rfl
    · rw [cond_f (by simp [h4])]; rfl
    · rw [cond_f (by simp [h8])]; rfl
  refine iter_seq (step:=S_slices_Index_int_int_0 (m + 5)) (fun i:Nat=>([1,2,4,8],x,4,(i:Int))) 4 rfl (fun i hi c=>e i c _ hi) (fun c=> ?_) (by omega)
  simp only [S_slices_Index_int_int_0]
  rw [dec_f (by omega)]
  rfl
theorem tvalid {o0 o1 o3 o4 o5 o7:Int} {tu rf:Bool} {K:Bool→Option Ans}:F_text_Valid fl o0 o1 tu o3 o4 o5 rf o7 K = K (ov o0 o1 o3 o4 o5 o7):=by
  unfold F_text_Valid Fg_text_Valid
  rw [has4 hfl]
  unfold ov
  by_cases h0:o0 = 1∨o0 = 2∨o0 = 4∨o0 = 8
  rotate_left
  · rw [decide_eq_false h0,cond_false]
    congr 1
    symm
    exact decide_eq_false (fun h=>h0 h.1)
  rw [decide_eq_true h0,cond_true]
  by_cases h1:0≤o1
  rotate_left
  · rw [dec_f (by omega),decide_eq_false (by omega)]
  by_cases h2:o1≤3
  rotate_left
  · rw [dec_t (by omega),dec_f (by omega),decide_eq_false (by omega)]
  by_cases h3: -16≤o3
  rotate_left
  · rw [dec_t (by omega),dec_t (by omega),dec_f (by omega),decide_eq_false (by omega)]
  by_cases h4:o3≤16
  rotate_left
  · rw [dec_t (by omega),dec_t (by omega),dec_t (by omega),dec_f (by omega),decide_eq_false (by omega)]
  by_cases h5:0≤o4
  rotate_left
  · rw [dec_t (by omega),dec_t (by omega),dec_t (by omega),dec_t (by omega),dec_f (by omega),decide_eq_false (by omega)]
  by_cases h6:o4≤4
  rotate_left
  · rw [dec_t (by omega),dec_t (by omega),dec_t (by omega),dec_t (by omega),dec_t (by omega),dec_f (by omega),decide_eq_false (by omega)]
  rw [dec_t (by omega),dec_t (by omega),dec_t (by omega),dec_t (by omega),dec_t (by omega),dec_t (by omega)]
  simp only [cb]
  have e7:(o7==1) = decide (o7 = 1):=rfl
  rw [e7]
  repeat' split
  all_goals congr 1
  all_goals first | (rw [decide_eq_true (by omega)]) | (rw [decide_eq_false (by omega)]) | skip
  all_goals first | (rw [decide_eq_decide]; omega) | (symm; rw [decide_eq_true_iff]; omega) | (symm; rw [decide_eq_false_iff_not]; omega) | skip
theorem isShape_ok {w h:Int} {p:List Int} {K:Bool→Option Ans}:F_text_isShape fl w h p K = K (shp (w,h,p)):=by
  unfold F_text_isShape Fg_text_isShape shp
  dsimp only
  rw [valid_ok hfl]
  cases valid w h p with
  | false=>rfl
  | true=>
    rw [cond_true]
    by_cases h1:w≥1
    rotate_left
    · rw [dec_f h1,decide_eq_false (by omega)]; rfl
    rw [dec_t h1]
    by_cases h2:w≤40
    rotate_left
    · rw [dec_f h2,decide_eq_false (by omega)]; rfl
    rw [dec_t h2]
    by_cases h3:h≥1
    rotate_left
    · rw [dec_f h3,decide_eq_false (by omega)]; rfl
    rw [dec_t h3,Bool.true_and]
    congr 1
    exact decide_eq_decide.2 (by omega)
theorem bm_loop {l:List Bmp} (hl:l.length≤1000000000000000) {K:Bool→Option Ans}:F_slices_ContainsFunc_api_Bitmap_api_Bitmap_261 fl l K = K (!l.all shp):=by
  unfold F_slices_ContainsFunc_api_Bitmap_api_Bitmap_261 Fg_slices_ContainsFunc_api_Bitmap_api_Bitmap_261 F_slices_IndexFunc_api_Bitmap_api_Bitmap_261 Fg_slices_IndexFunc_api_Bitmap_api_Bitmap_261 L_slices_IndexFunc_api_Bitmap_api_Bitmap_261_0
  have st:∀ i:Nat,i < l.length→∀ c ret b,S_slices_IndexFunc_api_Bitmap_api_Bitmap_261_0 fl (l,(l.length:Int),(i:Int)) c (ret,b) = if shp (l.getD i (0,0,[])) = true then c (l,(l.length:Int),((i + 1:Nat):Int)) else ret (i:Int):=by
    intro i hi c ret b
    simp only [S_slices_IndexFunc_api_Bitmap_api_Bitmap_261_0,Sg_slices_IndexFunc_api_Bitmap_api_Bitmap_261_0,F_text_begun_1,Fg_text_begun_1]
    rw [dec_t (by omega),dec_t (by omega),Int.toNat_natCast,isShape_ok hfl]
    try dsimp only
    rw [show ((l.getD i (0,0,[])).fst,(l.getD i (0,0,[])).snd.fst,(l.getD i (0,0,[])).snd.snd) = l.getD i (0,0,[]) from rfl,wrap64 (by omega) (by omega)]
    cases shp (l.getD i (0,0,[])) <;> rfl
  rcases all_or_first shp (0,0,[]) l with ha | ⟨n,hn,hb,hi⟩
  · rw [ha]
    refine iter_to (step:=S_slices_IndexFunc_api_Bitmap_api_Bitmap_261_0 fl) (fun i:Nat=>(l,(l.length:Int),(i:Int))) l.length (fun i hi c=>by rw [st i hi,if_pos (all_getD ha _ hi)]) (fun c=> ?_) (by omega)
    simp only [S_slices_IndexFunc_api_Bitmap_api_Bitmap_261_0,Sg_slices_IndexFunc_api_Bitmap_api_Bitmap_261_0]
    rw [dec_f (by omega)]
    rfl
  · rw [not_all hn hb]
    refine iter_to (step:=S_slices_IndexFunc_api_Bitmap_api_Bitmap_261_0 fl) (fun i:Nat=>(l,(l.length:Int),(i:Int))) n (fun i hi' c=>by rw [st i (by omega),if_pos (hi i hi')]) (fun c=> ?_) (by omega)
    rw [st n hn,if_neg (by rw [hb]; simp)]
    show K (decide ((n:Int)≥0)) = K true
    rw [decide_eq_true (by omega)]
theorem it_loop {l:List Item} (hl:l.length≤1000000000000000) {K:Bool→Option Ans}:F_slices_ContainsFunc_api_Item_api_Item_177 fl l K = K (!l.all shpI):=by
  unfold F_slices_ContainsFunc_api_Item_api_Item_177 Fg_slices_ContainsFunc_api_Item_api_Item_177 F_slices_IndexFunc_api_Item_api_Item_177 Fg_slices_IndexFunc_api_Item_api_Item_177 L_slices_IndexFunc_api_Item_api_Item_177_0
  have st:∀ i:Nat,i < l.length→∀ c ret b,S_slices_IndexFunc_api_Item_api_Item_177_0 fl (l,(l.length:Int),(i:Int)) c (ret,b) = if shpI (l.getD i (0,0,0,false,0,0,0,0,[])) = true then c (l,(l.length:Int),((i + 1:Nat):Int)) else ret (i:Int):=by
    intro i hi c ret b
    simp only [S_slices_IndexFunc_api_Item_api_Item_177_0,Sg_slices_IndexFunc_api_Item_api_Item_177_0,F_text_begun_2,Fg_text_begun_2]
    rw [dec_t (by omega),dec_t (by omega),Int.toNat_natCast,isShape_ok hfl,wrap64 (by omega) (by omega)]
    generalize l.getD i (0,0,0,false,0,0,0,0,[]) = it
    unfold shpI Item.pix
    cases it.2.2.2.1 with
    | false=>rfl
    | true=>
      rw [cond_true]
      cases shp (it.2.2.2.2.2.2.1,it.2.2.2.2.2.2.2.1,it.2.2.2.2.2.2.2.2) <;> rfl
  rcases all_or_first shpI (0,0,0,false,0,0,0,0,[]) l with ha | ⟨n,hn,hb,hi⟩
  · rw [ha]
    refine iter_to (step:=S_slices_IndexFunc_api_Item_api_Item_177_0 fl) (fun i:Nat=>(l,(l.length:Int),(i:Int))) l.length (fun i hi c=>by rw [st i hi,if_pos (all_getD ha _ hi)]) (fun c=> ?_) (by omega)
    simp only [S_slices_IndexFunc_api_Item_api_Item_177_0,Sg_slices_IndexFunc_api_Item_api_Item_177_0]
    rw [dec_f (by omega)]
    rfl
  · rw [not_all hn hb]
    refine iter_to (step:=S_slices_IndexFunc_api_Item_api_Item_177_0 fl) (fun i:Nat=>(l,(l.length:Int),(i:Int))) n (fun i hi' c=>by rw [st i (by omega),if_pos (hi i hi')]) (fun c=> ?_) (by omega)
    rw [st n hn,if_neg (by rw [hb]; simp)]
    show K (decide ((n:Int)≥0)) = K true
    rw [decide_eq_true (by omega)]
theorem begun_ok {o0 o1 o3 o4 o5 o7:Int} {tu rf:Bool} {symbols:List Bmp} {l:List Item} (hs:symbols.length≤1000000000000000) (hl:l.length≤1000000000000000) {K:Int→Option Ans}:
    F_text_begun fl o0 o1 tu o3 o4 o5 rf o7 symbols l K = K (bErr o0 o1 o3 o4 o5 o7 symbols l):=by
  unfold F_text_begun Fg_text_begun bErr
  rw [tvalid hfl]
  cases ov o0 o1 o3 o4 o5 o7 with
  | false=>rfl
  | true=>
    rw [cond_f (b:=!true) rfl,bm_loop hfl hs]
    cases symbols.all shp with
    | false=>rfl
    | true=>
      rw [cond_f (b:=!true) rfl,it_loop hfl hl]
      cases l.all shpI <;> rfl
end
theorem near_ok {fl:Nat} {x m:Int} (h0:0≤m) (h1:m≤1000000) {K:Bool→Option Ans}:F_text_near fl x m K = K (decide (near x m)):=by
  unfold F_text_near near
  rw [w6 (x:=0 - m)]
  by_cases h:x≥0 - m
  · rw [dec_t h]
    congr 1
    exact decide_eq_decide.2 (by omega)
  · rw [dec_f h]
    congr 1
    symm
    exact decide_eq_false (by omega)
theorem rightItem_ok {fl:Nat} {o0 o1 o3 o4 o5 o7 n:Int} {tu rf:Bool} {i:Item} {K:Bool→Option Ans}:
    F_text_rightItem fl o0 o1 tu o3 o4 o5 rf o7 n i.1 i.2.1 i.2.2.1 i.2.2.2.1 i.2.2.2.2.1 i.2.2.2.2.2.1 i.2.2.2.2.2.2.1 i.2.2.2.2.2.2.2.1 i.2.2.2.2.2.2.2.2 K = K (itm rf n i):=by
  obtain ⟨a,s,t,r,dx,dy,w,h,p⟩:=i
  unfold F_text_rightItem Fg_text_rightItem itm
  dsimp only
  by_cases h1:a < 0
  · rw [dec_t h1,decide_eq_false (by omega)]; rfl
  rw [dec_f h1]
  by_cases h2:a≥n
  · rw [dec_t h2,decide_eq_false (by omega)]; rfl
  rw [dec_f h2,near_ok (by omega) (by omega)]
  by_cases h3:near s 100000
  rotate_left
  · rw [decide_eq_false h3,decide_eq_false (fun h=>h3 h.2.2.1)]; rfl
  rw [decide_eq_true h3,cond_f (b:=!true) rfl,near_ok (by omega) (by omega)]
  by_cases h4:near t 100000
  rotate_left
  · rw [decide_eq_false h4,decide_eq_false (fun h=>h4 h.2.2.2)]; rfl
  rw [decide_eq_true h4,cond_f (b:=!true) rfl,decide_eq_true (show 0≤a∧a < n∧near s 100000∧near t 100000 from ⟨by omega,by omega,h3,h4⟩),Bool.true_and]
  cases r with
  | false=>
    rw [cond_t (b:=!false) rfl,if_neg (by simp)]
    simp only [cb]
    have e:((p.length:Int)==0) = decide ((p.length:Int) = 0):=rfl
    rw [e]
    repeat' split
    all_goals congr 1
    · exact decide_eq_decide.2 (by omega)
    all_goals rw [decide_eq_false (by omega)]
  | true=>
    rw [cond_f (b:=!true) rfl,if_pos rfl]
    cases rf with
    | false=>rfl
    | true=>
      rw [cond_true,near_ok (by omega) (by omega)]
      by_cases h5:near dx 200
      · rw [decide_eq_true h5,cond_true,near_ok (by omega) (by omega),Bool.true_and]
        congr 1
        exact decide_eq_decide.2 ⟨fun h=>⟨h5,h⟩,fun h=>h.2⟩
      · rw [decide_eq_false h5,decide_eq_false (fun h=>h5 h.1)]; rfl
section
variable {fl:Nat} (hfl:9223372036854775808≤fl)
include hfl
theorem right_ok {o0 o1 o3 o4 o5 o7 n:Int} {tu rf:Bool} {l:List Item} {K:Bool→Option Ans}:F_text_right fl o0 o1 tu o3 o4 o5 rf o7 n l K = K (rights rf n l):=by
  unfold F_text_right Fg_text_right rights
  by_cases h1:n≤60
  rotate_left
  · rw [dec_f h1,decide_eq_false h1]; rfl
  rw [dec_t h1,decide_eq_true h1]
  by_cases h2:(l.length:Int)≤300
  rotate_left
  · rw [dec_f h2,decide_eq_false h2]; rfl
  rw [dec_t h2,decide_eq_true h2]
  unfold F_slices_ContainsFunc_api_Item_api_Item_766 Fg_slices_ContainsFunc_api_Item_api_Item_766 F_slices_IndexFunc_api_Item_api_Item_766 Fg_slices_IndexFunc_api_Item_api_Item_766 L_slices_IndexFunc_api_Item_api_Item_766_0
  have st:∀ i:Nat,i < l.length→∀ c ret b,S_slices_IndexFunc_api_Item_api_Item_766_0 fl (l,(l.length:Int),(i:Int),o0,o1,tu,o3,o4,o5,rf,o7,n) c (ret,b) = if itm rf n (l.getD i (0,0,0,false,0,0,0,0,[])) = true then c (l,(l.length:Int),((i + 1:Nat):Int),o0,o1,tu,o3,o4,o5,rf,o7,n) else ret ((i:Int),o0,o1,tu,o3,o4,o5,rf,o7,n):=by
    intro i hi c ret b
    simp only [S_slices_IndexFunc_api_Item_api_Item_766_0,Sg_slices_IndexFunc_api_Item_api_Item_766_0,F_text_right_1_e36,Fg_text_right_1_e36]
    rw [dec_t (by omega),dec_t (by omega),Int.toNat_natCast,rightItem_ok]
    try dsimp only
    rw [wrap64 (by omega) (by omega)]
    cases itm rf n (l.getD i (0,0,0,false,0,0,0,0,[])) <;> rfl
  rcases all_or_first (itm rf n) (0,0,0,false,0,0,0,0,[]) l with ha | ⟨j,hn,hb,hi⟩
  · rw [ha]
    refine iter_to (step:=S_slices_IndexFunc_api_Item_api_Item_766_0 fl) (fun i:Nat=>(l,(l.length:Int),(i:Int),o0,o1,tu,o3,o4,o5,rf,o7,n)) l.length (fun i hi c=>by rw [st i hi,if_pos (all_getD ha _ hi)]) (fun c=> ?_) (by omega)
    simp only [S_slices_IndexFunc_api_Item_api_Item_766_0,Sg_slices_IndexFunc_api_Item_api_Item_766_0]
    rw [dec_f (by omega)]
    rfl
  · rw [not_all hn hb]
    refine iter_to (step:=S_slices_IndexFunc_api_Item_api_Item_766_0 fl) (fun i:Nat=>(l,(l.length:Int),(i:Int),o0,o1,tu,o3,o4,o5,rf,o7,n)) j (fun i hi' c=>by rw [st i (by omega),if_pos (hi i hi')]) (fun c=> ?_) (by omega)
    rw [st j hn,if_neg (by rw [hb]; simp)]
    show K (!decide ((j:Int)≥0)) = K (true&&true&&false)
    rw [decide_eq_true (by omega)]
    rfl
end
open Go Ev Bm Co
theorem rsize_ok {fl:Nat} {w h:Int} {K:Bool→Option Ans}:F_ref06_IsSize fl w h K = K (fit w h):=by
  unfold F_ref06_IsSize fit
  by_cases h1:w≥0
  rotate_left
  · rw [dec_f h1,decide_eq_false (by omega)]
  by_cases h2:w≤200
  rotate_left
  · rw [dec_t h1,dec_f h2,decide_eq_false (by omega)]
  by_cases h3:h≥0
  rotate_left
  · rw [dec_t h1,dec_t h2,dec_f h3,decide_eq_false (by omega)]
  by_cases h4:h≤200
  rotate_left
  · rw [dec_t h1,dec_t h2,dec_t h3,dec_f h4,decide_eq_false (by omega)]
  rw [dec_t h1,dec_t h2,dec_t h3,dec_t h4]
  obtain ⟨q1,q2⟩:=mul_le (a:=200) (b:=200) h1 h2 h3 h4
  rw [wrap64 (by omega) (by omega)]
  congr 1
  exact decide_eq_decide.2 (by omega)
section
variable {fl:Nat} (hfl:9223372036854775808≤fl)
include hfl
theorem rrow_ok {p:List Int} (hp:p.length≤1000000000000000) {K:Bool→Option Ans}:F_ref06_IsRow fl p K = K (p.all fun x=>decide (x≤1)):=by
  unfold F_ref06_IsRow L_ref06_IsRow_0
  rcases all_or_first (fun x:Int=>decide (x≤1)) 0 p with ha | ⟨n,hn,hb,hi⟩
  · rw [ha]
    refine iter_to (step:=S_ref06_IsRow_0 fl) (fun i:Nat=>(p,(p.length:Int),(i:Int))) p.length (fun i hi c=> ?_) (fun c=> ?_) (by omega)
    · have:=of_decide_eq_true (all_getD ha 0 hi)
      simp only [S_ref06_IsRow_0]
      rw [dec_t (by omega),dec_t (by omega),Int.toNat_natCast,dec_f (by omega),wrap64 (by omega) (by omega)]
      rfl
    · simp only [S_ref06_IsRow_0]
      rw [dec_f (by omega)]
  · rw [not_all hn hb]
    refine iter_to (step:=S_ref06_IsRow_0 fl) (fun i:Nat=>(p,(p.length:Int),(i:Int))) n (fun i hi' c=> ?_) (fun c=> ?_) (by omega)
    · have:=of_decide_eq_true (hi i hi')
      simp only [S_ref06_IsRow_0]
      rw [dec_t (by omega),dec_t (by omega),Int.toNat_natCast,dec_f (by omega),wrap64 (by omega) (by omega)]
      rfl
    · have:=of_decide_eq_false hb
      simp only [S_ref06_IsRow_0]
      rw [dec_t (by omega),dec_t (by omega),Int.toNat_natCast,dec_t (by omega)]
theorem rbitmap_ok {w h:Int} {p:List Int} {K:Bool→Option Ans}:F_ref06_IsBitmap fl w h p K = K (valid w h p):=by
  unfold F_ref06_IsBitmap Fg_ref06_IsBitmap valid
  rw [rsize_ok]
  cases hf:fit w h with
  | false=>rfl
  | true=>
    have hm:=fit_iff.1 hf
    rw [cond_true,fit_mul hf,Bool.true_and]
    by_cases hl:(p.length:Int) = w * h
    · rw [cond_t (by simp [hl]),rrow_ok hfl (by omega),decide_eq_true hl,Bool.true_and]
    · rw [cond_f (by simp [hl]),decide_eq_false hl,Bool.false_and]
theorem rshape_ok {w h:Int} {p:List Int} {K:Bool→Option Ans}:F_ref10_IsShape fl w h p K = K (shp (w,h,p)):=by
  unfold F_ref10_IsShape Fg_ref10_IsShape shp
  dsimp only
  rw [rbitmap_ok hfl]
  cases valid w h p with
  | false=>rfl
  | true=>
    rw [cond_true]
    by_cases h1:w≥1
    rotate_left
    · rw [dec_f h1,decide_eq_false (by omega)]; rfl
    rw [dec_t h1]
    by_cases h2:w≤40
    rotate_left
    · rw [dec_f h2,decide_eq_false (by omega)]; rfl
    rw [dec_t h2]
    by_cases h3:h≥1
    rotate_left
    · rw [dec_f h3,decide_eq_false (by omega)]; rfl
    rw [dec_t h3,Bool.true_and]
    congr 1
    exact decide_eq_decide.2 (by omega)
end
theorem rvalid {fl:Nat} {o0 o1 o3 o4 o5 o7:Int} {tu rf:Bool} {K:Bool→Option Ans}:F_ref10_Valid fl o0 o1 tu o3 o4 o5 rf o7 K = K (ov o0 o1 o3 o4 o5 o7):=by
  unfold F_ref10_Valid ov
  simp only [cn,cd]
  have rest:(if o1≥0 then if o1≤3 then if o3≥ -16 then if o3≤16 then if o4≥0 then if o4≤4 then if o5≥0 then if o5≤1 then if o7≥0 then K (decide (o7≤1)) else K false else K false else K false else K false else K false else K false else K false else K false else K false) = K (decide (0≤o1∧o1≤3∧ -16≤o3∧o3≤16∧0≤o4∧o4≤4∧(o5 = 0∨o5 = 1)∧(o7 = 0∨o7 = 1))):=by
    by_cases h1:o1≥0
    rotate_left
    · rw [if_neg h1,decide_eq_false (by omega)]
    by_cases h2:o1≤3
    rotate_left
    · rw [if_pos h1,if_neg h2,decide_eq_false (by omega)]
    by_cases h3:o3≥ -16
    rotate_left
    · rw [if_pos h1,if_pos h2,if_neg h3,decide_eq_false (by omega)]
    by_cases h4:o3≤16
    rotate_left
    · rw [if_pos h1,if_pos h2,if_pos h3,if_neg h4,decide_eq_false (by omega)]
    by_cases h5:o4≥0
    rotate_left
    · rw [if_pos h1,if_pos h2,if_pos h3,if_pos h4,if_neg h5,decide_eq_false (by omega)]
    by_cases h6:o4≤4
    rotate_left
    · rw [if_pos h1,if_pos h2,if_pos h3,if_pos h4,if_pos h5,if_neg h6,decide_eq_false (by omega)]
    by_cases h7:o5≥0
    rotate_left
    · rw [if_pos h1,if_pos h2,if_pos h3,if_pos h4,if_pos h5,if_pos h6,if_neg h7,decide_eq_false (by omega)]
    by_cases h8:o5≤1
    rotate_left
    · rw [if_pos h1,if_pos h2,if_pos h3,if_pos h4,if_pos h5,if_pos h6,if_pos h7,if_neg h8,decide_eq_false (by omega)]
    by_cases h9:o7≥0
    rotate_left
    · rw [if_pos h1,if_pos h2,if_pos h3,if_pos h4,if_pos h5,if_pos h6,if_pos h7,if_pos h8,if_neg h9,decide_eq_false (by omega)]
    rw [if_pos h1,if_pos h2,if_pos h3,if_pos h4,if_pos h5,if_pos h6,if_pos h7,if_pos h8,if_pos h9]
    exact congrArg K (decide_eq_decide.2 (by omega))
  rw [rest]
  by_cases a1:o0 = 1
  · rw [if_pos a1]
    exact congrArg K (decide_eq_decide.2 (by omega))
  by_cases a2:o0 = 2
  · rw [if_neg a1,if_pos a2]
    exact congrArg K (decide_eq_decide.2 (by omega))
  by_cases a3:o0 = 4
  · rw [if_neg a1,if_neg a2,if_pos a3]
    exact congrArg K (decide_eq_decide.2 (by omega))
  by_cases a4:o0 = 8
  · rw [if_neg a1,if_neg a2,if_neg a3,if_pos a4]
    exact congrArg K (decide_eq_decide.2 (by omega))
  rw [if_neg a1,if_neg a2,if_neg a3,if_neg a4]
  exact congrArg K (decide_eq_false (by omega)).symm
theorem shift_ok {fl:Nat} {x:Int} {K:Bool→Option Ans}:F_ref10_isShift fl x K = K (decide (near x 100000)):=by
  unfold F_ref10_isShift near
  by_cases h:x≥ -100000
  · rw [dec_t h]
    congr 1
    exact decide_eq_decide.2 (by omega)
  · rw [dec_f h]
    congr 1
    symm
    exact decide_eq_false (by omega)
theorem side_ok {fl:Nat} {x:Int} {K:Bool→Option Ans}:F_ref10_isSide fl x K = K (decide (near x 200)):=by
  unfold F_ref10_isSide near
  by_cases h:x≥ -200
  · rw [dec_t h]
    congr 1
    exact decide_eq_decide.2 (by omega)
  · rw [dec_f h]
    congr 1
    symm
    exact decide_eq_false (by omega)
theorem isItem_ok {fl:Nat} {o0 o1 o3 o4 o5 o7 n:Int} {tu rf:Bool} {i:Item} {K:Bool→Option Ans}:
    F_ref10_isItem fl o0 o1 tu o3 o4 o5 rf o7 n i.1 i.2.1 i.2.2.1 i.2.2.2.1 i.2.2.2.2.1 i.2.2.2.2.2.1 i.2.2.2.2.2.2.1 i.2.2.2.2.2.2.2.1 i.2.2.2.2.2.2.2.2 K = K (itm rf n i):=by
  obtain ⟨a,s,t,r,dx,dy,w,h,p⟩:=i
  unfold F_ref10_isItem Fg_ref10_isItem itm
  dsimp only
  by_cases h1:a < 0
  · rw [dec_t h1,decide_eq_false (by omega)]; rfl
  rw [dec_f h1]
  by_cases h2:a≥n
  · rw [dec_t h2,decide_eq_false (by omega)]; rfl
  rw [dec_f h2,shift_ok]
  by_cases h3:near s 100000
  rotate_left
  · rw [decide_eq_false h3,decide_eq_false (fun h=>h3 h.2.2.1)]; rfl
  rw [decide_eq_true h3,cond_f (b:=!true) rfl,shift_ok]
  by_cases h4:near t 100000
  rotate_left
  · rw [decide_eq_false h4,decide_eq_false (fun h=>h4 h.2.2.2)]; rfl
  rw [decide_eq_true h4,cond_f (b:=!true) rfl,decide_eq_true (show 0≤a∧a < n∧near s 100000∧near t 100000 from ⟨by omega,by omega,h3,h4⟩),Bool.true_and]
  cases r with
  | false=>
    rw [cond_false,if_neg (by simp)]
    simp only [cb]
    have e:((p.length:Int)==0) = decide ((p.length:Int) = 0):=rfl
    rw [e]
    repeat' split
    all_goals congr 1
    · exact decide_eq_decide.2 (by omega)
    all_goals rw [decide_eq_false (by omega)]
  | true=>
    rw [cond_true,if_pos rfl]
    cases rf with
    | false=>rfl
    | true=>
      rw [cond_true,side_ok]
      by_cases h5:near dx 200
      · rw [decide_eq_true h5,cond_true,side_ok,Bool.true_and]
        congr 1
        exact decide_eq_decide.2 ⟨fun h=>⟨h5,h⟩,fun h=>h.2⟩
      · rw [decide_eq_false h5,decide_eq_false (fun h=>h5 h.1)]; rfl
def rErr (o0 o1 o3 o4 o5 o7:Int) (rf:Bool) (symbols:List Bmp) (l:List Item) (right:Bool) (many:Int):Int:=
  if ov o0 o1 o3 o4 o5 o7 = true then (if (right&&symbols.all shp&&l.all shpI) = true then (if (decide ((symbols.length:Int)≤60)&&decide ((l.length:Int)≤300)&&l.all (itm rf many)) = true then 0 else 2) else 30) else 2
section
variable {fl:Nat} (hfl:9223372036854775808≤fl)
include hfl
theorem asked_ok {o0 o1 o3 o4 o5 o7 many:Int} {tu rf right:Bool} {symbols:List Bmp} {l:List Item} (hs:symbols.length≤1000000000000000) (hl:l.length≤1000000000000000) {K:Int→Option Ans}:
    F_ref10_asked fl o0 o1 tu o3 o4 o5 rf o7 symbols l right many K = K (rErr o0 o1 o3 o4 o5 o7 rf symbols l right many):=by
  unfold F_ref10_asked Fg_ref10_asked rErr
  rw [rvalid]
  cases ov o0 o1 o3 o4 o5 o7 with
  | false=>rfl
  | true=>
    rw [cond_f (b:=!true) rfl,if_pos rfl]
    unfold L_ref10_asked_0
    refine iter_seq (step:=S_ref10_asked_0 fl) (fun i:Nat=>(symbols,l,right&&(symbols.take i).all shp,many,symbols,(symbols.length:Int),(i:Int),o0,o1,tu,o3,o4,o5,rf,o7)) symbols.length (by simp) (fun i hi c=> ?_) (fun c=> ?_) (by omega)
    · simp only [S_ref10_asked_0,Sg_ref10_asked_0]
      rw [dec_t (by omega),dec_t (by omega),Int.toNat_natCast,wrap64 (by omega) (by omega),all_take_succ hi (0,0,[]), ← Bool.and_assoc]
      cases right&&(symbols.take i).all shp with
      | false=>rfl
      | true=>
        rw [cond_true,rshape_ok hfl,Bool.true_and]
        rfl
    simp only [S_ref10_asked_0,Sg_ref10_asked_0]
    rw [dec_f (by omega),List.take_length]
    try dsimp only
    unfold L_ref10_asked_2
    refine iter_seq (step:=S_ref10_asked_2 fl) (fun i:Nat=>(symbols,l,right&&symbols.all shp&&(l.take i).all shpI,many,l,(l.length:Int),(i:Int),o0,o1,tu,o3,o4,o5,rf,o7)) l.length (by simp) (fun i hi c=> ?_) (fun c=> ?_) (by omega)
    · simp only [S_ref10_asked_2,Sg_ref10_asked_2]
      rw [dec_t (by omega),dec_t (by omega),Int.toNat_natCast,wrap64 (by omega) (by omega),all_take_succ hi (0,0,0,false,0,0,0,0,[]), ← Bool.and_assoc]
      generalize l.getD i (0,0,0,false,0,0,0,0,[]) = it
      cases right&&symbols.all shp&&(l.take i).all shpI with
      | false=>rfl
      | true=>
        rw [cond_true,Bool.true_and]
        unfold shpI Item.pix
        cases it.2.2.2.1 with
        | false=>rfl
        | true=>
          rw [cond_f (b:=!true) rfl,rshape_ok hfl]
          rfl
    simp only [S_ref10_asked_2,Sg_ref10_asked_2]
    rw [dec_f (by omega),List.take_length]
    try dsimp only
    cases right&&symbols.all shp&&l.all shpI with
    | false=>rfl
    | true=>
      rw [cond_f (b:=!true) rfl,if_pos rfl]
      by_cases h1:(symbols.length:Int) > 60
      · rw [dec_t h1,decide_eq_false (show ¬ (symbols.length:Int)≤60 by omega)]; rfl
      rw [dec_f h1,decide_eq_true (show (symbols.length:Int)≤60 by omega)]
      by_cases h2:(l.length:Int) > 300
      · rw [dec_t h2,decide_eq_false (show ¬ (l.length:Int)≤300 by omega)]; rfl
      rw [dec_f h2,decide_eq_true (show (l.length:Int)≤300 by omega),Bool.true_and,Bool.true_and]
      unfold L_ref10_asked_4
      have st:∀ i:Nat,i < l.length→∀ c ret b,S_ref10_asked_4 fl (many,l,(l.length:Int),(i:Int),o0,o1,tu,o3,o4,o5,rf,o7) c (ret,b) = if itm rf many (l.getD i (0,0,0,false,0,0,0,0,[])) = true then c (many,l,(l.length:Int),((i + 1:Nat):Int),o0,o1,tu,o3,o4,o5,rf,o7) else ret 2:=by
        intro i hi c ret b
        simp only [S_ref10_asked_4,Sg_ref10_asked_4]
        rw [dec_t (by omega),dec_t (by omega),Int.toNat_natCast,isItem_ok]
        try dsimp only
        rw [wrap64 (by omega) (by omega)]
        cases itm rf many (l.getD i (0,0,0,false,0,0,0,0,[])) <;> rfl
      rcases all_or_first (itm rf many) (0,0,0,false,0,0,0,0,[]) l with ha | ⟨j,hn,hb,hi⟩
      · rw [ha,if_pos rfl]
        refine iter_to (step:=S_ref10_asked_4 fl) (fun i:Nat=>(many,l,(l.length:Int),(i:Int),o0,o1,tu,o3,o4,o5,rf,o7)) l.length (fun i hi c=>by rw [st i hi,if_pos (all_getD ha _ hi)]) (fun c=> ?_) (by omega)
        simp only [S_ref10_asked_4,Sg_ref10_asked_4]
        rw [dec_f (by omega)]
      · rw [not_all hn hb,if_neg (by simp)]
        refine iter_to (step:=S_ref10_asked_4 fl) (fun i:Nat=>(many,l,(l.length:Int),(i:Int),o0,o1,tu,o3,o4,o5,rf,o7)) j (fun i hi' c=>by rw [st i (by omega),if_pos (hi i hi')]) (fun c=> ?_) (by omega)
        rw [st j hn,if_neg (by rw [hb]; simp)]
end
theorem rErr_eq {o0 o1 o3 o4 o5 o7:Int} {rf:Bool} {symbols:List Bmp} {l:List Item} {many:Int}:rErr o0 o1 o3 o4 o5 o7 rf symbols l true many = if bErr o0 o1 o3 o4 o5 o7 symbols l = 0 then (if (decide ((symbols.length:Int)≤60)&&decide ((l.length:Int)≤300)&&l.all (itm rf many)) = true then 0 else 2) else bErr o0 o1 o3 o4 o5 o7 symbols l:=by
  unfold rErr bErr
  cases ov o0 o1 o3 o4 o5 o7 <;> cases symbols.all shp <;> cases l.all shpI <;> simp
end Go.Proofs.YtipdidpalcmlhaaGreat.Tx
namespace Go.Proofs.YtipdidpalcmlhaaGreat.Dc
open Go Ev Bm Co
abbrev shB (base:Int) (e:Int×Int):Int×Int:=(base + e.1,e.2)
theorem onesEv_base (base:Int):∀ c,onesEv base c = (onesEv 0 c).map (shB base)
  | 0=>rfl
  | c + 1=>by
    rw [onesEv,onesEv,List.map_append,onesEv_base base c]
    congr 1
    show [(base + 1 + (c:Int),(1:Int))] = [(base + (0 + 1 + (c:Int)),1)]
    rw [show base + (0 + 1 + (c:Int)) = base + 1 + (c:Int) by omega]
theorem digEv_base (base:Int) (v c:Nat):∀ j,digEv base v c j = (digEv 0 v c j).map (shB base)
  | 0=>rfl
  | j + 1=>by
    rw [digEv,digEv,List.map_append,digEv_base base v c j]
    congr 1
    show [(base + digC c j,_)] = [(base + (0 + digC c j),_)]
    rw [Int.zero_add]
theorem numEv_base (base:Int) (o:Bool) (n:Int):numEv base o n = (numEv 0 o n).map (shB base):=by
  unfold numEv
  cases o with
  | true=>
    show [(base,(1:Int))] = [(base + 0,1)]
    rw [Int.add_zero]
  | false=>
    rw [if_neg (show ¬ (false = true) by simp),if_neg (show ¬ (false = true) by simp)]
    simp only [List.map_append,List.map_cons]
    rw [← onesEv_base, ← digEv_base]
    have e1:shB base (0,0) = (base,0):=by
      show (base + 0,(0:Int)) = (base,0)
      rw [Int.add_zero]
    rw [e1]
    generalize Nat.log2 (n.natAbs + 1) = c
    have e2:(if c < 20 then [(base + 1 + (c:Int),(0:Int))] else []) = (if c < 20 then [(0 + 1 + (c:Int),(0:Int))] else []).map (shB base):=by
      split
      · show [(base + 1 + (c:Int),(0:Int))] = [(base + (0 + 1 + (c:Int)),0)]
        rw [show base + (0 + 1 + (c:Int)) = base + 1 + (c:Int) by omega]
      · rfl
    have e3:(if n = 0 then [] else [(base + 22,if n < 0 then (1:Int) else 0)]) = (if n = 0 then [] else [(0 + 22,if n < 0 then (1:Int) else 0)]).map (shB base):=by
      split
      · rfl
      · show [(base + 22,_)] = [(base + (0 + 22),_)]
        rfl
    rw [e2,e3]
def digs (v n:Nat):List Int:=(List.range n).map fun j=>((v / 2 ^ j % 2:Nat):Int)
theorem digs_len (v n:Nat):(digs v n).length = n:=by simp [digs]
section
variable {fl:Nat} (hfl:9223372036854775808≤fl)
include hfl
theorem ev0 {m sg:Int} {v c:Nat} (hc:c≤20) (h0:2 ^ c≤v) (h1:v < 2 ^ (c + 1)) {e:List (Int×Int)} {b}:
    L_ref03_events_0 fl (m,sg,(v:Int),e,[]) b = b (m,sg,e,digs v (c + 1)):=by
  have h21:2 ^ (c + 1)≤2 ^ 21:=Nat.pow_le_pow_right (by omega) (by omega)
  unfold L_ref03_events_0
  refine iter_seq (step:=S_ref03_events_0 fl) (fun i:Nat=>(m,sg,((v / 2 ^ i:Nat):Int),e,digs v i)) (c + 1) (by rw [Nat.pow_zero,Nat.div_one]; rfl) (fun i hi k=> ?_) (fun k=> ?_) (by omega)
  · have hp:0 < v / 2 ^ i:=Nat.div_pos (Nat.le_trans (Nat.pow_le_pow_right (by omega) (by omega)) h0) (Nat.pow_pos (by omega))
    have hle:=Nat.div_le_self v (2 ^ i)
    simp only [S_ref03_events_0]
    rw [dec_t (by omega),dec_t (by rw [digs_len]; simp; omega),Int.tdiv_eq_ediv_of_nonneg (by omega),Int.tmod_eq_emod_of_nonneg (by omega),wrap64 (by omega) (by omega)]
    have e1:((v / 2 ^ i:Nat):Int) / 2 = ((v / 2 ^ (i + 1):Nat):Int):=by
      rw [Nat.pow_succ, ← Nat.div_div_eq_div_mul]
      omega
    have e2:((v / 2 ^ i:Nat):Int) % 2 = ((v / 2 ^ i % 2:Nat):Int):=by omega
    have e3:digs v (i + 1) = digs v i++ [((v / 2 ^ i % 2:Nat):Int)]:=range_map_succ _ i
    rw [e1,e2,e3]
  · simp only [S_ref03_events_0]
    rw [Nat.div_eq_of_lt h1,dec_f (by omega)]
theorem ev2 {m sg:Int} {c:Nat} (hc:c≤20) {e:List (Int×Int)} (he:e.length≤10) {ds:List Int} {b}:
    L_ref03_events_2 fl (m,sg,(c:Int),0,e,ds) b = b (m,sg,(c:Int),e++onesEv 0 c,ds):=by
  unfold L_ref03_events_2
  refine iter_seq (step:=S_ref03_events_2 fl) (fun i:Nat=>(m,sg,(c:Int),(i:Int),e++onesEv 0 i,ds)) c (by simp [onesEv]) (fun i hi k=> ?_) (fun k=> ?_) (by omega)
  · have hl:=onesEv_len 0 i
    simp only [S_ref03_events_2]
    rw [dec_t (by omega),dec_t (by simp; omega),w6 (x:=1 + (i:Int)),w6 (x:=(i:Int) + 1),onesEv,List.append_assoc,show (0:Int) + 1 + (i:Int) = 1 + (i:Int) by omega]
    rfl
  · simp only [S_ref03_events_2]
    rw [dec_f (by omega)]
theorem ev4 {m sg:Int} {v c:Nat} (hc:c≤20) {e:List (Int×Int)} (he:e.length≤100) {b}:
    L_ref03_events_4 fl (m,sg,(c:Int),0,e,digs v (c + 1)) b = b (m,sg,e++digEv 0 v c c):=by
  unfold L_ref03_events_4
  refine iter_seq (step:=S_ref03_events_4 fl) (fun i:Nat=>(m,sg,(c:Int),(i:Int),e++digEv 0 v c i,digs v (c + 1))) c (by simp [digEv]) (fun i hi k=> ?_) (fun k=> ?_) (by omega)
  · have hl:=digEv_len 0 v c i
    have ex:(c:Int) - 1 - (i:Int) = ((c - 1 - i:Nat):Int):=by omega
    have eg:(digs v (c + 1)).getD (c - 1 - i) 0 = ((v / 2 ^ (c - 1 - i) % 2:Nat):Int):=range_getD _ (by omega) _
    simp only [S_ref03_events_4]
    rw [dec_t (by omega),w6 (x:=(c:Int) - 1),w6 (x:=(c:Int) - 1 - (i:Int)),ex,Int.toNat_natCast,eg,w6 (x:=(i:Int) + 1),w6 (x:=23 + (c:Int)),w6 (x:=43 + (i:Int)),digEv,cb]
    by_cases h0:(i:Int) = 0
    · rw [if_pos h0,dec_t (by rw [digs_len]; omega),dec_t (by simp; omega),show (0:Int) + digC c i = 23 + (c:Int) by unfold digC; rw [if_pos (by omega)]; omega,List.append_assoc]
      rfl
    · have ed:(0:Int) + digC c i = (bif decide ((47:Int) < 43 + (i:Int)) then 47 else 43 + (i:Int)):=by
        unfold digC
        rw [if_neg (by omega),cd]
        split <;> omega
      rw [if_neg h0,dec_t (by rw [digs_len]; omega),dec_t (by simp; omega),ed,List.append_assoc]
      rfl
  · simp only [S_ref03_events_4]
    rw [dec_f (by omega)]
theorem revents_ok {o:Bool} {n:Int} (h0: -1048576≤n) (h1:n≤1048576) {K:List (Int×Int)→Option Ans}:F_ref03_events fl o n K = K (numEv 0 o n):=by
  unfold F_ref03_events
  cases o with
  | true=>rfl
  | false=>
    rw [cond_false]
    unfold numEv
    rw [if_neg (by simp)]
    generalize hv:n.natAbs + 1 = v
    have hv0:v ≠ 0:=by omega
    have hlo:2 ^ Nat.log2 v≤v:=Nat.log2_self_le hv0
    have hhi:v < 2 ^ (Nat.log2 v + 1):=Nat.lt_log2_self
    have hc20:Nat.log2 v≤20:=by
      have:Nat.log2 v < 21:=(Nat.log2_lt hv0).2 (by omega)
      omega
    generalize Nat.log2 v = c at *
    have hol:=onesEv_len 0 c
    have hdl:=digEv_len 0 v c c
    have tail:∀ (m sg:Int),(m = 0↔n = 0)→sg = (if n < 0 then 1 else 0)→L_ref03_events_0 fl (m,sg,(v:Int),[(0,0)],[]) (fun z=>L_ref03_events_2 fl (z.1,z.2.1,IntKind.i64.wrap ((z.2.2.2.length:Int) - 1),0,z.2.2.1,z.2.2.2) (fun y=>
        bif decide (y.2.2.1 < 20) then
          bif decide ((y.2.2.2.1.length + [(IntKind.i64.wrap (1 + y.2.2.1),(0:Int))].length) * (16:Nat)≤(140737488355328:Nat)∧y.2.2.2.1.length + [(IntKind.i64.wrap (1 + y.2.2.1),(0:Int))].length≤(140737488355328:Nat)) then
            L_ref03_events_4 fl (y.1,y.2.1,y.2.2.1,0,y.2.2.2.1++ [(IntKind.i64.wrap (1 + y.2.2.1),0)],y.2.2.2.2) (fun x=>
              bif x.1 != 0 then bif decide ((x.2.2.length + [((22:Int),x.2.1)].length) * (16:Nat)≤(140737488355328:Nat)∧x.2.2.length + [((22:Int),x.2.1)].length≤(140737488355328:Nat)) then K (x.2.2++ [(22,x.2.1)]) else none else K x.2.2)
          else none
        else
          L_ref03_events_4 fl (y.1,y.2.1,y.2.2.1,0,y.2.2.2.1,y.2.2.2.2) (fun x=>
              bif x.1 != 0 then bif decide ((x.2.2.length + [((22:Int),x.2.1)].length) * (16:Nat)≤(140737488355328:Nat)∧x.2.2.length + [((22:Int),x.2.1)].length≤(140737488355328:Nat)) then K (x.2.2++ [(22,x.2.1)]) else none else K x.2.2)))
        = K (((((0:Int),(0:Int))::onesEv 0 c)++(if c < 20 then [(0 + 1 + (c:Int),0)] else [])++digEv 0 v c c)++(if n = 0 then [] else [(0 + 22,if n < 0 then 1 else 0)])):=by
      intro m sg hm hsg
      rw [ev0 hfl hc20 hlo hhi]
      dsimp only
      rw [digs_len,show IntKind.i64.wrap (((c + 1:Nat):Int) - 1) = (c:Int) by rw [wrap64 (by omega) (by omega)]; omega,ev2 hfl hc20 (by simp)]
      dsimp only
      have fin:∀ L:List (Int×Int),L.length≤200→(bif m != 0 then bif decide ((L.length + [((22:Int),sg)].length) * (16:Nat)≤(140737488355328:Nat)∧L.length + [((22:Int),sg)].length≤(140737488355328:Nat)) then K (L++ [(22,sg)]) else none else K L) = K (L++(if n = 0 then [] else [(0 + 22,if n < 0 then 1 else 0)])):=by
        intro L hL
        rw [cn]
        by_cases hn:n = 0
        · rw [if_pos (hm.2 hn),if_pos hn,List.append_nil]
        · rw [if_neg (fun h=>hn (hm.1 h)),if_neg hn,dec_t (by simp; omega),hsg]
          rfl
      by_cases h20:c < 20
      · rw [dec_t (by omega),w6 (x:=1 + (c:Int)),dec_t (by simp; omega),ev4 hfl hc20 (by simp; omega)]
        dsimp only
        rw [fin _ (by simp; omega),if_pos h20,show (0:Int) + 1 + (c:Int) = 1 + (c:Int) by omega]
        simp only [List.append_assoc,List.cons_append,List.nil_append]
      · rw [dec_f (by omega),ev4 hfl hc20 (by simp; omega)]
        dsimp only
        rw [fin _ (by simp; omega),if_neg h20,List.append_nil]
        simp only [List.append_assoc,List.cons_append,List.nil_append]
    by_cases hneg:n < 0
    · rw [dec_t hneg,w6 (x:=0 - n),w6 (x:=0 - n + 1),show 0 - n + 1 = (v:Int) by omega]
      exact tail (0 - n) 1 (by omega) (by rw [if_pos hneg])
    · rw [dec_f hneg,w6 (x:=n + 1),show n + 1 = (v:Int) by omega]
      exact tail n 0 Iff.rfl (by rw [if_neg hneg])
theorem rnput {kd:Int} {x:Iv} (h:x.Ok kd) {base:Int} (hb:0≤base∧base≤100000) {l:List (Int×Int)} (hl0:∀ e ∈ l,0≤e.1∧e.1≤100) (he:Evs x.st.length (l.map (shB base))) (hll:l.length≤1000000) {out:List Int} (ho:out.length≤900000000) {b:Int×Int×Int×List Int×List Int→Option Ans}:
    L_ref03_Put_9ac_0 fl (base,0,kd,x.lo,x.hi,x.st,out,l) b = b (kd,(run kd x out (l.map (shB base))).1.lo,(run kd x out (l.map (shB base))).1.hi,(run kd x out (l.map (shB base))).1.st,(run kd x out (l.map (shB base))).2):=by
  unfold L_ref03_Put_9ac_0
  refine iter_seq (step:=S_ref03_Put_9ac_0 fl) (fun i:Nat=>(base,(i:Int),kd,(run kd x out ((l.take i).map (shB base))).1.lo,(run kd x out ((l.take i).map (shB base))).1.hi,(run kd x out ((l.take i).map (shB base))).1.st,(run kd x out ((l.take i).map (shB base))).2,l)) l.length rfl (fun i hi c=> ?_) (fun c=> ?_) (by omega)
  · have hmm:=getD_mem hi (0,0)
    have h00:=hl0 _ hmm
    have hm:=he _ (List.mem_map_of_mem hmm)
    have he':Evs x.st.length ((l.take i).map (shB base)):=fun e he2=>by
      obtain ⟨e',he3,rfl⟩:=List.mem_map.1 he2
      exact he _ (List.mem_map_of_mem (List.mem_of_mem_take he3))
    obtain ⟨ok,okl⟩:=run_ok ((l.take i).map (shB base)) (out:=out) h he'
    have hol:=run_len_le ((l.take i).map (shB base)) (kd:=kd) (x:=x) (out:=out)
    have htl:((l.take i).map (shB base)).length≤1000000:=by rw [List.length_map,List.length_take]; omega
    simp only [S_ref03_Put_9ac_0,Sg_ref03_Put_9ac_0]
    rw [map_take_succ hi (0,0),run_append]
    generalize run kd x out ((l.take i).map (shB base)) = R at *
    obtain ⟨X,O⟩:=R
    simp only at ok okl hol hm ⊢
    rw [dec_t (by omega),dec_t (by omega),dec_t (by omega),Int.toNat_natCast,both_same,w6 (x:=base + _),rput_ok hfl ok hm.1 (by rw [okl]; exact hm.2.1) hm.2.2 (by omega)]
    try dsimp only
    rw [wrap64 (by omega) (by omega)]
    rfl
  · simp only [S_ref03_Put_9ac_0,Sg_ref03_Put_9ac_0]
    rw [dec_f (by omega),List.take_length]
omit hfl in
theorem numEv0_rg {o:Bool} {n:Int} (h0: -1048576≤n) (h1:n≤1048576):∀ e ∈ numEv 0 o n,0≤e.1∧e.1≤100:=by
  intro e he
  have:=(numEv_ok (base:=0) (n:=48) (by omega) (by omega) o h0 h1).1 e he
  omega
theorem rPut_ok {kd:Int} {x:Iv} (h:x.Ok kd) (hn:x.st.length≤8192) {base:Int} (hb:0≤base) (hb2:base + 48≤(x.st.length:Int)) {o:Bool} {n:Int} (hon:o = true→n = 0) (h0: -1048576≤n) (h1:n≤1048576) {out:List Int} (ho:out.length≤900000000)
    {K:Int×Int×Int×Int×List Int×List Int→Option Ans}:
    F_ref03_Put_9ac fl base o n kd x.lo x.hi x.st out K = K (0,kd,(run kd x out (numEv base o n)).1.lo,(run kd x out (numEv base o n)).1.hi,(run kd x out (numEv base o n)).1.st,(run kd x out (numEv base o n)).2):=by
  obtain ⟨he,hl⟩:=numEv_ok hb hb2 o h0 h1
  rw [numEv_base] at he
  have hl2:=(numEv_ok (base:=0) (n:=48) (by omega) (by omega) o h0 h1).2
  unfold F_ref03_Put_9ac
  have hv:F_ref03_Valid fl o n = fun K=>K true:=by
    funext K
    unfold F_ref03_Valid
    cases o with
    | true=>rw [cond_true,hon rfl]; rfl
    | false=>rw [cond_false,dec_t (by omega),decide_eq_true (by omega)]
  rw [hv]
  dsimp only
  rw [cond_f (b:=!true) rfl,remodel_ok (by omega)]
  dsimp only
  unfold F_ref03_room
  rw [dec_t (by omega),dec_t (by omega),w6 (x:=(x.st.length:Int) - base),decide_eq_true (by omega)]
  dsimp only
  rw [cond_f (b:=!true) rfl,revents_ok hfl h0 h1,rnput hfl h ⟨hb,by omega⟩ (numEv0_rg h0 h1) he (by omega) ho, ← numEv_base]
theorem rPutId_ok {kd:Int} {x:Iv} (h:x.Ok kd) (hn:x.st.length≤8192) {base:Int} (hb:0≤base) {k id:Nat} (hk:k≤10) (hid:id < 2 ^ k) (hb2:base + 2 ^ k - 1≤(x.st.length:Int)) {out:List Int} (ho:out.length≤900000000)
    {K:Int×Int×Int×Int×List Int×List Int→Option Ans}:
    F_ref03_PutId_9d8 fl base (k:Int) (id:Int) kd x.lo x.hi x.st out K = K (0,kd,(run kd x out (idEv base k id k)).1.lo,(run kd x out (idEv base k id k)).1.hi,(run kd x out (idEv base k id k)).1.st,(run kd x out (idEv base k id k)).2):=by
  have he:=idEv_evs hb hb2 hid k (Nat.le_refl _)
  have hp:0 < 2 ^ k:=Nat.pow_pos (by omega)
  have hp2:2 ^ k≤2 ^ 10:=Nat.pow_le_pow_right (by omega) hk
  have e2:(2:Int) ^ k = ((2 ^ k:Nat):Int):=by rw [Int.natCast_pow]; rfl
  have es:ishl .i64 1 (k:Int) = ((2 ^ k:Nat):Int):=by rw [ishl_one (by omega) (by omega),Int.toNat_natCast,e2]
  have hb2':=hb2
  rw [e2] at hb2'
  unfold F_ref03_PutId_9d8 F_ref03_isId
  rw [dec_t (by omega),dec_t (by omega),dec_t (by omega),dec_f (by omega),es,decide_eq_true (show (id:Int) < ((2 ^ k:Nat):Int) by omega)]
  dsimp only
  rw [cond_f (b:=!true) rfl,dec_f (by omega),remodel_ok (by omega)]
  dsimp only
  unfold F_ref03_room
  rw [w6 (x:=((2 ^ k:Nat):Int) - 1),dec_t (by omega),dec_t (by omega),w6 (x:=(x.st.length:Int) - base),decide_eq_true (by omega)]
  dsimp only
  rw [cond_f (b:=!true) rfl,w6 (x:=(k:Int) - 1)]
  unfold L_ref03_PutId_9d8_0
  refine iter_seq (step:=S_ref03_PutId_9d8_0 fl) (fun j:Nat=>(base,(id:Int),((2 ^ j + id / 2 ^ (k - j):Nat):Int),(k:Int) - 1 - (j:Int),kd,(run kd x out (idEv base k id j)).1.lo,(run kd x out (idEv base k id j)).1.hi,(run kd x out (idEv base k id j)).1.st,(run kd x out (idEv base k id j)).2)) k (by
    rw [Nat.sub_zero,Nat.div_eq_of_lt hid]
    simp [idEv,run]) (fun j hj c=> ?_) (fun c=> ?_) (by omega)
  · have hev:=idEv_evs hb hb2 hid (j + 1) (by omega)
    have hev':=idEv_evs hb hb2 hid j (by omega)
    have hjl:=idEv_len base k id j
    obtain ⟨ok,okl⟩:=run_ok (idEv base k id j) (out:=out) h hev'
    have hol:=run_len_le (idEv base k id j) (kd:=kd) (x:=x) (out:=out)
    have e:(k:Int) - 1 - (j:Int) = ((k - 1 - j:Nat):Int):=by omega
    have e1:2 ^ k = 2 ^ j * 2 ^ (k - j):=by rw [← Nat.pow_add]; congr 1; omega
    have h2:id / 2 ^ (k - j) < 2 ^ j:=(Nat.div_lt_iff_lt_mul (Nat.pow_pos (by omega))).2 (by rw [← e1]; exact hid)
    have h3:2 ^ j≤2 ^ k:=Nat.pow_le_pow_right (by omega) (by omega)
    have e3:id / 2 ^ (k - 1 - j) = 2 * (id / 2 ^ (k - j)) + id / 2 ^ (k - 1 - j) % 2:=by
      rw [show k - j = (k - 1 - j) + 1 by omega,Nat.pow_succ, ← Nat.div_div_eq_div_mul]
      omega
    have ea:idEv base k id (j + 1) = idEv base k id j++ [(base + ((2 ^ j + id / 2 ^ (k - j):Nat):Int) - 1,((id / 2 ^ (k - 1 - j) % 2:Nat):Int))]:=rfl
    rw [ea] at hev
    have hm:=hev _ (List.mem_append_right _ (List.mem_singleton.2 rfl))
    rw [ea,run_append]
    generalize run kd x out (idEv base k id j) = R at *
    obtain ⟨X,O⟩:=R
    simp only at ok okl hol hm ⊢
    simp only [S_ref03_PutId_9d8_0,Sg_ref03_PutId_9d8_0]
    rw [w6 (x:=(k:Int) - 1 - (j:Int) - 1),e,bit_nat (by omega) (by omega),dec_t (by omega),dec_f (by omega),w6 (x:=base + _),w6 (x:=base + _ - 1),w6 (x:=2 * _),wrap64 (by omega) (by omega),rput_ok hfl ok hm.1 (by rw [okl]; exact hm.2.1) hm.2.2 (by omega)]
    try dsimp only
    have e4:2 * ((2 ^ j + id / 2 ^ (k - j):Nat):Int) + ((id / 2 ^ (k - 1 - j) % 2:Nat):Int) = ((2 ^ (j + 1) + id / 2 ^ (k - (j + 1)):Nat):Int):=by
      rw [show k - (j + 1) = k - 1 - j by omega,Nat.pow_succ]
      clear es e2 hb2 hb2' he hid e1 hev hev' hm ea
      generalize id / 2 ^ (k - j) = u at *
      generalize id / 2 ^ (k - 1 - j) = u2 at *
      generalize 2 ^ j = Q at *
      omega
    have e5:((k - 1 - j:Nat):Int) - 1 = (k:Int) - 1 - ((j + 1:Nat):Int):=by omega
    rw [e4,e5]
    rfl
  · simp only [S_ref03_PutId_9d8_0,Sg_ref03_PutId_9d8_0]
    rw [dec_f (by omega)]
end
end Go.Proofs.YtipdidpalcmlhaaGreat.Dc
namespace Go.Proofs.YtipdidpalcmlhaaGreat.Rf
open Go Ev Bm Co Gen Dc
theorem rpix_ok {fl:Nat} {w h:Int} {p:List Int} (hp:Pix w h p) {x y:Int} {K:Int→Option Ans}:F_ref06_Pix fl w h p x y K = K (px w h p x y):=by
  have hl:=hp.len
  have hn:=hp.n
  unfold F_ref06_Pix px
  simp only [cd]
  by_cases hi:ins w h x y
  · have hq:=place hi
    have hy:=place_y hi
    rw [if_pos hi]
    obtain ⟨h1,h2,h3,h4⟩:=hi
    rw [if_neg (by omega),if_neg (by omega),if_neg (by omega),if_neg (by omega),w6 (x:=y * w),w6 (x:=y * w + x),if_pos (by omega)]
  · rw [if_neg hi]
    unfold ins at hi
    repeat' split
    all_goals first | rfl | omega
section
variable {fl:Nat} (hfl:9223372036854775808≤fl) {t dx dy kd w h:Int} {p:List Int} {rw rh:Int} {rp:List Int} {ty:Bool}
include hfl
theorem alike_ok (hr:RR t dx dy kd w h p rw rh rp) {x y:Int} (hx: -1000≤x∧x≤1000) (hy: -1000≤y∧y≤1000) {K:Int×Bool→Option Ans}:
    F_ref08_Alike fl t dx dy ty kd rw rh rp x y K = K (flatv dx dy rw rh rp x y):=by
  have h1:=hr.x
  have h2:=hr.y
  unfold F_ref08_Alike Fg_ref08_Alike
  rw [rpix_ok hr.r,w6 (x:=x - dx),w6 (x:=y - dy)]
  try dsimp only
  unfold L_ref08_Alike_0 flatv
  generalize hc:px rw rh rp (x - dx) (y - dy) = c
  have step:∀ i:Nat,i < 9→∀ (ret:Int×Bool→Option Ans) (b:Int→Option Ans) k,S_ref08_Alike_0 fl (x,y,c,(i:Int),t,dx,dy,ty,kd,rw,rh,rp) k (ret,b)
      = if px rw rh rp (x - dx + ((i % 3:Nat):Int) - 1) (y - dy + ((i / 3:Nat):Int) - 1) = c then k (x,y,c,((i + 1:Nat):Int),t,dx,dy,ty,kd,rw,rh,rp) else ret (0,false):=by
    intro i hi ret b k
    have e1:((i:Int)).tmod 3 = ((i % 3:Nat):Int):=by rw [tmod_e (by omega)]; omega
    have e2:((i:Int)).tdiv 3 = ((i / 3:Nat):Int):=by rw [tdiv_e (by omega)]; omega
    simp only [S_ref08_Alike_0,Sg_ref08_Alike_0]
    rw [dec_t (by omega),e1,e2,w6 (x:=x - dx),w6 (x:=y - dy),w6 (x:=((i / 3:Nat):Int)),w6 (x:=x - dx + _),w6 (x:=x - dx + _ - 1),w6 (x:=y - dy + _),w6 (x:=y - dy + _ - 1),rpix_ok hr.r]
    try dsimp only
    rw [cn]
    split
    · rw [wrap64 (by omega) (by omega)]
      rfl
    · rfl
  rcases nat_or_first (fun i=>px rw rh rp (x - dx + ((i % 3:Nat):Int) - 1) (y - dy + ((i / 3:Nat):Int) - 1) = c) 9 with ha | ⟨n,hn,hb,hi⟩
  · rw [if_pos (by rw [List.all_eq_true]; exact fun i hi=>decide_eq_true (ha i (List.mem_range.1 hi)))]
    refine iter_seq (step:=S_ref08_Alike_0 fl) (fun i:Nat=>(x,y,c,(i:Int),t,dx,dy,ty,kd,rw,rh,rp)) 9 rfl (fun i hi k=> ?_) (fun k=> ?_) (by omega)
    · rw [step i hi,if_pos (ha i hi)]
    · simp only [S_ref08_Alike_0,Sg_ref08_Alike_0]
      rw [dec_f (by omega)]
  · rw [if_neg (by
      rw [List.all_eq_true]
      exact fun h=>hb (of_decide_eq_true (h n (List.mem_range.2 hn))))]
    refine iter_seq (step:=S_ref08_Alike_0 fl) (fun i:Nat=>(x,y,c,(i:Int),t,dx,dy,ty,kd,rw,rh,rp)) n rfl (fun i hin k=> ?_) (fun k=> ?_) (by omega)
    · rw [step i (by omega),if_pos (hi i hin)]
    · rw [step n hn,if_neg hb]
theorem rctx0 (hr:RR t dx dy kd w h p rw rh rp) {x y:Int} (hx: -1000≤x∧x≤1000) (hy: -1000≤y∧y≤1000) {b}:
    L_ref08_Context_0 fl (x,y,0,((fr t).length:Int),0,t,dx,dy,ty,kd,w,h,p,rw,rh,rp,fr t) b = b (x,y,fold w h p x y (fr t) 0,t,dx,dy,ty,kd,rw,rh,rp):=by
  have hl:=(fr_len t).1
  unfold L_ref08_Context_0
  refine iter_seq (step:=S_ref08_Context_0 fl) (fun i:Nat=>(x,y,fold w h p x y ((fr t).take i) 0,((fr t).length:Int),(i:Int),t,dx,dy,ty,kd,w,h,p,rw,rh,rp,fr t)) (fr t).length rfl (fun i hi c=> ?_) (fun c=> ?_) (by omega)
  · have e:=fr_near t _ (getD_mem hi (0,0))
    have a:=fold_rg hr.p.bit (w:=w) (h:=h) (x:=x) (y:=y) ((fr t).take i) (a:=0) (M:=1) (by omega) (by omega)
    have hle:(2:Int) ^ ((fr t).take i).length≤2 ^ 4:=by
      have:=Nat.pow_le_pow_right (n:=2) (by omega) (show ((fr t).take i).length≤4 by rw [List.length_take]; omega)
      exact_mod_cast this
    have b:=px_01 (w:=w) (h:=h) hr.p.bit (x + ((fr t).getD i (0,0)).1) (y + ((fr t).getD i (0,0)).2)
    simp (disch:=omega) only [S_ref08_Context_0,Sg_ref08_Context_0,dec_t,Int.toNat_natCast,wrap64,rpix_ok hr.p]
    rw [fold_take hi]
    rfl
  · simp (disch:=omega) only [S_ref08_Context_0,Sg_ref08_Context_0,dec_f,List.take_length]
theorem rctx2 (hr:RR t dx dy kd w h p rw rh rp) {x y:Int} (hx: -1000≤x∧x≤1000) (hy: -1000≤y∧y≤1000) {g:Int} (g0:0≤g) (g1:g < 16) {b}:
    L_ref08_Context_2 fl (x,y,g,(bs.length:Int),0,t,dx,dy,ty,kd,rw,rh,rp,bs) b = b (fold rw rh rp (x - dx) (y - dy) bs g):=by
  have h1:=hr.x
  have h2:=hr.y
  unfold L_ref08_Context_2
  refine iter_seq (step:=S_ref08_Context_2 fl) (fun i:Nat=>(x,y,fold rw rh rp (x - dx) (y - dy) (bs.take i) g,(bs.length:Int),(i:Int),t,dx,dy,ty,kd,rw,rh,rp,bs)) bs.length rfl (fun i hi c=> ?_) (fun c=> ?_) (by show 5 < fl; omega)
  · have e:=bs_near _ (getD_mem hi (0,0))
    have a':=fold_rg hr.r.bit (w:=rw) (h:=rh) (x:=x - dx) (y:=y - dy) (bs.take i) (a:=g) (M:=16) (by omega) (by omega)
    have hle2:(2:Int) ^ (bs.take i).length≤2 ^ 5:=by
      have:=Nat.pow_le_pow_right (n:=2) (by omega) (show (bs.take i).length≤5 by rw [List.length_take]; exact Nat.min_le_right _ _)
      exact_mod_cast this
    have b:=px_01 (w:=rw) (h:=rh) hr.r.bit (x - dx + (bs.getD i (0,0)).1) (y - dy + (bs.getD i (0,0)).2)
    have hb5:bs.length = 5:=rfl
    simp (disch:=omega) only [S_ref08_Context_2,Sg_ref08_Context_2,dec_t,Int.toNat_natCast,wrap64,rpix_ok hr.r]
    rw [fold_take hi]
    rfl
  · simp (disch:=omega) only [S_ref08_Context_2,Sg_ref08_Context_2,dec_f,List.take_length]
theorem rcontext_ok (hr:RR t dx dy kd w h p rw rh rp) {x y:Int} (hx: -1000≤x∧x≤1000) (hy: -1000≤y∧y≤1000) {K:Int→Option Ans}:
    F_ref08_Context fl t dx dy ty kd w h p rw rh rp x y K = K (rctx t dx dy w h p rw rh rp x y):=by
  have a:=fold_rg hr.p.bit (w:=w) (h:=h) (x:=x) (y:=y) (fr t) (a:=0) (M:=1) (by omega) (by omega)
  have hle:(2:Int) ^ (fr t).length≤2 ^ 4:=by
    have:=Nat.pow_le_pow_right (n:=2) (by omega) (fr_len t).1
    exact_mod_cast this
  have key:L_ref08_Context_0 fl (x,y,0,((fr t).length:Int),0,t,dx,dy,ty,kd,w,h,p,rw,rh,rp,fr t) (fun z=>L_ref08_Context_2 fl (z.1,z.2.1,z.2.2.1,(bs.length:Int),0,z.2.2.2.1,z.2.2.2.2.1,z.2.2.2.2.2.1,z.2.2.2.2.2.2.1,z.2.2.2.2.2.2.2.1,z.2.2.2.2.2.2.2.2.1,z.2.2.2.2.2.2.2.2.2.1,z.2.2.2.2.2.2.2.2.2.2,bs) K) = K (rctx t dx dy w h p rw rh rp x y):=by
    rw [rctx0 hfl hr hx hy]
    try dsimp only
    rw [rctx2 hfl hr hx hy a.1 (by omega)]
    rfl
  unfold F_ref08_Context Fg_ref08_Context
  rcases hr.t with rfl | rfl
  · rw [cond_f (b:=(0:Int)==1) rfl]
    exact key
  · rw [cond_t (b:=(1:Int)==1) rfl]
    exact key
theorem rvalid8 (hr:RR t dx dy kd w h p rw rh rp) {K:Bool→Option Ans}:F_ref08_Valid fl t dx dy ty kd K = K true:=by
  have h1:=hr.x
  have h2:=hr.y
  have h3:=hr.t
  have h4:=hr.k
  unfold F_ref08_Valid
  rw [dec_t (by omega),dec_t (by omega),dec_t (by omega),dec_t (by omega),dec_t (by omega),dec_t (by omega),dec_t (by omega),decide_eq_true (by omega)]
theorem rsize8 (ht:t = 0∨t = 1) {K:Int→Option Ans}:F_ref08_size fl t K = K (csz t + 1):=by
  unfold F_ref08_size csz
  rcases ht with rfl | rfl <;> rfl
theorem rasked8 (hr:RR t dx dy kd w h p rw rh rp) {base m:Int} {st:List Int} (hn:st.length≤8192) (h0:0≤base) (h1:base + csz t + 1≤(st.length:Int)) {K:Int→Option Ans}:F_ref08_asked fl t dx dy ty kd true base m st K = K 0:=by
  have hc:=csz_eq t
  unfold F_ref08_asked Fg_ref08_asked
  rw [rvalid8 hfl hr]
  try dsimp only
  rw [cond_f (b:=!true) rfl,cond_f (b:=!true) rfl,dec_f (by omega),rsize8 hfl hr.t]
  try dsimp only
  rw [wrap64 (by omega) (by omega),dec_f (by omega)]
theorem rput_row (hr:RR t dx dy kd w h p rw rh rp) {kx:Int} {x:Iv} (hx:x.Ok kx) (hn:x.st.length≤8192) {base last:Int} (h0:0≤base) (h1:base + csz t + 1≤(x.st.length:Int)) {y:Nat} (hy:(y:Int) < h) {out:List Int} (ho:out.length≤900000000) {K}:
    L_ref08_Put_6c1_2 fl (base,last,(y:Int),false,0,kx,x.lo,x.hi,x.st,out,t,dx,dy,false,kd,w,h,p,rw,rh,rp) K
    = K (base,last,(y:Int),kx,(run kx x out (pxE t dx dy base w h p rw rh rp y w.toNat)).1.lo,(run kx x out (pxE t dx dy base w h p rw rh rp y w.toNat)).1.hi,(run kx x out (pxE t dx dy base w h p rw rh rp y w.toNat)).1.st,(run kx x out (pxE t dx dy base w h p rw rh rp y w.toNat)).2,t,dx,dy,false,kd,w,h,p,rw,rh,rp):=by
  have hw0:=hr.p.w0; have hw1:=hr.p.w1; have hh1:=hr.p.h1
  unfold L_ref08_Put_6c1_2
  refine iter_seq (step:=S_ref08_Put_6c1_2 fl) (fun i:Nat=>(base,last,(y:Int),false,(i:Int),kx,(run kx x out (pxE t dx dy base w h p rw rh rp y i)).1.lo,(run kx x out (pxE t dx dy base w h p rw rh rp y i)).1.hi,(run kx x out (pxE t dx dy base w h p rw rh rp y i)).1.st,(run kx x out (pxE t dx dy base w h p rw rh rp y i)).2,t,dx,dy,false,kd,w,h,p,rw,rh,rp)) w.toNat rfl (fun i hi c=> ?_) (fun c=> ?_) (by omega)
  · obtain ⟨e1,e2⟩:=pxE_ok hr h0 h1 y i
    obtain ⟨ok,okl⟩:=run_ok (pxE t dx dy base w h p rw rh rp y i) (out:=out) hx e1
    have hol:=run_len_le (pxE t dx dy base w h p rw rh rp y i) (kd:=kx) (x:=x) (out:=out)
    have er:run kx x out (pxE t dx dy base w h p rw rh rp y (i + 1)) = run kx (run kx x out (pxE t dx dy base w h p rw rh rp y i)).1 (run kx x out (pxE t dx dy base w h p rw rh rp y i)).2 [(base + rctx t dx dy w h p rw rh rp (i:Int) (y:Int),p.getD (y * w.toNat + i) 0)]:=run_append kx _ _ _ _
    have hc:=rctx_rg (t:=t) (dx:=dx) (dy:=dy) (w:=w) (h:=h) (rw:=rw) (rh:=rh) hr.p.bit hr.r.bit (i:Int) (y:Int)
    have hcs:=csz_eq t
    have hpx:px w h p (i:Int) (y:Int) = p.getD (y * w.toNat + i) 0:=px_in (by omega) hy
    have hb:=getD_01 hr.p.bit (y * w.toNat + i)
    simp only [S_ref08_Put_6c1_2,Sg_ref08_Put_6c1_2]
    rw [er]
    generalize run kx x out (pxE t dx dy base w h p rw rh rp y i) = R at *
    obtain ⟨X,O⟩:=R
    simp only at ok okl hol ⊢
    rw [dec_t (by omega),alike_ok hfl hr (by omega) (by omega)]
    try dsimp only
    rw [cond_t (b:=!false) rfl,rcontext_ok hfl hr (by omega) (by omega)]
    try dsimp only
    rw [rpix_ok hr.p,hpx]
    try dsimp only
    rw [w6 (x:=base + _),w6 (x:=p.getD (y * w.toNat + i) 0),Co.rput_ok hfl ok (by omega) (by omega) hb (by omega),w6 (x:=(i:Int) + 1)]
    rfl
  · simp only [S_ref08_Put_6c1_2,Sg_ref08_Put_6c1_2]
    rw [dec_f (by omega)]
theorem rrput_ok (hr:RR t dx dy kd w h p rw rh rp) {kx:Int} {x:Iv} (hx:x.Ok kx) (hn:x.st.length≤8192) {base:Int} (h0:0≤base) (h1:base + csz t + 1≤(x.st.length:Int)) {out:List Int} (ho:out.length≤800000000) {K}:
    F_ref08_Put_6c1 fl base t dx dy false kd w h p rw rh rp kx x.lo x.hi x.st out K
    = K (0,kx,(run kx x out (rwE t dx dy base w h p rw rh rp h.toNat)).1.lo,(run kx x out (rwE t dx dy base w h p rw rh rp h.toNat)).1.hi,(run kx x out (rwE t dx dy base w h p rw rh rp h.toNat)).1.st,(run kx x out (rwE t dx dy base w h p rw rh rp h.toNat)).2):=by
  have hcs:=csz_eq t
  have hw0:=hr.p.w0; have hw1:=hr.p.w1; have hh1:=hr.p.h1; have hh0:=hr.p.h0
  have hv:∀ {w h:Int} {p:List Int},Pix w h p→valid w h p = true:=fun {w h p} hp=>valid_iff.2 ⟨⟨hp.w0,hp.h0,hp.w1,hp.h1,hp.n⟩,hp.len,fun v hv=>(hp.bit v hv).2⟩
  unfold F_ref08_Put_6c1
  rw [Tx.rbitmap_ok hfl,hv hr.p]
  try dsimp only
  rw [cond_true,Tx.rbitmap_ok hfl,hv hr.r]
  try dsimp only
  rw [rasked8 hfl hr hn h0 h1]
  try dsimp only
  rw [cond_f (b:=(0:Int) != 0) rfl,rsize8 hfl hr.t]
  try dsimp only
  generalize IntKind.i64.wrap (IntKind.i64.wrap (base + (csz t + 1)) - 1) = last
  unfold L_ref08_Put_6c1_0
  refine iter_seq (step:=S_ref08_Put_6c1_0 fl) (fun i:Nat=>(base,last,(i:Int),kx,(run kx x out (rwE t dx dy base w h p rw rh rp i)).1.lo,(run kx x out (rwE t dx dy base w h p rw rh rp i)).1.hi,(run kx x out (rwE t dx dy base w h p rw rh rp i)).1.st,(run kx x out (rwE t dx dy base w h p rw rh rp i)).2,t,dx,dy,false,kd,w,h,p,rw,rh,rp)) h.toNat rfl (fun i hi c=> ?_) (fun c=> ?_) (by omega)
  · obtain ⟨e1,e2⟩:=rwE_ok hr h0 h1 i
    have e3:i * w.toNat≤200 * 200:=Nat.mul_le_mul (by omega) (by omega)
    obtain ⟨ok,okl⟩:=run_ok (rwE t dx dy base w h p rw rh rp i) (out:=out) hx e1
    have hol:=run_len_le (rwE t dx dy base w h p rw rh rp i) (kd:=kx) (x:=x) (out:=out)
    have er:run kx x out (rwE t dx dy base w h p rw rh rp (i + 1)) = run kx (run kx x out (rwE t dx dy base w h p rw rh rp i)).1 (run kx x out (rwE t dx dy base w h p rw rh rp i)).2 (pxE t dx dy base w h p rw rh rp i w.toNat):=run_append kx _ _ _ _
    simp only [S_ref08_Put_6c1_0,Sg_ref08_Put_6c1_0]
    rw [er]
    generalize run kx x out (rwE t dx dy base w h p rw rh rp i) = R at *
    obtain ⟨X,O⟩:=R
    simp only at ok okl hol ⊢
    rw [dec_t (by omega),cond_false,cond_false,rput_row hfl hr ok (by omega) h0 (by omega) (by omega) (by omega)]
    try dsimp only
    rw [wrap64 (by omega) (by omega)]
    rfl
  · simp only [S_ref08_Put_6c1_0,Sg_ref08_Put_6c1_0]
    rw [dec_f (by omega)]
end
open Go Ev Bm Co Gen Dc
section
variable {t dx dy base w h kd:Int} {p:List Int} {rw rh:Int} {rp:List Int} {n:Nat}
end
end Go.Proofs.YtipdidpalcmlhaaGreat.Rf
namespace Go.Proofs.YtipdidpalcmlhaaGreat.Dc
open Go Ev Bm Co
structure Cd (code:List Int) (n:Nat):Prop where
  b:Bytes code
  l:code.length≤10000000
  n:n≤8192
section
variable {fl:Nat} (hfl:9223372036854775808≤fl) {kx:Int} {code:List Int} {n:Nat} (hc:Cd code n)
include hfl hc
end
end Go.Proofs.YtipdidpalcmlhaaGreat.Dc
namespace Go.Proofs.YtipdidpalcmlhaaGreat.Tx
open Go Ev Bm Co Gen Dc Rf
def wd (n:Nat):Nat:=bif Nat.ble n 1 then 0 else bif Nat.ble n 2 then 1 else bif Nat.ble n 4 then 2 else bif Nat.ble n 8 then 3 else bif Nat.ble n 16 then 4 else bif Nat.ble n 32 then 5 else 6
theorem width_at (fl:Nat) (K:Int→Option Ans):∀ n:Nat,n≤64→F_number_Width fl (n:Int) K = K ((wd n:Nat):Int)
  | 0,_ | 1,_ | 2,_ | 3,_ | 4,_ | 5,_ | 6,_ | 7,_ | 8,_ | 9,_ | 10,_ | 11,_ | 12,_ | 13,_ | 14,_ | 15,_ | 16,_ | 17,_ | 18,_ | 19,_ | 20,_ | 21,_ | 22,_ | 23,_ | 24,_ | 25,_ | 26,_ | 27,_ | 28,_ | 29,_ | 30,_ | 31,_ | 32,_ | 33,_ | 34,_ | 35,_ | 36,_ | 37,_ | 38,_ | 39,_ | 40,_ | 41,_ | 42,_ | 43,_ | 44,_ | 45,_ | 46,_ | 47,_ | 48,_ | 49,_ | 50,_ | 51,_ | 52,_ | 53,_ | 54,_ | 55,_ | 56,_ | 57,_ | 58,_ | 59,_ | 60,_ | 61,_ | 62,_ | 63,_ | 64,_=>by kernel_rfl
  | n + 65,h=>by omega
theorem wd_ok:∀ n:Fin 65,n.val≤2 ^ wd n.val∧wd n.val≤6∧(wd n.val = 0→n.val≤1):=by decide +kernel
def tk (symbols:List Bmp):Nat:=wd symbols.length
def lik (symbols:List Bmp):Int:=((384 + 2 ^ tk symbols:Nat):Int)
def tsz (o7:Int) (rf:Bool) (symbols:List Bmp):Int:=lik symbols + (if rf = true then csz o7 + 1 else 0)
theorem tk_ok {symbols:List Bmp} (h:symbols.length≤60):symbols.length≤2 ^ tk symbols∧tk symbols≤6∧1≤2 ^ tk symbols∧2 ^ tk symbols≤64:=by
  have a:=wd_ok ⟨symbols.length,by omega⟩
  have b:2 ^ tk symbols≤2 ^ 6:=Nat.pow_le_pow_right (by omega) a.2.1
  exact ⟨a.1,a.2.1,Nat.pow_pos (by omega),b⟩
theorem lay_ok {fl:Nat} {o0 o1 o3 o4 o5 o7:Int} {tu rf:Bool} {symbols:List Bmp} (h:symbols.length≤60) (h7:o7 = 0∨o7 = 1) {K:Int×Int×Bool×Int×Int×Int×Bool×Int×Int×Int×Int→Option Ans}:
    F_text_lay fl o0 o1 tu o3 o4 o5 rf o7 (symbols.length:Int) K = K (o0,o1,tu,o3,o4,o5,rf,o7,(tk symbols:Int),lik symbols,tsz o7 rf symbols):=by
  obtain ⟨a,b,c,d⟩:=tk_ok h
  have e2:(2:Int) ^ tk symbols = ((2 ^ tk symbols:Nat):Int):=by rw [Int.natCast_pow]; rfl
  have es:ishl .i64 1 (tk symbols:Int) = ((2 ^ tk symbols:Nat):Int):=by rw [ishl_one (by omega) (by omega),Int.toNat_natCast,e2]
  have hS:∀ K:Int×Int→Option Ans,F_refine_Size fl o7 K = K (csz o7 + 1,0):=fun K=>by
    rcases h7 with rfl | rfl <;> rfl
  have hl:IntKind.i64.wrap (IntKind.i64.wrap (385 + ((2 ^ tk symbols:Nat):Int)) - 1) = lik symbols:=by
    unfold lik
    rw [w6 (x:=385 + _),wrap64 (by omega) (by omega)]
    omega
  have hc:=csz_eq o7
  have hl2:lik symbols≤1000∧0≤lik symbols:=by unfold lik; omega
  have hw:∀ K:Int→Option Ans,F_number_Width fl (symbols.length:Int) K = K ((tk symbols:Nat):Int):=fun K=>width_at fl K _ (by omega)
  unfold F_text_lay Fg_text_lay tsz
  simp only [hw,hS,es,hl,both_same]
  rw [dec_f (by omega)]
  cases rf with
  | true=>rw [cond_true,wrap64 (by omega) (by omega),if_pos rfl]
  | false=>rw [cond_false,if_neg (by simp),Int.add_zero]
theorem floor_ok {fl:Nat} {a b:Int} (hb:b = 1∨b = 2∨b = 4∨b = 8) (h:near a 1000000) {K:Int→Option Ans}:F_text_floor fl a b K = K (a / b):=by
  obtain ⟨h1,h2⟩:=h
  unfold F_text_floor
  rw [dec_f (by omega),dec_f (by omega),cn]
  have key:∀ b:Int,0 < b→b≤8→ -1000000≤a.tdiv b∧a.tdiv b≤1000000:=by
    intro b hb0 hb8
    rcases Int.le_total 0 a with ha | ha
    · rw [Int.tdiv_eq_ediv_of_nonneg ha]
      have:=Int.ediv_le_self b ha
      have:=Int.ediv_nonneg ha (Int.le_of_lt hb0)
      omega
    · have e:a.tdiv b = -((-a) / b):=by
        rw [← Int.tdiv_eq_ediv_of_nonneg (by omega),Int.neg_tdiv,Int.neg_neg]
      have:=Int.ediv_le_self b (show 0≤ -a by omega)
      have:=Int.ediv_nonneg (show 0≤ -a by omega) (Int.le_of_lt hb0)
      omega
  have kb:=key b (by omega) (by omega)
  rw [w6 (x:=a.tdiv b),w6 (x:=a.tdiv b - 1)]
  rcases Int.le_total 0 a with ha | ha
  · have e:a.tdiv b = a / b:=Int.tdiv_eq_ediv_of_nonneg ha
    rw [e]
    split
    · rfl
    · rw [dec_f (by omega)]
  · have e:a.tdiv b = -((-a) / b):=by
      rw [← Int.tdiv_eq_ediv_of_nonneg (by omega),Int.neg_tdiv,Int.neg_neg]
    have e2:a.tmod b = -((-a) % b):=by
      rw [← Int.tmod_eq_emod_of_nonneg (by omega),Int.neg_tmod,Int.neg_neg]
    rw [e,e2]
    rcases hb with rfl | rfl | rfl | rfl
    all_goals
      split
      · congr 1; omega
      · by_cases h0:a < 0
        · rw [dec_t h0]; congr 1; omega
        · omega
theorem floor_any {fl:Nat} {a b:Int} (hb:b = 1∨b = 2∨b = 4∨b = 8):∃ v:Int,∀ K:Int→Option Ans,F_text_floor fl a b K = K v:=by
  unfold F_text_floor
  by_cases h:a.tmod b = 0
  · refine ⟨IntKind.i64.wrap (a.tdiv b),fun K=> ?_⟩
    rw [dec_f (by omega),dec_f (by omega),cn,if_pos h]
  · by_cases h0:a < 0
    · refine ⟨IntKind.i64.wrap (IntKind.i64.wrap (a.tdiv b) - 1),fun K=> ?_⟩
      rw [dec_f (by omega),dec_f (by omega),cn,if_neg h,dec_t h0]
    · refine ⟨IntKind.i64.wrap (a.tdiv b),fun K=> ?_⟩
      rw [dec_f (by omega),dec_f (by omega),cn,if_neg h,dec_f h0]
theorem strip_ok {fl:Nat} {o0 o1 o3 o4 o5 o7:Int} {tu rf:Bool} (hb:o0 = 1∨o0 = 2∨o0 = 4∨o0 = 8) {a s t:Int} {r:Bool} {dx dy w h:Int} {p:List Int} (ht:near t 1000000) {K:Int→Option Ans}:
    F_text_strip fl o0 o1 tu o3 o4 o5 rf o7 a s t r dx dy w h p K = K (t / o0):=by
  unfold F_text_strip Fg_text_strip
  rw [floor_ok hb ht]
def asc (o0:Int) (l:List Item):Bool:=(List.range (l.length - 1)).all fun i=>decide ((l.getD i (0,0,0,false,0,0,0,0,[])).2.2.1 / o0≤(l.getD (i + 1) (0,0,0,false,0,0,0,0,[])).2.2.1 / o0)
theorem sorted_ok {fl:Nat} (hfl:9223372036854775808≤fl) {o0 o1 o3 o4 o5 o7:Int} {tu rf:Bool} (hb:o0 = 1∨o0 = 2∨o0 = 4∨o0 = 8) {l:List Item} (hl:l.length≤1000000000000000):
    ∃ b:Bool,((∀ i ∈ l,near i.2.2.1 1000000)→b = asc o0 l)∧∀ K:Bool×Int×Int×Bool×Int×Int×Int×Bool×Int→Option Ans,F_slices_IsSortedFunc_api_Item_api_Item_040 fl l o0 o1 tu o3 o4 o5 rf o7 K = K (b,o0,o1,tu,o3,o4,o5,rf,o7):=by
  unfold F_slices_IsSortedFunc_api_Item_api_Item_040 Fg_slices_IsSortedFunc_api_Item_api_Item_040 L_slices_IsSortedFunc_api_Item_api_Item_040_0
  have cmp:∀ i:Nat,0 < i→i < l.length→∃ g:Bool,(near (l.getD i (0,0,0,false,0,0,0,0,[])).2.2.1 1000000→near (l.getD (i - 1) (0,0,0,false,0,0,0,0,[])).2.2.1 1000000→g = decide ((l.getD (i - 1) (0,0,0,false,0,0,0,0,[])).2.2.1 / o0≤(l.getD i (0,0,0,false,0,0,0,0,[])).2.2.1 / o0))∧
      ∀ c ret b,S_slices_IsSortedFunc_api_Item_api_Item_040_0 fl (l,(i:Int),o0,o1,tu,o3,o4,o5,rf,o7) c (ret,b) = if g = true then c (l,((i - 1:Nat):Int),o0,o1,tu,o3,o4,o5,rf,o7) else ret (false,o0,o1,tu,o3,o4,o5,rf,o7):=by
    intro i hi0 hi
    obtain ⟨u,hu⟩:=floor_any (fl:=fl) (a:=(l.getD i (0,0,0,false,0,0,0,0,[])).2.2.1) hb
    obtain ⟨v,hv⟩:=floor_any (fl:=fl) (a:=(l.getD (i - 1) (0,0,0,false,0,0,0,0,[])).2.2.1) hb
    refine ⟨decide (¬ IntKind.i64.wrap (u - v) < 0),fun h1 h2=> ?_,fun c ret b=> ?_⟩
    · have e1:u = (l.getD i (0,0,0,false,0,0,0,0,[])).2.2.1 / o0:=by
        have a:=hu (fun z=>if z = u then none else some ())
        rw [floor_ok hb h1,if_pos rfl] at a
        by_cases hz:(l.getD i (0,0,0,false,0,0,0,0,[])).2.2.1 / o0 = u
        · exact hz.symm
        · rw [if_neg hz] at a; cases a
      have e2:v = (l.getD (i - 1) (0,0,0,false,0,0,0,0,[])).2.2.1 / o0:=by
        have a:=hv (fun z=>if z = v then none else some ())
        rw [floor_ok hb h2,if_pos rfl] at a
        by_cases hz:(l.getD (i - 1) (0,0,0,false,0,0,0,0,[])).2.2.1 / o0 = v
        · exact hz.symm
        · rw [if_neg hz] at a; cases a
      have b1: -1000000≤u∧u≤1000000:=by
        obtain ⟨q1,q2⟩:=h1
        rw [e1]
        generalize (l.getD i (0,0,0,false,0,0,0,0,[])).2.2.1 = T at *
        rcases hb with rfl | rfl | rfl | rfl <;> omega
      have b2: -1000000≤v∧v≤1000000:=by
        obtain ⟨q1,q2⟩:=h2
        rw [e2]
        generalize (l.getD (i - 1) (0,0,0,false,0,0,0,0,[])).2.2.1 = T at *
        rcases hb with rfl | rfl | rfl | rfl <;> omega
      rw [← e1, ← e2,wrap64 (by omega) (by omega)]
      exact decide_eq_decide.2 (by omega)
    · simp only [S_slices_IsSortedFunc_api_Item_api_Item_040_0,Sg_slices_IsSortedFunc_api_Item_api_Item_040_0,F_text_Encode_1_805,Fg_text_Encode_1_805,F_text_strip,Fg_text_strip]
      have e:IntKind.i64.wrap ((i:Int) - 1) = ((i - 1:Nat):Int):=by rw [wrap64 (by omega) (by omega)]; omega
      rw [dec_t (by omega),dec_t (by omega),e,dec_t (by omega),Int.toNat_natCast,Int.toNat_natCast,hu]
      try dsimp only
      rw [hv]
      try dsimp only
      by_cases hw:IntKind.i64.wrap (u - v) < 0
      · rw [dec_t hw,if_neg (by simp [hw])]
      · rw [dec_f hw,if_pos (by simp [hw])]
  have go:∀ n:Nat,n < l.length∨n = 0→∃ b:Bool,((∀ i ∈ l,near i.2.2.1 1000000)→b = (List.range n).all fun i=>decide ((l.getD i (0,0,0,false,0,0,0,0,[])).2.2.1 / o0≤(l.getD (i + 1) (0,0,0,false,0,0,0,0,[])).2.2.1 / o0))∧
      ∀ (m:Nat) (K:Bool×Int×Int×Bool×Int×Int×Int×Bool×Int→Option Ans),n < m→iter (S_slices_IsSortedFunc_api_Item_api_Item_040_0 fl) m (l,(n:Int),o0,o1,tu,o3,o4,o5,rf,o7) (fun r=>K r,fun b=>K (true,b.1,b.2.1,b.2.2.1,b.2.2.2.1,b.2.2.2.2.1,b.2.2.2.2.2.1,b.2.2.2.2.2.2.1,b.2.2.2.2.2.2.2)) = K (b,o0,o1,tu,o3,o4,o5,rf,o7):=by
    intro n
    induction n with
    | zero=>
      intro _
      refine ⟨true,fun _=>rfl,fun m K hm=> ?_⟩
      obtain ⟨m,rfl⟩:∃ j,m = j + 1:=⟨m - 1,by omega⟩
      simp only [iter,S_slices_IsSortedFunc_api_Item_api_Item_040_0,Sg_slices_IsSortedFunc_api_Item_api_Item_040_0]
      rw [dec_f (by omega)]
    | succ n ih=>
      intro hn
      obtain ⟨g,g1,g2⟩:=cmp (n + 1) (by omega) (by omega)
      obtain ⟨b,b1,b2⟩:=ih (by omega)
      refine ⟨g&&b,fun h=> ?_,fun m K hm=> ?_⟩
      · have q1:=h _ (getD_mem (l:=l) (i:=n + 1) (by omega) (0,0,0,false,0,0,0,0,[]))
        have q2:=h _ (getD_mem (l:=l) (i:=n) (by omega) (0,0,0,false,0,0,0,0,[]))
        rw [List.range_succ,List.all_append,g1 q1 q2,b1 h,Bool.and_comm]
        simp
      · obtain ⟨m,rfl⟩:∃ j,m = j + 1:=⟨m - 1,by omega⟩
        simp only [iter]
        rw [g2]
        cases g with
        | true=>exact b2 m K (by omega)
        | false=>rfl
  obtain ⟨b,b1,b2⟩:=go (l.length - 1) (by omega)
  refine ⟨b,b1,fun K=> ?_⟩
  have:=b2 fl K (by omega)
  rw [show IntKind.i64.wrap ((l.length:Int) - 1) = (l.length:Int) - 1 from wrap64 (by omega) (by omega)]
  by_cases h0:l.length = 0
  · have hn:l = []:=List.length_eq_zero_iff.1 h0
    subst hn
    obtain ⟨m,rfl⟩:∃ j,fl = j + 1:=⟨fl - 1,by omega⟩
    simp only [iter,S_slices_IsSortedFunc_api_Item_api_Item_040_0,Sg_slices_IsSortedFunc_api_Item_api_Item_040_0] at this ⊢
    rw [dec_f (by simp)] at this ⊢
    exact this
  · rw [show (l.length:Int) - 1 = ((l.length - 1:Nat):Int) by omega]
    exact this
open Go Ev Bm Co Gen Dc Rf
def refEv (o7:Int) (lk:Int) (i:Item) (b:Bmp):List (Int×Int):=
  [(384,1)]++numEv 192 false (i.2.2.2.2.2.2.1 - b.1)++numEv 240 false (i.2.2.2.2.2.2.2.1 - b.2.1)++numEv 288 false i.2.2.2.2.1++numEv 336 false i.2.2.2.2.2.1
    ++rwE o7 i.2.2.2.2.1 i.2.2.2.2.2.1 lk i.2.2.2.2.2.2.1 i.2.2.2.2.2.2.2.1 i.2.2.2.2.2.2.2.2 b.1 b.2.1 b.2.2 i.2.2.2.2.2.2.2.1.toNat
def bmAt (symbols:List Bmp) (n:Int):Bmp:=symbols.getD n.toNat (0,0,[])
def itemEv (o0 o7:Int) (rf:Bool) (symbols:List Bmp) (i:Item):List (Int×Int):=
  (if o0 > 1 then numEv 144 false (i.2.2.1 - i.2.2.1 / o0 * o0) else [])++idEv 385 (tk symbols) i.1.toNat (tk symbols)
    ++(if rf = true then (if i.2.2.2.1 = true then refEv o7 (lik symbols) i (bmAt symbols i.1) else [(384,0)]) else [])
structure TE (o0 o1 o3 o4 o5 o7:Int) (symbols:List Bmp):Prop where
  ov:ov o0 o1 o3 o4 o5 o7 = true
  n:symbols.length≤60
  sh:∀ b ∈ symbols,shp b = true
  z:∀ b ∈ symbols,∀ v ∈ b.2.2,0≤v
structure ItOk (rf:Bool) (symbols:List Bmp) (i:Item):Prop where
  it:itm rf (symbols.length:Int) i = true
  sh:shpI i = true
  z:∀ v ∈ i.2.2.2.2.2.2.2.2,0≤v
theorem shp_pix {b:Bmp} (h:shp b = true) (hz:∀ v ∈ b.2.2,0≤v):Pix b.1 b.2.1 b.2.2∧1≤b.1∧b.1≤40∧1≤b.2.1∧b.2.1≤40:=by
  unfold shp at h
  simp only [Bool.and_eq_true,decide_eq_true_eq] at h
  exact ⟨pix_of h.1 hz,h.2.1,h.2.2.1,h.2.2.2.1,h.2.2.2.2⟩
section
variable {o0 o1 o3 o4 o5 o7:Int} {rf:Bool} {symbols:List Bmp} {i:Item}
theorem ItOk.num (h:ItOk rf symbols i):0≤i.1∧i.1 < (symbols.length:Int)∧near i.2.1 100000∧near i.2.2.1 100000:=by
  have:=h.it
  unfold itm at this
  simp only [Bool.and_eq_true,decide_eq_true_eq] at this
  exact this.1
theorem ItOk.rfd (h:ItOk rf symbols i) (hr:i.2.2.2.1 = true):rf = true∧near i.2.2.2.2.1 200∧near i.2.2.2.2.2.1 200∧Pix i.2.2.2.2.2.2.1 i.2.2.2.2.2.2.2.1 i.2.2.2.2.2.2.2.2∧1≤i.2.2.2.2.2.2.1∧i.2.2.2.2.2.2.1≤40∧1≤i.2.2.2.2.2.2.2.1∧i.2.2.2.2.2.2.2.1≤40:=by
  have h1:=h.it
  have h2:=h.sh
  unfold itm at h1
  unfold shpI at h2
  rw [hr] at h1 h2
  simp only [Bool.and_eq_true,decide_eq_true_eq,if_true] at h1
  obtain ⟨a,b⟩:=shp_pix (b:=i.pix) (by simpa using h2) h.z
  exact ⟨h1.2.1,h1.2.2.1,h1.2.2.2,a,b⟩
theorem TE.bm (T:TE o0 o1 o3 o4 o5 o7 symbols) {n:Int} (h0:0≤n) (h1:n < (symbols.length:Int)):Pix (bmAt symbols n).1 (bmAt symbols n).2.1 (bmAt symbols n).2.2∧1≤(bmAt symbols n).1∧(bmAt symbols n).1≤40∧1≤(bmAt symbols n).2.1∧(bmAt symbols n).2.1≤40:=by
  have hm:bmAt symbols n ∈ symbols:=getD_mem (by omega) _
  exact shp_pix (T.sh _ hm) (T.z _ hm)
theorem TE.rr (T:TE o0 o1 o3 o4 o5 o7 symbols) (h:ItOk rf symbols i) (hr:i.2.2.2.1 = true):RR o7 i.2.2.2.2.1 i.2.2.2.2.2.1 o5 i.2.2.2.2.2.2.1 i.2.2.2.2.2.2.2.1 i.2.2.2.2.2.2.2.2 (bmAt symbols i.1).1 (bmAt symbols i.1).2.1 (bmAt symbols i.1).2.2:=by
  obtain ⟨_,_,_,_,_,_,_,k,t⟩:=ov_iff.1 T.ov
  obtain ⟨_,d1,d2,p,_⟩:=h.rfd hr
  obtain ⟨n0,n1,_⟩:=h.num
  exact ⟨t,k,d1,d2,p,(T.bm n0 n1).1⟩
theorem lik_sz (o7:Int) (rf:Bool) (symbols:List Bmp) (h:symbols.length≤60):385≤lik symbols∧lik symbols≤448∧lik symbols≤tsz o7 rf symbols∧tsz o7 rf symbols≤961∧(rf = true→lik symbols + csz o7 + 1≤tsz o7 rf symbols):=by
  obtain ⟨_,_,c,d⟩:=tk_ok h
  have hc:=csz_eq o7
  unfold tsz lik
  split
  · exact ⟨by omega,by omega,by omega,by omega,fun _=>by omega⟩
  · rename_i hr
    exact ⟨by omega,by omega,by omega,by omega,fun h=>absurd h hr⟩
theorem itemEv_ok (T:TE o0 o1 o3 o4 o5 o7 symbols) (h:ItOk rf symbols i) {N:Nat} (hN:(N:Int) = tsz o7 rf symbols):Evs N (itemEv o0 o7 rf symbols i)∧(itemEv o0 o7 rf symbols i).length≤2000:=by
  obtain ⟨s0,s1,s2,s3,s4⟩:=lik_sz o7 rf symbols T.n
  obtain ⟨n0,n1,n2,n3⟩:=h.num
  obtain ⟨q1,_⟩:=ov_iff.1 T.ov
  obtain ⟨ka,kb,kc,kd⟩:=tk_ok T.n
  have em:i.2.2.1 - i.2.2.1 / o0 * o0 = i.2.2.1 % o0:=by
    have:=Int.emod_add_mul_ediv i.2.2.1 o0
    rw [Int.mul_comm] at this
    omega
  have eb:0≤i.2.2.1 % o0∧i.2.2.1 % o0 < 8:=by rcases q1 with rfl | rfl | rfl | rfl <;> omega
  have e2:(2:Int) ^ tk symbols = ((2 ^ tk symbols:Nat):Int):=by rw [Int.natCast_pow]; rfl
  have a1:Evs N (if o0 > 1 then numEv 144 false (i.2.2.1 - i.2.2.1 / o0 * o0) else [])∧(if o0 > 1 then numEv 144 false (i.2.2.1 - i.2.2.1 / o0 * o0) else []).length≤50:=by
    split
    · exact numEv_ok (by omega) (by omega) false (by omega) (by omega)
    · exact ⟨Evs.nil N,by simp⟩
  have a2:Evs N (idEv 385 (tk symbols) i.1.toNat (tk symbols)):=idEv_evs (by omega) (by rw [e2]; unfold lik at *; omega) (by omega) _ (Nat.le_refl _)
  have a2l:=idEv_len 385 (tk symbols) i.1.toNat (tk symbols)
  have a3:Evs N (if rf = true then (if i.2.2.2.1 = true then refEv o7 (lik symbols) i (bmAt symbols i.1) else [(384,0)]) else [])∧(if rf = true then (if i.2.2.2.1 = true then refEv o7 (lik symbols) i (bmAt symbols i.1) else [(384,0)]) else []).length≤1801:=by
    split
    · rename_i hrf
      split
      · rename_i hr
        obtain ⟨_,⟨d1,d2⟩,⟨d3,d4⟩,p,w0,w1,h0,h1⟩:=h.rfd hr
        obtain ⟨pb,b0,b1,b2,b3⟩:=T.bm n0 n1
        have R:=T.rr h hr
        obtain ⟨c1,c2⟩:=numEv_ok (base:=192) (n:=N) (by omega) (by omega) false (v:=i.2.2.2.2.2.2.1 - (bmAt symbols i.1).1) (by omega) (by omega)
        obtain ⟨c3,c4⟩:=numEv_ok (base:=240) (n:=N) (by omega) (by omega) false (v:=i.2.2.2.2.2.2.2.1 - (bmAt symbols i.1).2.1) (by omega) (by omega)
        obtain ⟨c5,c6⟩:=numEv_ok (base:=288) (n:=N) (by omega) (by omega) false (v:=i.2.2.2.2.1) (by omega) (by omega)
        obtain ⟨c7,c8⟩:=numEv_ok (base:=336) (n:=N) (by omega) (by omega) false (v:=i.2.2.2.2.2.1) (by omega) (by omega)
        obtain ⟨c9,c10⟩:=rwE_ok R (base:=lik symbols) (n:=N) (by omega) (by have:=s4 hrf; omega) i.2.2.2.2.2.2.2.1.toNat
        have hm:i.2.2.2.2.2.2.2.1.toNat * i.2.2.2.2.2.2.1.toNat≤40 * 40:=Nat.mul_le_mul (by omega) (by omega)
        unfold refEv
        refine ⟨Evs.app (Evs.app (Evs.app (Evs.app (Evs.app (Evs.one (by omega) (by omega) (.inr rfl)) c1) c3) c5) c7) c9, ?_⟩
        simp only [List.length_append,List.length_cons,List.length_nil]
        omega
      · exact ⟨Evs.one (by omega) (by omega) (.inl rfl),by simp⟩
    · exact ⟨Evs.nil N,by simp⟩
  unfold itemEv
  refine ⟨Evs.app (Evs.app a1.1 a2) a3.1, ?_⟩
  rw [List.length_append,List.length_append,a2l]
  omega
end
section
variable {fl:Nat} (hfl:9223372036854775808≤fl) {kd:Int} {x:Iv} (hx:x.Ok kd) (hn:x.st.length≤8192) {out:List Int}
include hfl hx hn
theorem Put_at {E:List (Int×Int)} (he:Evs x.st.length E) (hl:out.length + 5 * E.length≤800000000) {base:Int} (hb:0≤base) (hb2:base + 48≤(x.st.length:Int)) {o:Bool} {n:Int} (hon:o = true→n = 0) (h0: -1048576≤n) (h1:n≤1048576) {K:Int×Int×Int×Int×Bool×List Int×List Int→Option Ans}:
    F_number_Put_856 fl base o n kd (run kd x out E).1.lo (run kd x out E).1.hi true (run kd x out E).1.st (run kd x out E).2 K
    = K (0,kd,(run kd x out (E++numEv base o n)).1.lo,(run kd x out (E++numEv base o n)).1.hi,true,(run kd x out (E++numEv base o n)).1.st,(run kd x out (E++numEv base o n)).2):=by
  obtain ⟨ok,okl⟩:=run_ok E (out:=out) hx he
  have hol:=run_len_le E (kd:=kd) (x:=x) (out:=out)
  rw [run_append,Put_ok hfl ok (by omega) hb (by omega) hon h0 h1 (by omega)]
theorem PutId_at {E:List (Int×Int)} (he:Evs x.st.length E) (hl:out.length + 5 * E.length≤800000000) {base:Int} (hb:0≤base) {k id:Nat} (hk:k≤10) (hid:id < 2 ^ k) (hb2:base + 2 ^ k - 1≤(x.st.length:Int)) {K:Int×Int×Int×Int×Bool×List Int×List Int→Option Ans}:
    F_number_PutId_b82 fl base (k:Int) (id:Int) kd (run kd x out E).1.lo (run kd x out E).1.hi true (run kd x out E).1.st (run kd x out E).2 K
    = K (0,kd,(run kd x out (E++idEv base k id k)).1.lo,(run kd x out (E++idEv base k id k)).1.hi,true,(run kd x out (E++idEv base k id k)).1.st,(run kd x out (E++idEv base k id k)).2):=by
  obtain ⟨ok,okl⟩:=run_ok E (out:=out) hx he
  have hol:=run_len_le E (kd:=kd) (x:=x) (out:=out)
  rw [run_append,PutId_ok hfl ok (by omega) hb hk hid (by rw [okl]; exact hb2) (by omega)]
theorem eput_at {E:List (Int×Int)} (he:Evs x.st.length E) (hl:out.length + 5 * E.length≤800000000) {c b:Int} (h0:0≤c) (h1:c < (x.st.length:Int)) (hb:b = 0∨b = 1) {k0 k1:Int×Int×Int×Int×Bool×List Int×List Int→Option Ans}:
    F_coder_Encoder_Put_cf0 fl c b kd (run kd x out E).1.lo (run kd x out E).1.hi true (run kd x out E).1.st (run kd x out E).2 k0 k1
    = k1 (0,kd,(run kd x out (E++ [(c,b)])).1.lo,(run kd x out (E++ [(c,b)])).1.hi,true,(run kd x out (E++ [(c,b)])).1.st,(run kd x out (E++ [(c,b)])).2):=by
  obtain ⟨ok,okl⟩:=run_ok E (out:=out) hx he
  have hol:=run_len_le E (kd:=kd) (x:=x) (out:=out)
  rw [run_append,Co.put_ok hfl ok h0 (by omega) hb (by omega)]
  rfl
theorem rput_at {t dx dy base w h kr:Int} {p:List Int} {rw rh:Int} {rp:List Int} (hr:RR t dx dy kr w h p rw rh rp) {E:List (Int×Int)} (he:Evs x.st.length E) (hl:out.length + 5 * E.length≤800000000) (h0:0≤base) (h1:base + csz t + 1≤(x.st.length:Int)) {K}:
    F_refine_Put_d0e fl base t dx dy false kr w h p rw rh rp kd (run kd x out E).1.lo (run kd x out E).1.hi true (run kd x out E).1.st (run kd x out E).2 K
    = K (0,kd,(run kd x out (E++rwE t dx dy base w h p rw rh rp h.toNat)).1.lo,(run kd x out (E++rwE t dx dy base w h p rw rh rp h.toNat)).1.hi,true,(run kd x out (E++rwE t dx dy base w h p rw rh rp h.toNat)).1.st,(run kd x out (E++rwE t dx dy base w h p rw rh rp h.toNat)).2):=by
  obtain ⟨ok,okl⟩:=run_ok E (out:=out) hx he
  have hol:=run_len_le E (kd:=kd) (x:=x) (out:=out)
  rw [run_append,rput_ok2 hfl hr ok (by omega) h0 (by omega) (by omega)]
theorem wput_at {o0 o1 o3 o4 o5 o7 k lk sz:Int} {tu rf:Bool} {symbols:List Bmp} {E:List (Int×Int)} (he:Evs x.st.length E) (hl:out.length + 5 * E.length≤800000000) {base:Int} (hb:0≤base) (hb2:base + 48≤(x.st.length:Int)) {n:Int} (h0: -1048576≤n) (h1:n≤1048576) {K}:
    F_text_writer_put_9ea fl base n o0 o1 tu o3 o4 o5 rf o7 k lk sz symbols kd (run kd x out E).1.lo (run kd x out E).1.hi true (run kd x out E).1.st (run kd x out E).2 K
    = K (o0,o1,tu,o3,o4,o5,rf,o7,k,lk,sz,symbols,kd,(run kd x out (E++numEv base false n)).1.lo,(run kd x out (E++numEv base false n)).1.hi,true,(run kd x out (E++numEv base false n)).1.st,(run kd x out (E++numEv base false n)).2):=by
  unfold F_text_writer_put_9ea Fg_text_writer_put_9ea
  rw [Put_at hfl hx hn he hl hb hb2 (fun h=>absurd h (by simp)) h0 h1]
theorem witem_at {o0 o1 o3 o4 o5 o7:Int} {tu rf:Bool} {symbols:List Bmp} (T:TE o0 o1 o3 o4 o5 o7 symbols) {i:Item} (h:ItOk rf symbols i) (hN:(x.st.length:Int) = tsz o7 rf symbols) {E:List (Int×Int)} (he:Evs x.st.length E) (hl:out.length + 5 * E.length≤700000000) {K}:
    F_text_writer_item_1a8 fl i.1 i.2.1 i.2.2.1 i.2.2.2.1 i.2.2.2.2.1 i.2.2.2.2.2.1 i.2.2.2.2.2.2.1 i.2.2.2.2.2.2.2.1 i.2.2.2.2.2.2.2.2 o0 o1 tu o3 o4 o5 rf o7 (tk symbols:Int) (lik symbols) (tsz o7 rf symbols) symbols kd (run kd x out E).1.lo (run kd x out E).1.hi true (run kd x out E).1.st (run kd x out E).2 K
    = K (o0,o1,tu,o3,o4,o5,rf,o7,(tk symbols:Int),lik symbols,tsz o7 rf symbols,symbols,kd,(run kd x out (E++itemEv o0 o7 rf symbols i)).1.lo,(run kd x out (E++itemEv o0 o7 rf symbols i)).1.hi,true,(run kd x out (E++itemEv o0 o7 rf symbols i)).1.st,(run kd x out (E++itemEv o0 o7 rf symbols i)).2):=by
  obtain ⟨s0,s1,s2,s3,s4⟩:=lik_sz o7 rf symbols T.n
  obtain ⟨n0,n1,n2,n3,n4⟩:=h.num
  obtain ⟨q1,_⟩:=ov_iff.1 T.ov
  obtain ⟨ka,kb,kc,kd'⟩:=tk_ok T.n
  have e2:(2:Int) ^ tk symbols = ((2 ^ tk symbols:Nat):Int):=by rw [Int.natCast_pow]; rfl
  have eid:i.1 = ((i.1.toNat:Nat):Int):=by omega
  have tail:∀ E1:List (Int×Int),Evs x.st.length E1→out.length + 5 * E1.length≤750000000→∀ K:_→Option Ans,
      (F_number_PutId_b82 fl 385 (tk symbols:Int) i.1 kd (run kd x out E1).1.lo (run kd x out E1).1.hi true (run kd x out E1).1.st (run kd x out E1).2 K)
      = K (0,kd,(run kd x out (E1++idEv 385 (tk symbols) i.1.toNat (tk symbols))).1.lo,(run kd x out (E1++idEv 385 (tk symbols) i.1.toNat (tk symbols))).1.hi,true,(run kd x out (E1++idEv 385 (tk symbols) i.1.toNat (tk symbols))).1.st,(run kd x out (E1++idEv 385 (tk symbols) i.1.toNat (tk symbols))).2):=by
    intro E1 h1 h2 K
    conv=>lhs; rw [eid]
    exact PutId_at hfl hx hn h1 (by omega) (by omega) (by omega) (by omega) (by rw [e2]; unfold lik at *; omega)
  have em:i.2.2.1 - i.2.2.1 / o0 * o0 = i.2.2.1 % o0:=by
    have:=Int.emod_add_mul_ediv i.2.2.1 o0
    rw [Int.mul_comm] at this
    omega
  have eb8:0≤i.2.2.1 % o0∧i.2.2.1 % o0 < 8:=by rcases q1 with rfl | rfl | rfl | rfl <;> omega
  have hid:Evs x.st.length (idEv 385 (tk symbols) i.1.toNat (tk symbols)):=idEv_evs (by omega) (by rw [e2]; unfold lik at *; omega) (by omega) _ (Nat.le_refl _)
  have hidl:=idEv_len 385 (tk symbols) i.1.toNat (tk symbols)
  unfold F_text_writer_item_1a8 Fg_text_writer_item_1a8
  by_cases h1:o0 > 1
  · rw [dec_t h1]
    have hst:∀ K:Int→Option Ans,F_text_strip fl o0 o1 tu o3 o4 o5 rf o7 i.1 i.2.1 i.2.2.1 i.2.2.2.1 i.2.2.2.2.1 i.2.2.2.2.2.1 i.2.2.2.2.2.2.1 i.2.2.2.2.2.2.2.1 i.2.2.2.2.2.2.2.2 K = K (i.2.2.1 / o0):=fun K=>strip_ok q1 ⟨by omega,by omega⟩
    have hw:IntKind.i64.wrap (i.2.2.1 - IntKind.i64.wrap (i.2.2.1 / o0 * o0)) = i.2.2.1 - i.2.2.1 / o0 * o0:=by
      rw [w6 (x:=i.2.2.1 / o0 * o0),wrap64 (by omega) (by omega)]
    have hp:∀ K,F_text_writer_put_9ea fl 144 (i.2.2.1 - i.2.2.1 / o0 * o0) o0 o1 tu o3 o4 o5 rf o7 (tk symbols:Int) (lik symbols) (tsz o7 rf symbols) symbols kd (run kd x out E).1.lo (run kd x out E).1.hi true (run kd x out E).1.st (run kd x out E).2 K
        = K (o0,o1,tu,o3,o4,o5,rf,o7,(tk symbols:Int),lik symbols,tsz o7 rf symbols,symbols,kd,(run kd x out (E++numEv 144 false (i.2.2.1 - i.2.2.1 / o0 * o0))).1.lo,(run kd x out (E++numEv 144 false (i.2.2.1 - i.2.2.1 / o0 * o0))).1.hi,true,(run kd x out (E++numEv 144 false (i.2.2.1 - i.2.2.1 / o0 * o0))).1.st,(run kd x out (E++numEv 144 false (i.2.2.1 - i.2.2.1 / o0 * o0))).2):=
      fun K=>wput_at hfl hx hn he (by omega) (by omega) (by omega) (by omega) (by omega)
    simp only [hst,hw,hp,both_same]
    obtain ⟨e1,l1⟩:=numEv_ok (base:=144) (n:=x.st.length) (by omega) (by omega) false (v:=i.2.2.1 - i.2.2.1 / o0 * o0) (by omega) (by omega)
    have he1:=Evs.app he e1
    have hl1:(E++numEv 144 false (i.2.2.1 - i.2.2.1 / o0 * o0)).length≤E.length + 50:=by rw [List.length_append]; omega
    generalize hE1:E++numEv 144 false (i.2.2.1 - i.2.2.1 / o0 * o0) = E1 at he1 hl1 ⊢
    have hE1:=hE1.symm
    rw [tail E1 he1 (by omega)]
    dsimp only
    have he2:Evs x.st.length (E1++idEv 385 (tk symbols) i.1.toNat (tk symbols)):=Evs.app he1 hid
    have hl2:(E1++idEv 385 (tk symbols) i.1.toNat (tk symbols)).length≤E1.length + 10:=by rw [List.length_append,hidl]; omega
    generalize hE2:E1++idEv 385 (tk symbols) i.1.toNat (tk symbols) = E2 at he2 hl2 ⊢
    cases rf with
    | false=>
      rw [cond_t (b:=!false) rfl]
      have hf:E++itemEv o0 o7 false symbols i = E2:=by
        unfold itemEv
        rw [if_pos h1,if_neg (by simp), ← hE2,hE1]
        simp only [List.append_assoc,List.append_nil,List.nil_append]
      rw [hf]
    | true=>
      rw [cond_f (b:=!true) rfl]
      cases hr:i.2.2.2.1 with
      | false=>
        rw [cond_t (b:=!false) rfl,eput_at hfl hx hn he2 (by omega) (by omega) (by omega) (.inl rfl)]
        have hf:E++itemEv o0 o7 true symbols i = E2++ [(384,0)]:=by
          unfold itemEv
          rw [if_pos h1,if_pos rfl,hr,if_neg (by simp), ← hE2,hE1]
          simp only [List.append_assoc,List.append_nil,List.nil_append]
        rw [hf]
      | true=>
        obtain ⟨_,⟨d1,d2⟩,⟨d3,d4⟩,p,w0,w1,h0,h1'⟩:=h.rfd hr
        obtain ⟨pb,b0,b1,b2,b3⟩:=T.bm n0 n1
        have R:=T.rr h hr
        have hs4:=s4 rfl
        have hf:E++itemEv o0 o7 true symbols i = E2++refEv o7 (lik symbols) i (bmAt symbols i.1):=by
          unfold itemEv
          rw [if_pos h1,if_pos rfl,hr,if_pos rfl, ← hE2,hE1]
          simp only [List.append_assoc,List.append_nil,List.nil_append]
        rw [hf]
        clear hf
        rw [cond_f (b:=!true) rfl,eput_at hfl hx hn he2 (by omega) (by omega) (by omega) (.inr rfl)]
        dsimp only
        rw [dec_t ⟨n0,n1⟩]
        have eb:symbols.getD i.1.toNat (0,0,[]) = bmAt symbols i.1:=rfl
        rw [eb]
        unfold refEv
        have he3:Evs x.st.length (E2++ [(384,1)]):=Evs.app he2 (Evs.one (by omega) (by omega) (.inr rfl))
        have hl3:(E2++ [((384:Int),(1:Int))]).length = E2.length + 1:=by simp
        simp only [← List.append_assoc]
        generalize E2++ [((384:Int),(1:Int))] = E3 at he3 hl3 ⊢
        generalize bmAt symbols i.1 = B at *
        rw [w6 (x:=i.2.2.2.2.2.2.1 - B.1),wput_at hfl hx hn he3 (by omega) (by omega) (by omega) (by omega) (by omega)]
        dsimp only
        obtain ⟨e4,l4⟩:=numEv_ok (base:=192) (n:=x.st.length) (by omega) (by omega) false (v:=i.2.2.2.2.2.2.1 - B.1) (by omega) (by omega)
        have he4:=Evs.app he3 e4
        have hl4:(E3++numEv 192 false (i.2.2.2.2.2.2.1 - B.1)).length≤E3.length + 50:=by rw [List.length_append]; omega
        generalize E3++numEv 192 false (i.2.2.2.2.2.2.1 - B.1) = E4 at he4 hl4 ⊢
        rw [w6 (x:=i.2.2.2.2.2.2.2.1 - B.2.1),wput_at hfl hx hn he4 (by omega) (by omega) (by omega) (by omega) (by omega)]
        dsimp only
        obtain ⟨e5,l5⟩:=numEv_ok (base:=240) (n:=x.st.length) (by omega) (by omega) false (v:=i.2.2.2.2.2.2.2.1 - B.2.1) (by omega) (by omega)
        have he5:=Evs.app he4 e5
        have hl5:(E4++numEv 240 false (i.2.2.2.2.2.2.2.1 - B.2.1)).length≤E4.length + 50:=by rw [List.length_append]; omega
        generalize E4++numEv 240 false (i.2.2.2.2.2.2.2.1 - B.2.1) = E5 at he5 hl5 ⊢
        rw [wput_at hfl hx hn he5 (by omega) (by omega) (by omega) (by omega) (by omega)]
        dsimp only
        obtain ⟨e6,l6⟩:=numEv_ok (base:=288) (n:=x.st.length) (by omega) (by omega) false (v:=i.2.2.2.2.1) (by omega) (by omega)
        have he6:=Evs.app he5 e6
        have hl6:(E5++numEv 288 false i.2.2.2.2.1).length≤E5.length + 50:=by rw [List.length_append]; omega
        generalize E5++numEv 288 false i.2.2.2.2.1 = E6 at he6 hl6 ⊢
        rw [wput_at hfl hx hn he6 (by omega) (by omega) (by omega) (by omega) (by omega)]
        dsimp only
        obtain ⟨e7,l7⟩:=numEv_ok (base:=336) (n:=x.st.length) (by omega) (by omega) false (v:=i.2.2.2.2.2.1) (by omega) (by omega)
        have he7:=Evs.app he6 e7
        have hl7:(E6++numEv 336 false i.2.2.2.2.2.1).length≤E6.length + 50:=by rw [List.length_append]; omega
        generalize E6++numEv 336 false i.2.2.2.2.2.1 = E7 at he7 hl7 ⊢
        unfold F_text_layout_options
        dsimp only
        rw [rput_at hfl hx hn R he7 (by omega) (by omega) (by omega)]
  · rw [dec_f h1]
    obtain ⟨E1,hE1⟩:∃ e,e = E:=⟨E,rfl⟩
    rw [← hE1]
    have he1:Evs x.st.length E1:=by rw [hE1]; exact he
    have hl1:E1.length≤E.length:=by rw [hE1]; exact Nat.le_refl _
    rw [tail E1 he1 (by omega)]
    dsimp only
    have he2:Evs x.st.length (E1++idEv 385 (tk symbols) i.1.toNat (tk symbols)):=Evs.app he1 hid
    have hl2:(E1++idEv 385 (tk symbols) i.1.toNat (tk symbols)).length≤E1.length + 10:=by rw [List.length_append,hidl]; omega
    generalize hE2:E1++idEv 385 (tk symbols) i.1.toNat (tk symbols) = E2 at he2 hl2 ⊢
    cases rf with
    | false=>
      rw [cond_t (b:=!false) rfl]
      have hf:E1++itemEv o0 o7 false symbols i = E2:=by
        unfold itemEv
        rw [if_neg h1,if_neg (by simp), ← hE2]
        simp only [List.append_assoc,List.append_nil,List.nil_append]
      rw [hf]
    | true=>
      rw [cond_f (b:=!true) rfl]
      cases hr:i.2.2.2.1 with
      | false=>
        rw [cond_t (b:=!false) rfl,eput_at hfl hx hn he2 (by omega) (by omega) (by omega) (.inl rfl)]
        have hf:E1++itemEv o0 o7 true symbols i = E2++ [(384,0)]:=by
          unfold itemEv
          rw [if_neg h1,if_pos rfl,hr,if_neg (by simp), ← hE2]
          simp only [List.append_assoc,List.append_nil,List.nil_append]
        rw [hf]
      | true=>
        obtain ⟨_,⟨d1,d2⟩,⟨d3,d4⟩,p,w0,w1,h0,h1'⟩:=h.rfd hr
        obtain ⟨pb,b0,b1,b2,b3⟩:=T.bm n0 n1
        have R:=T.rr h hr
        have hs4:=s4 rfl
        have hf:E1++itemEv o0 o7 true symbols i = E2++refEv o7 (lik symbols) i (bmAt symbols i.1):=by
          unfold itemEv
          rw [if_neg h1,if_pos rfl,hr,if_pos rfl, ← hE2]
          simp only [List.append_assoc,List.append_nil,List.nil_append]
        rw [hf]
        clear hf
        rw [cond_f (b:=!true) rfl,eput_at hfl hx hn he2 (by omega) (by omega) (by omega) (.inr rfl)]
        dsimp only
        rw [dec_t ⟨n0,n1⟩]
        have eb:symbols.getD i.1.toNat (0,0,[]) = bmAt symbols i.1:=rfl
        rw [eb]
        unfold refEv
        have he3:Evs x.st.length (E2++ [(384,1)]):=Evs.app he2 (Evs.one (by omega) (by omega) (.inr rfl))
        have hl3:(E2++ [((384:Int),(1:Int))]).length = E2.length + 1:=by simp
        simp only [← List.append_assoc]
        generalize E2++ [((384:Int),(1:Int))] = E3 at he3 hl3 ⊢
        generalize bmAt symbols i.1 = B at *
        rw [w6 (x:=i.2.2.2.2.2.2.1 - B.1),wput_at hfl hx hn he3 (by omega) (by omega) (by omega) (by omega) (by omega)]
        dsimp only
        obtain ⟨e4,l4⟩:=numEv_ok (base:=192) (n:=x.st.length) (by omega) (by omega) false (v:=i.2.2.2.2.2.2.1 - B.1) (by omega) (by omega)
        have he4:=Evs.app he3 e4
        have hl4:(E3++numEv 192 false (i.2.2.2.2.2.2.1 - B.1)).length≤E3.length + 50:=by rw [List.length_append]; omega
        generalize E3++numEv 192 false (i.2.2.2.2.2.2.1 - B.1) = E4 at he4 hl4 ⊢
        rw [w6 (x:=i.2.2.2.2.2.2.2.1 - B.2.1),wput_at hfl hx hn he4 (by omega) (by omega) (by omega) (by omega) (by omega)]
        dsimp only
        obtain ⟨e5,l5⟩:=numEv_ok (base:=240) (n:=x.st.length) (by omega) (by omega) false (v:=i.2.2.2.2.2.2.2.1 - B.2.1) (by omega) (by omega)
        have he5:=Evs.app he4 e5
        have hl5:(E4++numEv 240 false (i.2.2.2.2.2.2.2.1 - B.2.1)).length≤E4.length + 50:=by rw [List.length_append]; omega
        generalize E4++numEv 240 false (i.2.2.2.2.2.2.2.1 - B.2.1) = E5 at he5 hl5 ⊢
        rw [wput_at hfl hx hn he5 (by omega) (by omega) (by omega) (by omega) (by omega)]
        dsimp only
        obtain ⟨e6,l6⟩:=numEv_ok (base:=288) (n:=x.st.length) (by omega) (by omega) false (v:=i.2.2.2.2.1) (by omega) (by omega)
        have he6:=Evs.app he5 e6
        have hl6:(E5++numEv 288 false i.2.2.2.2.1).length≤E5.length + 50:=by rw [List.length_append]; omega
        generalize E5++numEv 288 false i.2.2.2.2.1 = E6 at he6 hl6 ⊢
        rw [wput_at hfl hx hn he6 (by omega) (by omega) (by omega) (by omega) (by omega)]
        dsimp only
        obtain ⟨e7,l7⟩:=numEv_ok (base:=336) (n:=x.st.length) (by omega) (by omega) false (v:=i.2.2.2.2.2.1) (by omega) (by omega)
        have he7:=Evs.app he6 e7
        have hl7:(E6++numEv 336 false i.2.2.2.2.2.1).length≤E6.length + 50:=by rw [List.length_append]; omega
        generalize E6++numEv 336 false i.2.2.2.2.2.1 = E7 at he7 hl7 ⊢
        unfold F_text_layout_options
        dsimp only
        rw [rput_at hfl hx hn R he7 (by omega) (by omega) (by omega)]
end
end Go.Proofs.YtipdidpalcmlhaaGreat.Tx
