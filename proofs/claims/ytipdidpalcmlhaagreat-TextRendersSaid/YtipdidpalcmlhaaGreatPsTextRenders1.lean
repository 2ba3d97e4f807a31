/- Laws of the typed texts that TextRenders reaches, in plain Lean. No condition but what each theorem names. -/
import Derived.Test.YtipdidpalcmlhaaGreatEvO
import Derived.Test.YtipdidpalcmlhaaGreatFsTextRenders3
import Derived.Test.YtipdidpalcmlhaaGreatFsTextRenders4
import Derived.Test.YtipdidpalcmlhaaGreatFsTextRenders1
import Derived.Test.YtipdidpalcmlhaaGreatFsTextRenders2
import Derived.Test.YtipdidpalcmlhaaGreatEvS
set_option linter.unusedVariables false
set_option linter.unusedSimpArgs false
set_option linter.unusedSectionVars false
namespace Go.Proofs.YtipdidpalcmlhaaGreat.Ev
open Go
theorem cond_t {α:Sort _} {b:Bool} {x y:α} (h:b = true):(bif b then x else y) = x:=by rw [h]; rfl
theorem cond_f {α:Sort _} {b:Bool} {x y:α} (h:b = false):(bif b then x else y) = y:=by rw [h]; rfl
theorem dec_t {p:Prop} {i:Decidable p} {α:Sort _} {x y:α} (h:p):(bif @decide p i then x else y) = x:=cond_t (decide_eq_true h)
theorem dec_f {p:Prop} {i:Decidable p} {α:Sort _} {x y:α} (h:¬p):(bif @decide p i then x else y) = y:=cond_f (decide_eq_false h)
theorem both_same (x:Option Ans):both x x = x:=by
  unfold both
  cases x with
  | none=>rfl
  | some u=>rfl
theorem fuel_eq:fuel = 18446744073709551616:=rfl
theorem wrap64 {x:Int} (h1: -9223372036854775808≤x) (h2:x≤9223372036854775807):IntKind.i64.wrap x = x:=by
  simp [IntKind.wrap,IntKind.min,IntKind.max,IntKind.signed,IntKind.bits]
  omega
theorem wrap8 {x:Int} (h1:0≤x) (h2:x≤255):IntKind.u8.wrap x = x:=by
  simp [IntKind.wrap,IntKind.min,IntKind.max,IntKind.signed,IntKind.bits]
  omega
theorem iter_to {V B:Type} {step:V→(V→Option Ans)→B→Option Ans} {b:B} {r:Option Ans} (σ:Nat→V) (n:Nat)
    (h:∀ i,i < n→∀ c,step (σ i) c b = c (σ (i + 1))) (hn:∀ c,step (σ n) c b = r) {m:Nat} (hm:n < m):iter step m (σ 0) b = r:=by
  have key:∀ d i m,i + d = n→d < m→iter step m (σ i) b = r:=by
    intro d
    induction d with
    | zero=>
      intro i m hi hm
      obtain ⟨m,rfl⟩:∃ k,m = k + 1:=⟨m - 1,by omega⟩
      have:i = n:=by omega
      subst this
      exact hn _
    | succ d ih=>
      intro i m hi hm
      obtain ⟨m,rfl⟩:∃ k,m = k + 1:=⟨m - 1,by omega⟩
      simp only [iter]
      rw [h i (by omega)]
      exact ih (i + 1) m (by omega) (by omega)
  exact key n 0 m (by omega) hm
theorem iter_seq {V B:Type} {step:V→(V→Option Ans)→B→Option Ans} {b:B} {r:Option Ans} {v:V} {m:Nat} (σ:Nat→V) (n:Nat) (hv:v = σ 0)
    (h:∀ i,i < n→∀ c,step (σ i) c b = c (σ (i + 1))) (hn:∀ c,step (σ n) c b = r) (hm:n < m):iter step m v b = r:=by
  rw [hv]
  exact iter_to σ n h hn hm
theorem take_succ_getD {α:Type} {l:List α} {i:Nat} (h:i < l.length) (d:α):l.take (i + 1) = l.take i++ [l.getD i d]:=by
  rw [List.take_add_one]
  simp [List.getElem?_eq_getElem h]
theorem all_take_succ {α:Type} {l:List α} {i:Nat} (h:i < l.length) (d:α) (p:α→Bool):(l.take (i + 1)).all p = ((l.take i).all p&&p (l.getD i d)):=by
  rw [take_succ_getD h d,List.all_append]; simp
theorem getD_lt {α:Type} {l:List α} {i:Nat} (h:i < l.length) (d:α):l.getD i d = l[i]:=by simp [h]
theorem getD_mem {α:Type} {l:List α} {i:Nat} (h:i < l.length) (d:α):l.getD i d ∈ l:=by rw [getD_lt h]; exact List.getElem_mem h
theorem all_or_first {α:Type} (p:α→Bool) (d:α) (l:List α):l.all p = true∨∃ n,n < l.length∧p (l.getD n d) = false∧∀ i,i < n→p (l.getD i d) = true:=by
  induction l with
  | nil=>exact .inl rfl
  | cons x l ih=>
    cases hx:p x with
    | false=>exact .inr ⟨0,by simp,by simpa using hx,fun i hi=>by omega⟩
    | true=>
      rcases ih with ih | ⟨n,h1,h2,h3⟩
      · left; simp [hx,ih]
      · refine .inr ⟨n + 1,by simpa using h1,by simpa using h2,fun i hi=> ?_⟩
        cases i with
        | zero=>simpa using hx
        | succ i=>simpa using h3 i (by omega)
theorem all_getD {α:Type} {p:α→Bool} {l:List α} (h:l.all p = true) (d:α) {i:Nat} (hi:i < l.length):p (l.getD i d) = true:=
  List.all_eq_true.1 h _ (getD_mem hi d)
theorem not_all {α:Type} {p:α→Bool} {l:List α} {d:α} {n:Nat} (h:n < l.length) (hp:p (l.getD n d) = false):l.all p = false:=by
  rw [List.all_eq_false]
  exact ⟨_,getD_mem h d,by rw [hp]; simp⟩
end Go.Proofs.YtipdidpalcmlhaaGreat.Ev
namespace Go.Proofs.YtipdidpalcmlhaaGreat.Bm
open Go Ev
theorem cd {α:Sort _} {p:Prop} {i:Decidable p} {x y:α}:(bif @decide p i then x else y) = @ite α p i x y:=by by_cases h:p <;> simp [h]
theorem cb {α:Sort _} {a b:Int} {x y:α}:(bif a==b then x else y) = if a = b then x else y:=by
  by_cases h:a = b
  · simp [h]
  · rw [if_neg h,cond_f (by simpa using h)]
theorem cn {α:Sort _} {a b:Int} {x y:α}:(bif a != b then x else y) = if a = b then y else x:=by
  by_cases h:a = b
  · simp [h]
  · rw [if_neg h,cond_t (by simpa using h)]
theorem mul_le {w h a b:Int} (h0:0≤w) (h1:w≤a) (h2:0≤h) (h3:h≤b):0≤w * h∧w * h≤a * b:=
  ⟨Int.mul_nonneg h0 h2,Int.mul_le_mul h1 h3 h2 (by omega)⟩
def fit (w h:Int):Bool:=decide (0≤w∧0≤h∧w≤200∧h≤200∧w * h≤8192)
theorem fit_iff {w h:Int}:fit w h = true↔0≤w∧0≤h∧w≤200∧h≤200∧w * h≤8192:=by simp [fit]
theorem fits_ok {fl:Nat} {w h:Int} {K:Bool→Option Ans}:F_bitmap_fits fl w h K = K (fit w h):=by
  unfold F_bitmap_fits fit
  simp only [cd]
  split
  · split
    · split
      · split
        · have:=mul_le (a:=200) (b:=200) (show 0≤w by omega) (by omega) (show 0≤h by omega) (by omega)
          rw [wrap64 (by omega) (by omega)]
          exact congrArg K (decide_eq_decide.2 (by omega))
        · exact congrArg K (decide_eq_false (by omega)).symm
      · exact congrArg K (decide_eq_false (by omega)).symm
    · exact congrArg K (decide_eq_false (by omega)).symm
  · exact congrArg K (decide_eq_false (by omega)).symm
def valid (w h:Int) (pix:List Int):Bool:=fit w h&&decide ((pix.length:Int) = w * h)&&pix.all fun x=>decide (x≤1)
theorem valid_iff {w h:Int} {pix:List Int}:valid w h pix = true↔(0≤w∧0≤h∧w≤200∧h≤200∧w * h≤8192)∧(pix.length:Int) = w * h∧∀ x ∈ pix,x≤1:=by
  unfold valid
  rw [Bool.and_eq_true,Bool.and_eq_true,fit_iff,decide_eq_true_eq,List.all_eq_true]
  simp [and_assoc]
theorem fit_mul {w h:Int} (hf:fit w h = true):IntKind.i64.wrap (w * h) = w * h:=by
  obtain ⟨h1,h2,h3,h4,h5⟩:=fit_iff.1 hf
  have:=mul_le (a:=200) (b:=200) h1 h3 h2 h4
  exact wrap64 (by omega) (by omega)
theorem valid_ok {fl:Nat} (hfl:9223372036854775808≤fl) {w h:Int} {pix:List Int} {K:Bool→Option Ans}:F_bitmap_Valid fl w h pix K = K (valid w h pix):=by
  unfold F_bitmap_Valid Fg_bitmap_Valid
  rw [fits_ok]
  unfold valid
  cases hf:fit w h with
  | false=>rfl
  | true=>
  rw [cond_f (b:=!true) rfl,fit_mul hf,cn]
  obtain ⟨h1,h2,h3,h4,h5⟩:=fit_iff.1 hf
  split
  rotate_left
  · rename_i hne
    rw [decide_eq_false hne]
    rfl
  rename_i he
  rw [decide_eq_true he]
  simp only [Bool.true_and]
  unfold L_bitmap_Valid_0
  rcases all_or_first (fun x=>decide (x≤1)) 0 pix with ha | ⟨n,hn,hb,hi⟩
  · rw [ha]
    refine iter_seq (step:=S_bitmap_Valid_0 fl) (fun i:Nat=>(pix,(pix.length:Int),(i:Int))) pix.length rfl (fun i hi c=> ?_) (fun c=> ?_) (by omega)
    · have g:=all_getD ha 0 hi
      simp only [decide_eq_true_eq] at g
      simp (disch:=omega) only [S_bitmap_Valid_0,Sg_bitmap_Valid_0,dec_t,dec_f,wrap64,Int.toNat_natCast]
      rfl
    · simp (disch:=omega) only [S_bitmap_Valid_0,Sg_bitmap_Valid_0,dec_f]
  · rw [not_all hn hb]
    refine iter_seq (step:=S_bitmap_Valid_0 fl) (fun i:Nat=>(pix,(pix.length:Int),(i:Int))) n rfl (fun i hin c=> ?_) (fun c=> ?_) (by omega)
    · have g:=hi i hin
      simp only [decide_eq_true_eq] at g
      simp (disch:=omega) only [S_bitmap_Valid_0,Sg_bitmap_Valid_0,dec_t,dec_f,wrap64,Int.toNat_natCast]
      rfl
    · simp only [decide_eq_false_iff_not] at hb
      simp (disch:=omega) only [S_bitmap_Valid_0,Sg_bitmap_Valid_0,dec_t,Int.toNat_natCast]
def ins (w h x y:Int):Prop:=0≤x∧0≤y∧x < w∧y < h
instance {w h x y:Int}:Decidable (ins w h x y):=by unfold ins; infer_instance
def px (w h:Int) (pix:List Int) (x y:Int):Int:=if ins w h x y then pix.getD (y * w + x).toNat 0 else 0
theorem place {w h x y:Int} (hi:ins w h x y):0≤y * w + x∧y * w + x < w * h:=by
  obtain ⟨h1,h2,h3,h4⟩:=hi
  have a:0≤y * w:=Int.mul_nonneg h2 (by omega)
  have b:(y + 1) * w≤h * w:=Int.mul_le_mul_of_nonneg_right (by omega) (by omega)
  rw [Int.add_mul,Int.one_mul,Int.mul_comm h w] at b
  omega
theorem place_y {w h x y:Int} (hi:ins w h x y):0≤y * w∧y * w < w * h:=by
  obtain ⟨h1,h2,h3,h4⟩:=hi
  have a:0≤y * w:=Int.mul_nonneg h2 (by omega)
  have b:(y + 1) * w≤h * w:=Int.mul_le_mul_of_nonneg_right (by omega) (by omega)
  rw [Int.add_mul,Int.one_mul,Int.mul_comm h w] at b
  omega
theorem px_01 {w h:Int} {pix:List Int} (h0:∀ v ∈ pix,0≤v∧v≤1) (x y:Int):0≤px w h pix x y∧px w h pix x y≤1:=by
  unfold px
  split
  · by_cases hl:(y * w + x).toNat < pix.length
    · exact h0 _ (getD_mem hl 0)
    · rw [List.getD_eq_getElem?_getD,List.getElem?_eq_none (by omega)]
      simp
  · omega
end Go.Proofs.YtipdidpalcmlhaaGreat.Bm
namespace Go.Proofs.YtipdidpalcmlhaaGreat.Gen
open Go Ev Bm
def vr (t ax ay kd:Int):Bool:=decide (0≤t∧t≤3∧(kd = 0∨kd = 1)∧ -8≤ax∧ax≤8∧ -8≤ay∧ay≤0∧(ay < 0∨ax < 0))
def tpl (t:Int):List (Int×Int):=
  if t = 0 then [(-1, -2),(0, -2),(1, -2),(-2, -1),(-1, -1),(0, -1),(1, -1),(2, -1),(-2,0),(-1,0)]
  else if t = 1 then [(-1, -2),(0, -2),(-1, -1),(0, -1),(1, -1),(-2,0),(-1,0)]
  else if t = 2 then [(-2, -1),(-1, -1),(0, -1),(1, -1),(2, -1),(-2,0),(-1,0)]
  else [(-1, -1),(0, -1),(1, -1),(-1,0)]
def size (t:Int):Int:=2 ^ ((tpl t).length + 1) + 1
structure Pix (w h:Int) (p:List Int):Prop where
  w0:0≤w
  h0:0≤h
  w1:w≤200
  h1:h≤200
  n:w * h≤8192
  len:(p.length:Int) = w * h
  bit:∀ v ∈ p,0≤v∧v≤1
theorem pix_of {w h:Int} {p:List Int} (hv:valid w h p = true) (h0:∀ v ∈ p,0≤v):Pix w h p:=by
  obtain ⟨⟨a,b,c,d,e⟩,f,g⟩:=valid_iff.1 hv
  exact ⟨a,b,c,d,e,f,fun v hv=>⟨h0 v hv,g v hv⟩⟩
end Go.Proofs.YtipdidpalcmlhaaGreat.Gen
namespace Go.Proofs.YtipdidpalcmlhaaGreat.Co
open Go Ev
def mid (lo hi p:Int):Int:=lo + (hi - lo) / 4096 * p + (hi - lo) % 4096 * p / 4096
def same (lo hi:Int):Prop:=lo / 16777216 = hi / 16777216
instance (lo hi:Int):Decidable (same lo hi):=by unfold same; infer_instance
def nl (lo:Int):Int:=lo % 16777216 * 256
def nh (hi:Int):Int:=hi % 16777216 * 256 + 255
structure Rg (lo hi:Int):Prop where
  l:0≤lo
  m:lo≤hi
  h:hi < 4294967296
def nrm:Nat→Int→Int→Nat×Int×Int
  | 0,lo,hi=>(0,lo,hi)
  | n + 1,lo,hi=>if same lo hi then ((nrm n (nl lo) (nh hi)).1 + 1,(nrm n (nl lo) (nh hi)).2) else (0,lo,hi)
open Go Ev
def q:Nat→Int
  | 0=>2048
  | k + 1=>q k - q k / 8
def pr (kd s:Int):Int:=
  if kd = 1 then min (max ((2 * (s % 256) + 1) * 4096 / (2 * (s / 256) + 2 * (s % 256) + 2)) 1) 4095
  else if 32≤s then 4096 - q (s - 32).toNat else q s.toNat
def most (kd:Int):Int:=if kd = 1 then 65536 else 64
def vst (kd s:Int):Prop:=0≤s∧s < most kd
structure Iv where
  st:List Int
  lo:Int
  hi:Int
structure Iv.Ok (kd:Int) (x:Iv):Prop where
  k:kd = 0∨kd = 1
  r:Rg x.lo x.hi
  d:¬ same x.lo x.hi
  s:∀ s ∈ x.st,vst kd s
def Iv.mid (kd:Int) (x:Iv) (c:Int):Int:=Co.mid x.lo x.hi (pr kd (x.st.getD c.toNat 0))
def Iv.clo (kd:Int) (x:Iv) (c b:Int):Int:=if b = 1 then x.lo else x.mid kd c + 1
def Iv.chi (kd:Int) (x:Iv) (c b:Int):Int:=if b = 1 then x.mid kd c else x.hi
def Iv.many (kd:Int) (x:Iv) (c b:Int):Nat:=(nrm 5 (x.clo kd c b) (x.chi kd c b)).1
open Go Ev
open Go Ev
open Go Ev
open Go Ev
end Go.Proofs.YtipdidpalcmlhaaGreat.Co
namespace Go.Proofs.YtipdidpalcmlhaaGreat.Gen
open Go Ev Bm Co
def Sk (w h:Int) (sp:List Int):Prop:=sp = []∨(sp.length:Int) = w * h
section
variable (t ax ay base w h:Int) (ty:Bool) (p sp:List Int)
end
structure Reg (t ax ay kd base w h:Int) (p sp:List Int) (n:Nat):Prop where
  v:vr t ax ay kd = true
  p:Pix w h p
  s:Sk w h sp
  b0:0≤base
  b1:base + size t≤(n:Int)
end Go.Proofs.YtipdidpalcmlhaaGreat.Gen
namespace Go.Proofs.YtipdidpalcmlhaaGreat.Tx
open Go Ev Bm Co
abbrev Bmp:Type:=Int×Int×List Int
abbrev Item:Type:=Int×Int×Int×Bool×Int×Int×Int×Int×List Int
def ov (o0 o1 o3 o4 o5 o7:Int):Bool:=decide ((o0 = 1∨o0 = 2∨o0 = 4∨o0 = 8)∧0≤o1∧o1≤3∧ -16≤o3∧o3≤16∧0≤o4∧o4≤4∧(o5 = 0∨o5 = 1)∧(o7 = 0∨o7 = 1))
theorem ov_iff {o0 o1 o3 o4 o5 o7:Int}:ov o0 o1 o3 o4 o5 o7 = true↔(o0 = 1∨o0 = 2∨o0 = 4∨o0 = 8)∧0≤o1∧o1≤3∧ -16≤o3∧o3≤16∧0≤o4∧o4≤4∧(o5 = 0∨o5 = 1)∧(o7 = 0∨o7 = 1):=by simp [ov]
def shp (b:Bmp):Bool:=valid b.1 b.2.1 b.2.2&&decide (1≤b.1∧b.1≤40∧1≤b.2.1∧b.2.1≤40)
def near (x m:Int):Prop:= -m≤x∧x≤m
instance (x m:Int):Decidable (near x m):=by unfold near; infer_instance
def Item.pix (i:Item):Bmp:=(i.2.2.2.2.2.2.1,i.2.2.2.2.2.2.2.1,i.2.2.2.2.2.2.2.2)
def itm (rf:Bool) (n:Int) (i:Item):Bool:=
  decide (0≤i.1∧i.1 < n∧near i.2.1 100000∧near i.2.2.1 100000)&&
    (if i.2.2.2.1 = true then rf&&decide (near i.2.2.2.2.1 200∧near i.2.2.2.2.2.1 200)
     else decide (i.2.2.2.2.1 = 0∧i.2.2.2.2.2.1 = 0∧i.2.2.2.2.2.2.1 = 0∧i.2.2.2.2.2.2.2.1 = 0∧(i.2.2.2.2.2.2.2.2.length:Int) = 0))
def shpI (i:Item):Bool:=!i.2.2.2.1 || shp i.pix
def bErr (o0 o1 o3 o4 o5 o7:Int) (symbols:List Bmp) (l:List Item):Int:=
  if ov o0 o1 o3 o4 o5 o7 = true then (if symbols.all shp = true then (if l.all shpI = true then 0 else 30) else 30) else 2
def rights (rf:Bool) (n:Int) (l:List Item):Bool:=decide (n≤60)&&decide ((l.length:Int)≤300)&&l.all (itm rf n)
section
variable {fl:Nat} (hfl:9223372036854775808≤fl)
include hfl
theorem has4 {x:Int} {K:Bool→Option Ans}:F_slices_Contains_int_int fl [1,2,4,8] x K = K (decide (x = 1∨x = 2∨x = 4∨x = 8)):=by
  obtain ⟨m,rfl⟩:∃ m,fl = m + 5:=⟨fl - 5,by omega⟩
  unfold F_slices_Contains_int_int Fg_slices_Contains_int_int F_slices_Index_int_int L_slices_Index_int_int_0
  by_cases h1:x = 1
  · subst h1; rfl
  by_cases h2:x = 2
  · subst h2; rfl
  by_cases h4:x = 4
  · subst h4; rfl
  by_cases h8:x = 8
  · subst h8; rfl
  rw [decide_eq_false (by omega)]
  have e:∀ (i:Nat) (c:List Int×Int×Int×Int→Option Ans) (b:(Int→Option Ans)×(Unit→Option Ans)),i < 4→S_slices_Index_int_int_0 (m + 5) ([1,2,4,8],x,4,(i:Int)) c b = c ([1,2,4,8],x,4,((i + 1:Nat):Int)):=by
    intro i c b hi
    obtain ⟨ret,b⟩:=b
    have hh:i = 0∨i = 1∨i = 2∨i = 3:=by omega
    simp only [S_slices_Index_int_int_0]
    rw [dec_t (by omega),dec_t (show _∧_ from ⟨by omega,by show (i:Int) < 4; omega⟩),Int.toNat_natCast]
    rcases hh with rfl | rfl | rfl | rfl
    · rw [cond_f (by simp [h1])]; rfl
    · rw [cond_f (by simp [h2])]; rfl
    · rw [cond_f (by simp [h4])]; rfl
    · rw [cond_f (by simp [h8])]; rfl
  refine iter_seq (step:=S_slices_Index_int_int_0 (m + 5)) (fun i:Nat=>([1,2,4,8],x,4,(i:Int))) 4 rfl (fun i hi c=>e i c _ hi) (fun c=> ?_) (by omega)
  simp only [S_slices_Index_int_int_0]
  rw [dec_f (by omega)]
  rfl
theorem tvalid {o0 o1 o3 o4 o5 o7:Int} {tu rf:Bool} {K:Bool→Option Ans}:F_text_Valid fl o0 o1 tu o3 o4 o5 rf o7 K = K (ov o0 o1 o3 o4 o5 o7):=by
  unfold F_text_Valid Fg_text_Valid
  rw [has4 hfl]
  unfold ov
  by_cases h0:o0 = 1∨o0 = 2∨o0 = 4∨o0 = 8
  rotate_left
  · rw [decide_eq_false h0,cond_false]
    congr 1
    symm
    exact decide_eq_false (fun h=>h0 h.1)
  rw [decide_eq_true h0,cond_true]
  by_cases h1:0≤o1
  rotate_left
  · rw [dec_f (by omega),decide_eq_false (by omega)]
  by_cases h2:o1≤3
  rotate_left
  · rw [dec_t (by omega),dec_f (by omega),decide_eq_false (by omega)]
  by_cases h3: -16≤o3
  rotate_left
  · rw [dec_t (by omega),dec_t (by omega),dec_f (by omega),decide_eq_false (by omega)]
  by_cases h4:o3≤16
  rotate_left
  · rw [dec_t (by omega),dec_t (by omega),dec_t (by omega),dec_f (by omega),decide_eq_false (by omega)]
  by_cases h5:0≤o4
  rotate_left
  · rw [dec_t (by omega),dec_t (by omega),dec_t (by omega),dec_t (by omega),dec_f (by omega),decide_eq_false (by omega)]
  by_cases h6:o4≤4
  rotate_left
  · rw [dec_t (by omega),dec_t (by omega),dec_t (by omega),dec_t (by omega),dec_t (by omega),dec_f (by omega),decide_eq_false (by omega)]
  rw [dec_t (by omega),dec_t (by omega),dec_t (by omega),dec_t (by omega),dec_t (by omega),dec_t (by omega)]
  simp only [cb]
  have e7:(o7==1) = decide (o7 = 1):=rfl
  rw [e7]
  repeat' split
  all_goals congr 1
  all_goals first | (rw [decide_eq_true (by omega)]) | (rw [decide_eq_false (by omega)]) | skip
  all_goals first | (rw [decide_eq_decide]; omega) | (symm; rw [decide_eq_true_iff]; omega) | (symm; rw [decide_eq_false_iff_not]; omega) | skip
theorem isShape_ok {w h:Int} {p:List Int} {K:Bool→Option Ans}:F_text_isShape fl w h p K = K (shp (w,h,p)):=by
  unfold F_text_isShape Fg_text_isShape shp
  dsimp only
  rw [valid_ok hfl]
  cases valid w h p with
  | false=>rfl
  | true=>
    rw [cond_true]
    by_cases h1:w≥1
    rotate_left
    · rw [dec_f h1,decide_eq_false (by omega)]; rfl
    rw [dec_t h1]
    by_cases h2:w≤40
    rotate_left
    · rw [dec_f h2,decide_eq_false (by omega)]; rfl
    rw [dec_t h2]
    by_cases h3:h≥1
    rotate_left
    · rw [dec_f h3,decide_eq_false (by omega)]; rfl
    rw [dec_t h3,Bool.true_and]
    congr 1
    exact decide_eq_decide.2 (by omega)
theorem bm_loop {l:List Bmp} (hl:l.length≤1000000000000000) {K:Bool→Option Ans}:F_slices_ContainsFunc_api_Bitmap_api_Bitmap_261 fl l K = K (!l.all shp):=by
  unfold F_slices_ContainsFunc_api_Bitmap_api_Bitmap_261 Fg_slices_ContainsFunc_api_Bitmap_api_Bitmap_261 F_slices_IndexFunc_api_Bitmap_api_Bitmap_261 Fg_slices_IndexFunc_api_Bitmap_api_Bitmap_261 L_slices_IndexFunc_api_Bitmap_api_Bitmap_261_0
  have st:∀ i:Nat,i < l.length→∀ c ret b,S_slices_IndexFunc_api_Bitmap_api_Bitmap_261_0 fl (l,(l.length:Int),(i:Int)) c (ret,b) = if shp (l.getD i (0,0,[])) = true then c (l,(l.length:Int),((i + 1:Nat):Int)) else ret (i:Int):=by
    intro i hi c ret b
    simp only [S_slices_IndexFunc_api_Bitmap_api_Bitmap_261_0,Sg_slices_IndexFunc_api_Bitmap_api_Bitmap_261_0,F_text_begun_1,Fg_text_begun_1]
    rw [dec_t (by omega),dec_t (by omega),Int.toNat_natCast,isShape_ok hfl]
    try dsimp only
    rw [show ((l.getD i (0,0,[])).fst,(l.getD i (0,0,[])).snd.fst,(l.getD i (0,0,[])).snd.snd) = l.getD i (0,0,[]) from rfl,wrap64 (by omega) (by omega)]
    cases shp (l.getD i (0,0,[])) <;> rfl
  rcases all_or_first shp (0,0,[]) l with ha | ⟨n,hn,hb,hi⟩
  · rw [ha]
    refine iter_to (step:=S_slices_IndexFunc_api_Bitmap_api_Bitmap_261_0 fl) (fun i:Nat=>(l,(l.length:Int),(i:Int))) l.length (fun i hi c=>by rw [st i hi,if_pos (all_getD ha _ hi)]) (fun c=> ?_) (by omega)
    simp only [S_slices_IndexFunc_api_Bitmap_api_Bitmap_261_0,Sg_slices_IndexFunc_api_Bitmap_api_Bitmap_261_0]
    rw [dec_f (by omega)]
    rfl
  · rw [not_all hn hb]
    refine iter_to (step:=S_slices_IndexFunc_api_Bitmap_api_Bitmap_261_0 fl) (fun i:Nat=>(l,(l.length:Int),(i:Int))) n (fun i hi' c=>by rw [st i (by omega),if_pos (hi i hi')]) (fun c=> ?_) (by omega)
    rw [st n hn,if_neg (by rw [hb]; simp)]
    show K (decide ((n:Int)≥0)) = K true
    rw [decide_eq_true (by omega)]
theorem it_loop {l:List Item} (hl:l.length≤1000000000000000) {K:Bool→Option Ans}:F_slices_ContainsFunc_api_Item_api_Item_177 fl l K = K (!l.all shpI):=by
  unfold F_slices_ContainsFunc_api_Item_api_Item_177 Fg_slices_ContainsFunc_api_Item_api_Item_177 F_slices_IndexFunc_api_Item_api_Item_177 Fg_slices_IndexFunc_api_Item_api_Item_177 L_slices_IndexFunc_api_Item_api_Item_177_0
  have st:∀ i:Nat,i < l.length→∀ c ret b,S_slices_IndexFunc_api_Item_api_Item_177_0 fl (l,(l.length:Int),(i:Int)) c (ret,b) = if shpI (l.getD i (0,0,0,false,0,0,0,0,[])) = true then c (l,(l.length:Int),((i + 1:Nat):Int)) else ret (i:Int):=by
    intro i hi c ret b
    simp only [S_slices_IndexFunc_api_Item_api_Item_177_0,Sg_slices_IndexFunc_api_Item_api_Item_177_0,F_text_begun_2,Fg_text_begun_2]
    rw [dec_t (by omega),dec_t (by omega),Int.toNat_natCast,isShape_ok hfl,wrap64 (by omega) (by omega)]
    generalize l.getD i (0,0,0,false,0,0,0,0,[]) = it
    unfold shpI Item.pix
    cases it.2.2.2.1 with
    | false=>rfl
    | true=>
      rw [cond_true]
      cases shp (it.2.2.2.2.2.2.1,it.2.2.2.2.2.2.2.1,it.2.2.2.2.2.2.2.2) <;> rfl
  rcases all_or_first shpI (0,0,0,false,0,0,0,0,[]) l with ha | ⟨n,hn,hb,hi⟩
  · rw [ha]
    refine iter_to (step:=S_slices_IndexFunc_api_Item_api_Item_177_0 fl) (fun i:Nat=>(l,(l.length:Int),(i:Int))) l.length (fun i hi c=>by rw [st i hi,if_pos (all_getD ha _ hi)]) (fun c=> ?_) (by omega)
    simp only [S_slices_IndexFunc_api_Item_api_Item_177_0,Sg_slices_IndexFunc_api_Item_api_Item_177_0]
    rw [dec_f (by omega)]
    rfl
  · rw [not_all hn hb]
    refine iter_to (step:=S_slices_IndexFunc_api_Item_api_Item_177_0 fl) (fun i:Nat=>(l,(l.length:Int),(i:Int))) n (fun i hi' c=>by rw [st i (by omega),if_pos (hi i hi')]) (fun c=> ?_) (by omega)
    rw [st n hn,if_neg (by rw [hb]; simp)]
    show K (decide ((n:Int)≥0)) = K true
    rw [decide_eq_true (by omega)]
theorem begun_ok {o0 o1 o3 o4 o5 o7:Int} {tu rf:Bool} {symbols:List Bmp} {l:List Item} (hs:symbols.length≤1000000000000000) (hl:l.length≤1000000000000000) {K:Int→Option Ans}:
    F_text_begun fl o0 o1 tu o3 o4 o5 rf o7 symbols l K = K (bErr o0 o1 o3 o4 o5 o7 symbols l):=by
  unfold F_text_begun Fg_text_begun bErr
  rw [tvalid hfl]
  cases ov o0 o1 o3 o4 o5 o7 with
  | false=>rfl
  | true=>
    rw [cond_f (b:=!true) rfl,bm_loop hfl hs]
    cases symbols.all shp with
    | false=>rfl
    | true=>
      rw [cond_f (b:=!true) rfl,it_loop hfl hl]
      cases l.all shpI <;> rfl
end
theorem near_ok {fl:Nat} {x m:Int} (h0:0≤m) (h1:m≤1000000) {K:Bool→Option Ans}:F_text_near fl x m K = K (decide (near x m)):=by
  unfold F_text_near near
  rw [w6 (x:=0 - m)]
  by_cases h:x≥0 - m
  · rw [dec_t h]
    congr 1
    exact decide_eq_decide.2 (by omega)
  · rw [dec_f h]
    congr 1
    symm
    exact decide_eq_false (by omega)
theorem rightItem_ok {fl:Nat} {o0 o1 o3 o4 o5 o7 n:Int} {tu rf:Bool} {i:Item} {K:Bool→Option Ans}:
    F_text_rightItem fl o0 o1 tu o3 o4 o5 rf o7 n i.1 i.2.1 i.2.2.1 i.2.2.2.1 i.2.2.2.2.1 i.2.2.2.2.2.1 i.2.2.2.2.2.2.1 i.2.2.2.2.2.2.2.1 i.2.2.2.2.2.2.2.2 K = K (itm rf n i):=by
  obtain ⟨a,s,t,r,dx,dy,w,h,p⟩:=i
  unfold F_text_rightItem Fg_text_rightItem itm
  dsimp only
  by_cases h1:a < 0
  · rw [dec_t h1,decide_eq_false (by omega)]; rfl
  rw [dec_f h1]
  by_cases h2:a≥n
  · rw [dec_t h2,decide_eq_false (by omega)]; rfl
  rw [dec_f h2,near_ok (by omega) (by omega)]
  by_cases h3:near s 100000
  rotate_left
  · rw [decide_eq_false h3,decide_eq_false (fun h=>h3 h.2.2.1)]; rfl
  rw [decide_eq_true h3,cond_f (b:=!true) rfl,near_ok (by omega) (by omega)]
  by_cases h4:near t 100000
  rotate_left
  · rw [decide_eq_false h4,decide_eq_false (fun h=>h4 h.2.2.2)]; rfl
  rw [decide_eq_true h4,cond_f (b:=!true) rfl,decide_eq_true (show 0≤a∧a < n∧near s 100000∧near t 100000 from ⟨by omega,by omega,h3,h4⟩),Bool.true_and]
  cases r with
  | false=>
    rw [cond_t (b:=!false) rfl,if_neg (by simp)]
    simp only [cb]
    have e:((p.length:Int)==0) = decide ((p.length:Int) = 0):=rfl
    rw [e]
    repeat' split
    all_goals congr 1
    · exact decide_eq_decide.2 (by omega)
    all_goals rw [decide_eq_false (by omega)]
  | true=>
    rw [cond_f (b:=!true) rfl,if_pos rfl]
    cases rf with
    | false=>rfl
    | true=>
      rw [cond_true,near_ok (by omega) (by omega)]
      by_cases h5:near dx 200
      · rw [decide_eq_true h5,cond_true,near_ok (by omega) (by omega),Bool.true_and]
        congr 1
        exact decide_eq_decide.2 ⟨fun h=>⟨h5,h⟩,fun h=>h.2⟩
      · rw [decide_eq_false h5,decide_eq_false (fun h=>h5 h.1)]; rfl
section
variable {fl:Nat} (hfl:9223372036854775808≤fl)
include hfl
theorem right_ok {o0 o1 o3 o4 o5 o7 n:Int} {tu rf:Bool} {l:List Item} {K:Bool→Option Ans}:F_text_right fl o0 o1 tu o3 o4 o5 rf o7 n l K = K (rights rf n l):=by
  unfold F_text_right Fg_text_right rights
  by_cases h1:n≤60
  rotate_left
  · rw [dec_f h1,decide_eq_false h1]; rfl
  rw [dec_t h1,decide_eq_true h1]
  by_cases h2:(l.length:Int)≤300
  rotate_left
  · rw [dec_f h2,decide_eq_false h2]; rfl
  rw [dec_t h2,decide_eq_true h2]
  unfold F_slices_ContainsFunc_api_Item_api_Item_766 Fg_slices_ContainsFunc_api_Item_api_Item_766 F_slices_IndexFunc_api_Item_api_Item_766 Fg_slices_IndexFunc_api_Item_api_Item_766 L_slices_IndexFunc_api_Item_api_Item_766_0
  have st:∀ i:Nat,i < l.length→∀ c ret b,S_slices_IndexFunc_api_Item_api_Item_766_0 fl (l,(l.length:Int),(i:Int),o0,o1,tu,o3,o4,o5,rf,o7,n) c (ret,b) = if itm rf n (l.getD i (0,0,0,false,0,0,0,0,[])) = true then c (l,(l.length:Int),((i + 1:Nat):Int),o0,o1,tu,o3,o4,o5,rf,o7,n) else ret ((i:Int),o0,o1,tu,o3,o4,o5,rf,o7,n):=by
    intro i hi c ret b
    simp only [S_slices_IndexFunc_api_Item_api_Item_766_0,Sg_slices_IndexFunc_api_Item_api_Item_766_0,F_text_right_1_e36,Fg_text_right_1_e36]
    rw [dec_t (by omega),dec_t (by omega),Int.toNat_natCast,rightItem_ok]
    try dsimp only
    rw [wrap64 (by omega) (by omega)]
    cases itm rf n (l.getD i (0,0,0,false,0,0,0,0,[])) <;> rfl
  rcases all_or_first (itm rf n) (0,0,0,false,0,0,0,0,[]) l with ha | ⟨j,hn,hb,hi⟩
  · rw [ha]
    refine iter_to (step:=S_slices_IndexFunc_api_Item_api_Item_766_0 fl) (fun i:Nat=>(l,(l.length:Int),(i:Int),o0,o1,tu,o3,o4,o5,rf,o7,n)) l.length (fun i hi c=>by rw [st i hi,if_pos (all_getD ha _ hi)]) (fun c=> ?_) (by omega)
    simp only [S_slices_IndexFunc_api_Item_api_Item_766_0,Sg_slices_IndexFunc_api_Item_api_Item_766_0]
    rw [dec_f (by omega)]
    rfl
  · rw [not_all hn hb]
    refine iter_to (step:=S_slices_IndexFunc_api_Item_api_Item_766_0 fl) (fun i:Nat=>(l,(l.length:Int),(i:Int),o0,o1,tu,o3,o4,o5,rf,o7,n)) j (fun i hi' c=>by rw [st i (by omega),if_pos (hi i hi')]) (fun c=> ?_) (by omega)
    rw [st j hn,if_neg (by rw [hb]; simp)]
    show K (!decide ((j:Int)≥0)) = K (true&&true&&false)
    rw [decide_eq_true (by omega)]
    rfl
end
open Go Ev Bm Co
theorem rsize_ok {fl:Nat} {w h:Int} {K:Bool→Option Ans}:F_ref06_IsSize fl w h K = K (fit w h):=by
  unfold F_ref06_IsSize fit
  by_cases h1:w≥0
  rotate_left
  · rw [dec_f h1,decide_eq_false (by omega)]
  by_cases h2:w≤200
  rotate_left
  · rw [dec_t h1,dec_f h2,decide_eq_false (by omega)]
  by_cases h3:h≥0
  rotate_left
  · rw [dec_t h1,dec_t h2,dec_f h3,decide_eq_false (by omega)]
  by_cases h4:h≤200
  rotate_left
  · rw [dec_t h1,dec_t h2,dec_t h3,dec_f h4,decide_eq_false (by omega)]
  rw [dec_t h1,dec_t h2,dec_t h3,dec_t h4]
  obtain ⟨q1,q2⟩:=mul_le (a:=200) (b:=200) h1 h2 h3 h4
  rw [wrap64 (by omega) (by omega)]
  congr 1
  exact decide_eq_decide.2 (by omega)
section
variable {fl:Nat} (hfl:9223372036854775808≤fl)
include hfl
theorem rrow_ok {p:List Int} (hp:p.length≤1000000000000000) {K:Bool→Option Ans}:F_ref06_IsRow fl p K = K (p.all fun x=>decide (x≤1)):=by
  unfold F_ref06_IsRow L_ref06_IsRow_0
  rcases all_or_first (fun x:Int=>decide (x≤1)) 0 p with ha | ⟨n,hn,hb,hi⟩
  · rw [ha]
    refine iter_to (step:=S_ref06_IsRow_0 fl) (fun i:Nat=>(p,(p.length:Int),(i:Int))) p.length (fun i hi c=> ?_) (fun c=> ?_) (by omega)
    · have:=of_decide_eq_true (all_getD ha 0 hi)
      simp only [S_ref06_IsRow_0]
      rw [dec_t (by omega),dec_t (by omega),Int.toNat_natCast,dec_f (by omega),wrap64 (by omega) (by omega)]
      rfl
    · simp only [S_ref06_IsRow_0]
      rw [dec_f (by omega)]
  · rw [not_all hn hb]
    refine iter_to (step:=S_ref06_IsRow_0 fl) (fun i:Nat=>(p,(p.length:Int),(i:Int))) n (fun i hi' c=> ?_) (fun c=> ?_) (by omega)
    · have:=of_decide_eq_true (hi i hi')
      simp only [S_ref06_IsRow_0]
      rw [dec_t (by omega),dec_t (by omega),Int.toNat_natCast,dec_f (by omega),wrap64 (by omega) (by omega)]
      rfl
    · have:=of_decide_eq_false hb
      simp only [S_ref06_IsRow_0]
      rw [dec_t (by omega),dec_t (by omega),Int.toNat_natCast,dec_t (by omega)]
theorem rbitmap_ok {w h:Int} {p:List Int} {K:Bool→Option Ans}:F_ref06_IsBitmap fl w h p K = K (valid w h p):=by
  unfold F_ref06_IsBitmap Fg_ref06_IsBitmap valid
  rw [rsize_ok]
  cases hf:fit w h with
  | false=>rfl
  | true=>
    have hm:=fit_iff.1 hf
    rw [cond_true,fit_mul hf,Bool.true_and]
    by_cases hl:(p.length:Int) = w * h
    · rw [cond_t (by simp [hl]),rrow_ok hfl (by omega),decide_eq_true hl,Bool.true_and]
    · rw [cond_f (by simp [hl]),decide_eq_false hl,Bool.false_and]
theorem rshape_ok {w h:Int} {p:List Int} {K:Bool→Option Ans}:F_ref10_IsShape fl w h p K = K (shp (w,h,p)):=by
  unfold F_ref10_IsShape Fg_ref10_IsShape shp
  dsimp only
  rw [rbitmap_ok hfl]
  cases valid w h p with
  | false=>rfl
  | true=>
    rw [cond_true]
    by_cases h1:w≥1
    rotate_left
    · rw [dec_f h1,decide_eq_false (by omega)]; rfl
    rw [dec_t h1]
    by_cases h2:w≤40
    rotate_left
    · rw [dec_f h2,decide_eq_false (by omega)]; rfl
    rw [dec_t h2]
    by_cases h3:h≥1
    rotate_left
    · rw [dec_f h3,decide_eq_false (by omega)]; rfl
    rw [dec_t h3,Bool.true_and]
    congr 1
    exact decide_eq_decide.2 (by omega)
end
theorem rvalid {fl:Nat} {o0 o1 o3 o4 o5 o7:Int} {tu rf:Bool} {K:Bool→Option Ans}:F_ref10_Valid fl o0 o1 tu o3 o4 o5 rf o7 K = K (ov o0 o1 o3 o4 o5 o7):=by
  unfold F_ref10_Valid ov
  simp only [cn,cd]
  have rest:(if o1≥0 then if o1≤3 then if o3≥ -16 then if o3≤16 then if o4≥0 then if o4≤4 then if o5≥0 then if o5≤1 then if o7≥0 then K (decide (o7≤1)) else K false else K false else K false else K false else K false else K false else K false else K false else K false) = K (decide (0≤o1∧o1≤3∧ -16≤o3∧o3≤16∧0≤o4∧o4≤4∧(o5 = 0∨o5 = 1)∧(o7 = 0∨o7 = 1))):=by
    by_cases h1:o1≥0
    rotate_left
    · rw [if_neg h1,decide_eq_false (by omega)]
    by_cases h2:o1≤3
    rotate_left
    · rw [if_pos h1,if_neg h2,decide_eq_false (by omega)]
    by_cases h3:o3≥ -16
    rotate_left
    · rw [if_pos h1,if_pos h2,if_neg h3,decide_eq_false (by omega)]
    by_cases h4:o3≤16
    rotate_left
    · rw [if_pos h1,if_pos h2,if_pos h3,if_neg h4,decide_eq_false (by omega)]
    by_cases h5:o4≥0
    rotate_left
    · rw [if_pos h1,if_pos h2,if_pos h3,if_pos h4,if_neg h5,decide_eq_false (by omega)]
    by_cases h6:o4≤4
    rotate_left
    · rw [if_pos h1,if_pos h2,if_pos h3,if_pos h4,if_pos h5,if_neg h6,decide_eq_false (by omega)]
    by_cases h7:o5≥0
    rotate_left
    · rw [if_pos h1,if_pos h2,if_pos h3,if_pos h4,if_pos h5,if_pos h6,if_neg h7,decide_eq_false (by omega)]
    by_cases h8:o5≤1
    rotate_left
    · rw [if_pos h1,if_pos h2,if_pos h3,if_pos h4,if_pos h5,if_pos h6,if_pos h7,if_neg h8,decide_eq_false (by omega)]
    by_cases h9:o7≥0
    rotate_left
    · rw [if_pos h1,if_pos h2,if_pos h3,if_pos h4,if_pos h5,if_pos h6,if_pos h7,if_pos h8,if_neg h9,decide_eq_false (by omega)]
    rw [if_pos h1,if_pos h2,if_pos h3,if_pos h4,if_pos h5,if_pos h6,if_pos h7,if_pos h8,if_pos h9]
    exact congrArg K (decide_eq_decide.2 (by omega))
  rw [rest]
  by_cases a1:o0 = 1
  · rw [if_pos a1]
    exact congrArg K (decide_eq_decide.2 (by omega))
  by_cases a2:o0 = 2
  · rw [if_neg a1,if_pos a2]
    exact congrArg K (decide_eq_decide.2 (by omega))
  by_cases a3:o0 = 4
  · rw [if_neg a1,if_neg a2,if_pos a3]
    exact congrArg K (decide_eq_decide.2 (by omega))
  by_cases a4:o0 = 8
  · rw [if_neg a1,if_neg a2,if_neg a3,if_pos a4]
    exact congrArg K (decide_eq_decide.2 (by omega))
  rw [if_neg a1,if_neg a2,if_neg a3,if_neg a4]
  exact congrArg K (decide_eq_false (by omega)).symm
theorem shift_ok {fl:Nat} {x:Int} {K:Bool→Option Ans}:F_ref10_isShift fl x K = K (decide (near x 100000)):=by
  unfold F_ref10_isShift near
  by_cases h:x≥ -100000
  · rw [dec_t h]
    congr 1
    exact decide_eq_decide.2 (by omega)
  · rw [dec_f h]
    congr 1
    symm
    exact decide_eq_false (by omega)
theorem side_ok {fl:Nat} {x:Int} {K:Bool→Option Ans}:F_ref10_isSide fl x K = K (decide (near x 200)):=by
  unfold F_ref10_isSide near
  by_cases h:x≥ -200
  · rw [dec_t h]
    congr 1
    exact decide_eq_decide.2 (by omega)
  · rw [dec_f h]
    congr 1
    symm
    exact decide_eq_false (by omega)
theorem isItem_ok {fl:Nat} {o0 o1 o3 o4 o5 o7 n:Int} {tu rf:Bool} {i:Item} {K:Bool→Option Ans}:
    F_ref10_isItem fl o0 o1 tu o3 o4 o5 rf o7 n i.1 i.2.1 i.2.2.1 i.2.2.2.1 i.2.2.2.2.1 i.2.2.2.2.2.1 i.2.2.2.2.2.2.1 i.2.2.2.2.2.2.2.1 i.2.2.2.2.2.2.2.2 K = K (itm rf n i):=by
  obtain ⟨a,s,t,r,dx,dy,w,h,p⟩:=i
  unfold F_ref10_isItem Fg_ref10_isItem itm
  dsimp only
  by_cases h1:a < 0
  · rw [dec_t h1,decide_eq_false (by omega)]; rfl
  rw [dec_f h1]
  by_cases h2:a≥n
  · rw [dec_t h2,decide_eq_false (by omega)]; rfl
  rw [dec_f h2,shift_ok]
  by_cases h3:near s 100000
  rotate_left
  · rw [decide_eq_false h3,decide_eq_false (fun h=>h3 h.2.2.1)]; rfl
  rw [decide_eq_true h3,cond_f (b:=!true) rfl,shift_ok]
  by_cases h4:near t 100000
  rotate_left
  · rw [decide_eq_false h4,decide_eq_false (fun h=>h4 h.2.2.2)]; rfl
  rw [decide_eq_true h4,cond_f (b:=!true) rfl,decide_eq_true (show 0≤a∧a < n∧near s 100000∧near t 100000 from ⟨by omega,by omega,h3,h4⟩),Bool.true_and]
  cases r with
  | false=>
    rw [cond_false,if_neg (by simp)]
    simp only [cb]
    have e:((p.length:Int)==0) = decide ((p.length:Int) = 0):=rfl
    rw [e]
    repeat' split
    all_goals congr 1
    · exact decide_eq_decide.2 (by omega)
    all_goals rw [decide_eq_false (by omega)]
  | true=>
    rw [cond_true,if_pos rfl]
    cases rf with
    | false=>rfl
    | true=>
      rw [cond_true,side_ok]
      by_cases h5:near dx 200
      · rw [decide_eq_true h5,cond_true,side_ok,Bool.true_and]
        congr 1
        exact decide_eq_decide.2 ⟨fun h=>⟨h5,h⟩,fun h=>h.2⟩
      · rw [decide_eq_false h5,decide_eq_false (fun h=>h5 h.1)]; rfl
def rErr (o0 o1 o3 o4 o5 o7:Int) (rf:Bool) (symbols:List Bmp) (l:List Item) (right:Bool) (many:Int):Int:=
  if ov o0 o1 o3 o4 o5 o7 = true then (if (right&&symbols.all shp&&l.all shpI) = true then (if (decide ((symbols.length:Int)≤60)&&decide ((l.length:Int)≤300)&&l.all (itm rf many)) = true then 0 else 2) else 30) else 2
section
variable {fl:Nat} (hfl:9223372036854775808≤fl)
include hfl
theorem asked_ok {o0 o1 o3 o4 o5 o7 many:Int} {tu rf right:Bool} {symbols:List Bmp} {l:List Item} (hs:symbols.length≤1000000000000000) (hl:l.length≤1000000000000000) {K:Int→Option Ans}:
    F_ref10_asked fl o0 o1 tu o3 o4 o5 rf o7 symbols l right many K = K (rErr o0 o1 o3 o4 o5 o7 rf symbols l right many):=by
  unfold F_ref10_asked Fg_ref10_asked rErr
  rw [rvalid]
  cases ov o0 o1 o3 o4 o5 o7 with
  | false=>rfl
  | true=>
    rw [cond_f (b:=!true) rfl,if_pos rfl]
    unfold L_ref10_asked_0
    refine iter_seq (step:=S_ref10_asked_0 fl) (fun i:Nat=>(symbols,l,right&&(symbols.take i).all shp,many,symbols,(symbols.length:Int),(i:Int),o0,o1,tu,o3,o4,o5,rf,o7)) symbols.length (by simp) (fun i hi c=> ?_) (fun c=> ?_) (by omega)
    · simp only [S_ref10_asked_0,Sg_ref10_asked_0]
      rw [dec_t (by omega),dec_t (by omega),Int.toNat_natCast,wrap64 (by omega) (by omega),all_take_succ hi (0,0,[]), ← Bool.and_assoc]
      cases right&&(symbols.take i).all shp with
      | false=>rfl
      | true=>
        rw [cond_true,rshape_ok hfl,Bool.true_and]
        rfl
    simp only [S_ref10_asked_0,Sg_ref10_asked_0]
    rw [dec_f (by omega),List.take_length]
    try dsimp only
    unfold L_ref10_asked_2
    refine iter_seq (step:=S_ref10_asked_2 fl) (fun i:Nat=>(symbols,l,right&&symbols.all shp&&(l.take i).all shpI,many,l,(l.length:Int),(i:Int),o0,o1,tu,o3,o4,o5,rf,o7)) l.length (by simp) (fun i hi c=> ?_) (fun c=> ?_) (by omega)
    · simp only [S_ref10_asked_2,Sg_ref10_asked_2]
      rw [dec_t (by omega),dec_t (by omega),Int.toNat_natCast,wrap64 (by omega) (by omega),all_take_succ hi (0,0,0,false,0,0,0,0,[]), ← Bool.and_assoc]
      generalize l.getD i (0,0,0,false,0,0,0,0,[]) = it
      cases right&&symbols.all shp&&(l.take i).all shpI with
      | false=>rfl
      | true=>
        rw [cond_true,Bool.true_and]
        unfold shpI Item.pix
        cases it.2.2.2.1 with
        | false=>rfl
        | true=>
          rw [cond_f (b:=!true) rfl,rshape_ok hfl]
          rfl
    simp only [S_ref10_asked_2,Sg_ref10_asked_2]
    rw [dec_f (by omega),List.take_length]
    try dsimp only
    cases right&&symbols.all shp&&l.all shpI with
    | false=>rfl
    | true=>
      rw [cond_f (b:=!true) rfl,if_pos rfl]
      by_cases h1:(symbols.length:Int) > 60
      · rw [dec_t h1,decide_eq_false (show ¬ (symbols.length:Int)≤60 by omega)]; rfl
      rw [dec_f h1,decide_eq_true (show (symbols.length:Int)≤60 by omega)]
      by_cases h2:(l.length:Int) > 300
      · rw [dec_t h2,decide_eq_false (show ¬ (l.length:Int)≤300 by omega)]; rfl
      rw [dec_f h2,decide_eq_true (show (l.length:Int)≤300 by omega),Bool.true_and,Bool.true_and]
      unfold L_ref10_asked_4
      have st:∀ i:Nat,i < l.length→∀ c ret b,S_ref10_asked_4 fl (many,l,(l.length:Int),(i:Int),o0,o1,tu,o3,o4,o5,rf,o7) c (ret,b) = if itm rf many (l.getD i (0,0,0,false,0,0,0,0,[])) = true then c (many,l,(l.length:Int),((i + 1:Nat):Int),o0,o1,tu,o3,o4,o5,rf,o7) else ret 2:=by
        intro i hi c ret b
        simp only [S_ref10_asked_4,Sg_ref10_asked_4]
        rw [dec_t (by omega),dec_t (by omega),Int.toNat_natCast,isItem_ok]
        try dsimp only
        rw [wrap64 (by omega) (by omega)]
        cases itm rf many (l.getD i (0,0,0,false,0,0,0,0,[])) <;> rfl
      rcases all_or_first (itm rf many) (0,0,0,false,0,0,0,0,[]) l with ha | ⟨j,hn,hb,hi⟩
      · rw [ha,if_pos rfl]
        refine iter_to (step:=S_ref10_asked_4 fl) (fun i:Nat=>(many,l,(l.length:Int),(i:Int),o0,o1,tu,o3,o4,o5,rf,o7)) l.length (fun i hi c=>by rw [st i hi,if_pos (all_getD ha _ hi)]) (fun c=> ?_) (by omega)
        simp only [S_ref10_asked_4,Sg_ref10_asked_4]
        rw [dec_f (by omega)]
      · rw [not_all hn hb,if_neg (by simp)]
        refine iter_to (step:=S_ref10_asked_4 fl) (fun i:Nat=>(many,l,(l.length:Int),(i:Int),o0,o1,tu,o3,o4,o5,rf,o7)) j (fun i hi' c=>by rw [st i (by omega),if_pos (hi i hi')]) (fun c=> ?_) (by omega)
        rw [st j hn,if_neg (by rw [hb]; simp)]
end
theorem rErr_eq {o0 o1 o3 o4 o5 o7:Int} {rf:Bool} {symbols:List Bmp} {l:List Item} {many:Int}:rErr o0 o1 o3 o4 o5 o7 rf symbols l true many = if bErr o0 o1 o3 o4 o5 o7 symbols l = 0 then (if (decide ((symbols.length:Int)≤60)&&decide ((l.length:Int)≤300)&&l.all (itm rf many)) = true then 0 else 2) else bErr o0 o1 o3 o4 o5 o7 symbols l:=by
  unfold rErr bErr
  cases ov o0 o1 o3 o4 o5 o7 <;> cases symbols.all shp <;> cases l.all shpI <;> simp
open Go Ev Bm Co
def bof (symbols:List Bmp) (i:Item):Bmp:=if i.2.2.2.1 = true then i.pix else symbols.getD i.1.toNat (0,0,[])
def cor (o1:Int) (b:Bmp):Int×Int:=(if o1 % 2 = 1 then b.1 - 1 else 0,if 2≤o1 then b.2.1 - 1 else 0)
def plc (o1:Int) (tu:Bool) (b:Bmp) (i:Item):Int×Int:=if tu = true then (i.2.2.1 - (cor o1 b).1,i.2.1 - (cor o1 b).2) else (i.2.1 - (cor o1 b).1,i.2.2.1 - (cor o1 b).2)
theorem shp_iff {b:Bmp}:shp b = true↔valid b.1 b.2.1 b.2.2 = true∧1≤b.1∧b.1≤40∧1≤b.2.1∧b.2.1≤40:=by
  unfold shp
  rw [Bool.and_eq_true,decide_eq_true_eq]
structure IOk (symbols:List Bmp) (i:Item):Prop where
  b:shp (bof symbols i) = true
  x:i.2.2.2.1 = true∨(0≤i.1∧i.1 < (symbols.length:Int))
  s:near i.2.1 100000
  t:near i.2.2.1 100000
theorem iok {rf:Bool} {symbols:List Bmp} {i:Item} (hs:symbols.all shp = true) (hp:shpI i = true) (h:itm rf (symbols.length:Int) i = true):IOk symbols i:=by
  unfold itm at h
  rw [Bool.and_eq_true,decide_eq_true_eq] at h
  obtain ⟨⟨h1,h2,h3,h4⟩,h5⟩:=h
  refine ⟨?_,.inr ⟨h1,h2⟩,h3,h4⟩
  unfold bof
  unfold shpI at hp
  split
  · rename_i hr
    rw [hr] at hp
    exact hp
  · exact all_getD hs _ (by omega)
theorem cor_near {o1:Int} {b:Bmp} (hb:shp b = true):0≤(cor o1 b).1∧(cor o1 b).1≤39∧0≤(cor o1 b).2∧(cor o1 b).2≤39:=by
  have:=shp_iff.1 hb
  unfold cor
  dsimp only
  repeat' split
  all_goals omega
theorem drawn_ok {fl:Nat} {symbols:List Bmp} {i:Item} (h:IOk symbols i) {K:Bmp→Option Ans}:F_text_drawn fl symbols i.1 i.2.1 i.2.2.1 i.2.2.2.1 i.2.2.2.2.1 i.2.2.2.2.2.1 i.2.2.2.2.2.2.1 i.2.2.2.2.2.2.2.1 i.2.2.2.2.2.2.2.2 K = K (bof symbols i):=by
  unfold F_text_drawn bof Item.pix
  cases hr:i.2.2.2.1 with
  | true=>rfl
  | false=>
    have:=h.x
    rw [hr] at this
    rw [cond_false,dec_t (by simpa using this),if_neg (by simp)]
theorem bitmapOf_ok {fl:Nat} {symbols:List Bmp} {i:Item} (h:IOk symbols i) {K:Bmp→Option Ans}:F_ref10_bitmapOf fl symbols i.1 i.2.1 i.2.2.1 i.2.2.2.1 i.2.2.2.2.1 i.2.2.2.2.2.1 i.2.2.2.2.2.2.1 i.2.2.2.2.2.2.2.1 i.2.2.2.2.2.2.2.2 K = K (bof symbols i):=by
  unfold F_ref10_bitmapOf bof Item.pix
  cases hr:i.2.2.2.1 with
  | true=>rfl
  | false=>
    have:=h.x
    rw [hr] at this
    rw [cond_false,dec_t (by simpa using this),if_neg (by simp)]
theorem corner_ok {fl:Nat} {o0 o1 o3 o4 o5 o7:Int} {tu rf:Bool} {b:Bmp} (h0:0≤o1) (h3:o1≤3) (hb:shp b = true) {K:Int×Int→Option Ans}:F_text_corner fl o0 o1 tu o3 o4 o5 rf o7 b.1 b.2.1 b.2.2 K = K (cor o1 b):=by
  obtain ⟨_,b1,b2,b3,b4⟩:=shp_iff.1 hb
  unfold F_text_corner cor
  rw [w6 (x:=b.1 - 1),w6 (x:=b.2.1 - 1)]
  have:o1 = 0∨o1 = 1∨o1 = 2∨o1 = 3:=by omega
  rcases this with rfl | rfl | rfl | rfl <;> rfl
theorem place_ok {fl:Nat} {o0 o1 o3 o4 o5 o7:Int} {tu rf:Bool} {symbols:List Bmp} {i:Item} (h0:0≤o1) (h3:o1≤3) (h:IOk symbols i) {K:Int×Int→Option Ans}:
    F_text_place fl o0 o1 tu o3 o4 o5 rf o7 symbols i.1 i.2.1 i.2.2.1 i.2.2.2.1 i.2.2.2.2.1 i.2.2.2.2.2.1 i.2.2.2.2.2.2.1 i.2.2.2.2.2.2.2.1 i.2.2.2.2.2.2.2.2 K = K (plc o1 tu (bof symbols i) i):=by
  have c:=cor_near (o1:=o1) h.b
  obtain ⟨s1,s2⟩:=h.s
  obtain ⟨t1,t2⟩:=h.t
  unfold F_text_place Fg_text_place plc
  cases tu with
  | true=>
    rw [cond_true,if_pos rfl,drawn_ok h]
    try dsimp only
    rw [corner_ok h0 h3 h.b,wrap64 (by omega) (by omega),wrap64 (by omega) (by omega)]
  | false=>
    rw [cond_false,if_neg (by simp),drawn_ok h]
    try dsimp only
    rw [corner_ok h0 h3 h.b,wrap64 (by omega) (by omega),wrap64 (by omega) (by omega)]
theorem lies_ok {fl:Nat} {o0 o1 o3 o4 o5 o7:Int} {tu rf:Bool} {b:Bmp} {i:Item} (h0:0≤o1) (h3:o1≤3) (hb:shp b = true) (hs:near i.2.1 100000) (ht:near i.2.2.1 100000) {K:Int×Int→Option Ans}:
    F_ref10_lies fl o0 o1 tu o3 o4 o5 rf o7 b.1 b.2.1 b.2.2 i.1 i.2.1 i.2.2.1 i.2.2.2.1 i.2.2.2.2.1 i.2.2.2.2.2.1 i.2.2.2.2.2.2.1 i.2.2.2.2.2.2.2.1 i.2.2.2.2.2.2.2.2 K = K (plc o1 tu b i):=by
  obtain ⟨_,b1,b2,b3,b4⟩:=shp_iff.1 hb
  obtain ⟨s1,s2⟩:=hs
  obtain ⟨t1,t2⟩:=ht
  unfold F_ref10_lies plc cor
  rw [w6 (x:=b.1 - 1),w6 (x:=b.2.1 - 1)]
  rw [w6 (x:=i.2.2.1 - (b.1 - 1)),w6 (x:=i.2.1 - (b.2.1 - 1)),w6 (x:=i.2.1 - (b.1 - 1)),w6 (x:=i.2.2.1 - (b.2.1 - 1))]
  have z1:i.2.2.1 - 0 = i.2.2.1:=Int.sub_zero _
  have z2:i.2.1 - 0 = i.2.1:=Int.sub_zero _
  have:o1 = 0∨o1 = 1∨o1 = 2∨o1 = 3:=by omega
  rcases this with rfl | rfl | rfl | rfl <;> cases tu <;> simp [z1,z2,Int.tmod]
theorem bErr_iff {o0 o1 o3 o4 o5 o7:Int} {symbols:List Bmp} {l:List Item}:bErr o0 o1 o3 o4 o5 o7 symbols l = 0↔ov o0 o1 o3 o4 o5 o7 = true∧symbols.all shp = true∧l.all shpI = true:=by
  unfold bErr
  cases ov o0 o1 o3 o4 o5 o7 <;> cases symbols.all shp <;> cases l.all shpI <;> simp
theorem rights_iff {rf:Bool} {n:Int} {l:List Item}:rights rf n l = true↔n≤60∧(l.length:Int)≤300∧l.all (itm rf n) = true:=by
  unfold rights
  simp only [Bool.and_eq_true,decide_eq_true_eq,and_assoc]
section
variable {fl:Nat} (hfl:9223372036854775808≤fl)
include hfl
end
end Go.Proofs.YtipdidpalcmlhaaGreat.Tx
namespace Go.Proofs.YtipdidpalcmlhaaGreat.Ton
open Go Ev Bm Gen
theorem bat {fl:Nat} {w h:Int} {p:List Int} (hp:Pix w h p) {x y:Int} {K:Int→Option Ans}:F_bitmap_at fl w h p x y K = K (px w h p x y):=by
  have hl:=hp.len
  have hn:=hp.n
  unfold F_bitmap_at px
  simp only [cd]
  by_cases hi:ins w h x y
  · have hq:=place hi
    have hy:=place_y hi
    rw [if_pos hi]
    obtain ⟨h1,h2,h3,h4⟩:=hi
    rw [if_neg (by omega),if_neg (by omega),if_neg (by omega),if_neg (by omega),w6 (x:=y * w),w6 (x:=y * w + x),if_pos (by omega)]
  · rw [if_neg hi]
    unfold ins at hi
    repeat' split
    all_goals first | rfl | omega
def cmb (op d s:Int):Int:=if op = 0 then s else if op = 1 then max d s else if op = 2 then min d s else if op = 3 then (d + s) % 2 else (d + s + 1) % 2
theorem cmb_01 {op d s:Int} (hd:d = 0∨d = 1) (hs:s = 0∨s = 1):0≤cmb op d s∧cmb op d s≤1:=by
  unfold cmb
  repeat' split
  all_goals omega
theorem combine_ok {fl:Nat} {op d s:Int} (ho:0≤op∧op≤4) (hd:d = 0∨d = 1) (hs:s = 0∨s = 1) {K:Int→Option Ans}:F_bitmap_combine fl d s op K = K (cmb op d s):=by
  have:op = 0∨op = 1∨op = 2∨op = 3∨op = 4:=by omega
  rcases this with rfl | rfl | rfl | rfl | rfl <;> rcases hd with rfl | rfl <;> rcases hs with rfl | rfl <;> rfl
section
variable (W H x y op w h:Int) (q:List Int)
def drPx (j i:Nat) (p:List Int):List Int:=
  if ins W H (x + i) (y + j) then p.set ((y + j) * W + (x + i)).toNat (cmb op (p.getD ((y + j) * W + (x + i)).toNat 0) (px w h q (i:Int) (j:Int))) else p
def drRow (j:Nat) (p:List Int):Nat→List Int
  | 0=>p
  | i + 1=>drPx W H x y op w h q j i (drRow j p i)
def drAll (p:List Int):Nat→List Int
  | 0=>p
  | j + 1=>drRow W H x y op w h q j (drAll p j) w.toNat
end
theorem getD_b {p:List Int} (h0:∀ v ∈ p,0≤v∧v≤1) (i:Nat):p.getD i 0 = 0∨p.getD i 0 = 1:=by
  by_cases hi:i < p.length
  · have:=h0 _ (getD_mem hi 0)
    omega
  · rw [List.getD_eq_getElem?_getD,List.getElem?_eq_none (by omega)]
    exact .inl rfl
section
variable {W H x y op w h:Int} {p q:List Int}
theorem px_b (hq:Pix w h q) (i j:Int):px w h q i j = 0∨px w h q i j = 1:=by
  have:=px_01 (w:=w) (h:=h) hq.bit i j
  omega
theorem drPx_pix (hp:Pix W H p) (hq:Pix w h q) (j i:Nat):Pix W H (drPx W H x y op w h q j i p):=by
  unfold drPx
  split
  · have hc:=cmb_01 (op:=op) (getD_b hp.bit ((y + j) * W + (x + i)).toNat) (px_b hq (i:Int) (j:Int))
    exact ⟨hp.w0,hp.h0,hp.w1,hp.h1,hp.n,by rw [List.length_set]; exact hp.len,fun v hv=>by
      rcases List.mem_or_eq_of_mem_set hv with hv | rfl
      · exact hp.bit v hv
      · exact hc⟩
  · exact hp
theorem drRow_pix (hp:Pix W H p) (hq:Pix w h q) (j:Nat):∀ n,Pix W H (drRow W H x y op w h q j p n)
  | 0=>hp
  | n + 1=>drPx_pix (drRow_pix hp hq j n) hq j n
theorem drAll_pix (hp:Pix W H p) (hq:Pix w h q):∀ n,Pix W H (drAll W H x y op w h q p n)
  | 0=>hp
  | n + 1=>drRow_pix (drAll_pix hp hq n) hq n _
theorem drAll_off (ho:∀ i j:Nat,(i:Int) < w→(j:Int) < h→¬ ins W H (x + i) (y + j)):∀ n:Nat,(n:Int)≤h→drAll W H x y op w h q p n = p
  | 0,_=>rfl
  | n + 1,hn=>by
    unfold drAll
    rw [drAll_off ho n (by omega)]
    have:∀ m:Nat,(m:Int)≤w→drRow W H x y op w h q n p m = p:=by
      intro m
      induction m with
      | zero=>intro _; rfl
      | succ m ih=>
        intro hm
        unfold drRow drPx
        rw [ih (by omega),if_neg (ho m n (by omega) (by omega))]
    by_cases hw:0≤w
    · exact this _ (by omega)
    · rw [show w.toNat = 0 by omega]
      rfl
theorem clone_b {fl:Nat} {p:List Int} (hp:p.length≤1000000) {K:List Int→Option Ans}:F_bytes_Clone fl p K = K p:=by
  unfold F_bytes_Clone
  by_cases h0:(p.length:Int) = 0
  · have:p = []:=List.length_eq_zero_iff.1 (by omega)
    subst this
    rw [dec_t h0,dec_t (by simp)]
    exact both_same _
  · rw [dec_f h0,dec_t (by omega),List.nil_append]
theorem draw_row {fl:Nat} (hfl:9223372036854775808≤fl) (hq:Pix w h q) (ho:0≤op∧op≤4) (hx: -100000≤x∧x≤100000) (hy: -100000≤y∧y≤100000) {j:Nat} (hj:(j:Int) < h) {o1 o2:Int} {o3 o4 p:List Int} {o5 o6:Int} (hp:Pix W H p) {K}:
    L_bitmap_Draw_3 fl (x,y,op,(j:Int),h,(j:Int),w,0,W,H,o3,w,h,q,o1,o2,o5,o6,o4,p) K = K (x,y,op,h,(j:Int),W,H,o3,w,h,q,o1,o2,o5,o6,o4,drRow W H x y op w h q j p w.toNat):=by
  have hw0:=hq.w0; have hw1:=hq.w1; have hh0:=hq.h0; have hh1:=hq.h1
  have hW1:=hp.w1; have hH1:=hp.h1; have hn:=hp.n
  unfold L_bitmap_Draw_3
  refine iter_to (step:=S_bitmap_Draw_3 fl) (fun i:Nat=>(x,y,op,(j:Int),h,(j:Int),w,(i:Int),W,H,o3,w,h,q,o1,o2,o5,o6,o4,drRow W H x y op w h q j p i)) w.toNat (fun i hi c=> ?_) (fun c=> ?_) (by omega)
  · have hpi:=drRow_pix (x:=x) (y:=y) (op:=op) hp hq j i
    have hlen:=hpi.len
    simp only [S_bitmap_Draw_3,Sg_bitmap_Draw_3,both_same]
    rw [dec_t (by omega),w6 (x:=x + (i:Int)),w6 (x:=y + (j:Int)),w6 (x:=(i:Int) + 1)]
    have e:drRow W H x y op w h q j p (i + 1) = drPx W H x y op w h q j i (drRow W H x y op w h q j p i):=rfl
    rw [show ((i + 1:Nat):Int) = (i:Int) + 1 from rfl,e]
    unfold drPx
    by_cases hin:ins W H (x + i) (y + j)
    · have h1:=place hin
      have h2:=place_y hin
      rw [if_pos hin]
      obtain ⟨a,b,d,f⟩:=hin
      rw [dec_t a,dec_t b,dec_t d,dec_t f,w6 (x:=(y + (j:Int)) * W),w6 (x:=(y + (j:Int)) * W + (x + (i:Int))),dec_t (by omega),bat hq,combine_ok ho (getD_b hpi.bit _) (px_b hq _ _)]
    · rw [if_neg hin]
      unfold ins at hin
      by_cases a:x + (i:Int)≥0
      · rw [dec_t a]
        by_cases b:y + (j:Int)≥0
        · rw [dec_t b]
          by_cases d:x + (i:Int) < W
          · rw [dec_t d,dec_f (by omega)]
          · rw [dec_f d]
        · rw [dec_f b]
      · rw [dec_f a]
  · simp only [S_bitmap_Draw_3,Sg_bitmap_Draw_3]
    rw [dec_f (by omega)]
theorem draw_ok {fl:Nat} (hfl:9223372036854775808≤fl) (hp:Pix W H p) (hq:Pix w h q) (ho:0≤op∧op≤4) (hx: -100000≤x∧x≤100000) (hy: -100000≤y∧y≤100000) {K:Int×Int×Int×List Int→Option Ans}:
    F_bitmap_Draw fl W H p w h q x y op K = K (W,H,0,drAll W H x y op w h q p h.toNat):=by
  have v1:valid W H p = true:=valid_iff.2 ⟨⟨hp.w0,hp.h0,hp.w1,hp.h1,hp.n⟩,hp.len,fun v hv=>(hp.bit v hv).2⟩
  have v2:valid w h q = true:=valid_iff.2 ⟨⟨hq.w0,hq.h0,hq.w1,hq.h1,hq.n⟩,hq.len,fun v hv=>(hq.bit v hv).2⟩
  have hh0:=hq.h0; have hh1:=hq.h1; have hn:=hp.n; have hlen:=hp.len
  have hsh1:decide ((bif decide (y < x) then y else x)≥ -100000) = true:=decide_eq_true (by simp only [cd]; split <;> omega)
  have hsh2:decide ((bif decide (y > x) then y else x)≤100000) = true:=decide_eq_true (by simp only [cd]; split <;> omega)
  unfold F_bitmap_Draw Fg_bitmap_Draw F_bitmap_isShift F_bitmap_clone Fg_bitmap_clone
  dsimp only
  rw [valid_ok hfl,v1,cond_f (b:=!true) rfl,valid_ok hfl,v2,cond_f (b:=!true) rfl,dec_f (by omega),dec_f (by omega),hsh1,hsh2,cond_t rfl]
  try dsimp only
  rw [cond_f (b:=!true) rfl,clone_b (by omega)]
  try dsimp only
  unfold L_bitmap_Draw_1
  refine iter_to (step:=S_bitmap_Draw_1 fl) (fun j:Nat=>(x,y,op,h,(j:Int),W,H,p,w,h,q,0,0,W,H,[],drAll W H x y op w h q p j)) h.toNat (fun j hj c=> ?_) (fun c=> ?_) (by omega)
  · simp only [S_bitmap_Draw_1,Sg_bitmap_Draw_1]
    rw [dec_t (by omega),draw_row hfl hq ho hx hy (by omega) (drAll_pix hp hq j)]
    dsimp only
    rw [wrap64 (by omega) (by omega)]
    rfl
  · simp only [S_bitmap_Draw_1,Sg_bitmap_Draw_1]
    rw [dec_f (by omega)]
end
open Go Ev Bm Gen
abbrev Bmp:=Int×Int×List Int
theorem replicate_set (n i:Nat):(List.replicate n (0:Int)).set i 0 = List.replicate n 0:=by
  apply List.ext_getElem (by simp)
  intro j h1 h2
  simp [List.getElem_set]
theorem bnew0 {fl:Nat} (hfl:9223372036854775808≤fl) {w h:Int} (hf:fit w h = true) {K:Int×Int×Int×List Int→Option Ans}:F_bitmap_New fl w h 0 K = K (w,h,0,List.replicate (w * h).toNat 0):=by
  obtain ⟨f1,f2,f3,f4,f5⟩:=fit_iff.1 hf
  have hm:=Int.mul_nonneg f1 f2
  unfold F_bitmap_New Fg_bitmap_New F_bitmap_blank Fg_bitmap_blank
  rw [dec_f (by omega),dec_f (by omega),cond_f (b:=(0:Int) != 0) rfl,fits_ok,hf,cond_f (b:=!true) rfl,w6 (x:=w * h),dec_t (by refine ⟨by omega, ?_,by omega,by omega⟩; first | rfl | trivial)]
  dsimp only
  unfold L_bitmap_New_0
  refine iter_seq (step:=S_bitmap_New_0 fl) (fun i:Nat=>(0,0,((List.replicate (w * h).toNat (0:Int)).length:Int),(i:Int),0,0,w,h,[],List.replicate (w * h).toNat 0)) (w * h).toNat rfl (fun i hi c=> ?_) (fun c=> ?_) (by omega)
  · simp only [S_bitmap_New_0,Sg_bitmap_New_0,List.length_replicate]
    rw [dec_t (by omega),dec_t (by omega),wrap64 (by omega) (by omega),wrap8 (by omega) (by omega),replicate_set]
    rfl
  · simp only [S_bitmap_New_0,Sg_bitmap_New_0,List.length_replicate]
    rw [dec_f (by omega)]
theorem bnew_bad {fl:Nat} (hfl:9223372036854775808≤fl) {w h:Int} (hf:fit w h = false):∃ e:Int,e ≠ 0∧∀ K:Int×Int×Int×List Int→Option Ans,F_bitmap_New fl w h 0 K = K (0,0,e,[]):=by
  unfold F_bitmap_New Fg_bitmap_New F_bitmap_blank Fg_bitmap_blank
  by_cases h1:w < 0
  · exact ⟨2,by omega,fun K=>by rw [dec_t h1]⟩
  by_cases h2:h < 0
  · exact ⟨2,by omega,fun K=>by rw [dec_f h1,dec_t h2]⟩
  refine ⟨4,by omega,fun K=> ?_⟩
  rw [dec_f h1,dec_f h2,cond_f (b:=(0:Int) != 0) rfl,fits_ok,hf,cond_t (b:=!false) rfl]
  dsimp only
  unfold L_bitmap_New_0
  refine iter_to (step:=S_bitmap_New_0 fl) (fun i:Nat=>(0,4,(([]:List Int).length:Int),(i:Int),0,0,0,0,[],[])) 0 (fun i hi c=>by omega) (fun c=> ?_) (by omega)
  · simp only [S_bitmap_New_0,Sg_bitmap_New_0]
    rw [dec_f (by simp)]
end Go.Proofs.YtipdidpalcmlhaaGreat.Ton
namespace Go.Proofs.YtipdidpalcmlhaaGreat.Tx
open Go Ev Bm Co Gen Ton
theorem shp_pixB {b:Bmp} (hb:shp b = true) (hz:∀ v ∈ b.2.2,0≤v):Gen.Pix b.1 b.2.1 b.2.2:=pix_of (shp_iff.1 hb).1 hz
theorem mixed_ok {fl:Nat} {op d s:Int} (ho:0≤op∧op≤4) (hd:d = 0∨d = 1) (hs:s = 0∨s = 1) {K:Int→Option Ans}:F_ref10_mixed fl op d s K = K (cmb op d s):=by
  have:op = 0∨op = 1∨op = 2∨op = 3∨op = 4:=by omega
  rcases this with rfl | rfl | rfl | rfl | rfl <;> rcases hd with rfl | rfl <;> rcases hs with rfl | rfl <;> rfl
section
variable {W H x y op w h:Int} {p q:List Int}
theorem draw_far {fl:Nat} (hfl:9223372036854775808≤fl) (hp:Gen.Pix W H p) (hq:Gen.Pix w h q) (ho:0≤op∧op≤4) (hf:¬ (-100000≤x∧x≤100000∧ -100000≤y∧y≤100000)) {K:Int×Int×Int×List Int→Option Ans}:
    F_bitmap_Draw fl W H p w h q x y op K = K (0,0,2,[]):=by
  have v1:valid W H p = true:=valid_iff.2 ⟨⟨hp.w0,hp.h0,hp.w1,hp.h1,hp.n⟩,hp.len,fun v hv=>(hp.bit v hv).2⟩
  have v2:valid w h q = true:=valid_iff.2 ⟨⟨hq.w0,hq.h0,hq.w1,hq.h1,hq.n⟩,hq.len,fun v hv=>(hq.bit v hv).2⟩
  unfold F_bitmap_Draw Fg_bitmap_Draw F_bitmap_isShift
  rw [valid_ok hfl,v1,cond_f (b:=!true) rfl,valid_ok hfl,v2,cond_f (b:=!true) rfl,dec_f (by omega),dec_f (by omega)]
  by_cases h1:(bif decide (y < x) then y else x)≥ -100000
  · rw [dec_t h1]
    have h2:¬ (bif decide (y > x) then y else x)≤100000:=by
      simp only [cd] at h1 ⊢
      split at h1 <;> split <;> omega
    rw [decide_eq_false h2]
    rfl
  · rw [dec_f h1]
    rfl
variable {symbols:List Bmp} {l:List Item} {n i o0 o1 o3 o5 o7 z1 z2 z3 z4:Int} {tu rf:Bool} {zs:List Int}
theorem rnd_row {fl:Nat} (hfl:9223372036854775808≤fl) (hq:Gen.Pix w h q) (ho:0≤op∧op≤4) (hx: -1000000000≤x∧x≤1000000000) (hy: -1000000000≤y∧y≤1000000000) {j:Nat} (hj:(j:Int) < h) {p:List Int} (hp:Gen.Pix W H p) {K}:
    L_ref10_Render_4 fl (symbols,W,H,x,y,(j:Int),0,l,n,i,o0,o1,tu,o3,op,o5,rf,o7,z1,z2,z3,z4,w,h,q,zs,p) K = K (symbols,W,H,x,y,(j:Int),l,n,i,o0,o1,tu,o3,op,o5,rf,o7,z1,z2,z3,z4,w,h,q,zs,drRow W H x y op w h q j p w.toNat):=by
  have hw0:=hq.w0; have hw1:=hq.w1; have hh0:=hq.h0; have hh1:=hq.h1
  have hW1:=hp.w1; have hH1:=hp.h1; have hn:=hp.n
  unfold L_ref10_Render_4
  refine iter_to (step:=S_ref10_Render_4 fl) (fun u:Nat=>(symbols,W,H,x,y,(j:Int),(u:Int),l,n,i,o0,o1,tu,o3,op,o5,rf,o7,z1,z2,z3,z4,w,h,q,zs,drRow W H x y op w h q j p u)) w.toNat (fun u hu c=> ?_) (fun c=> ?_) (by omega)
  · have hpi:=drRow_pix (x:=x) (y:=y) (op:=op) hp hq j u
    have hlen:=hpi.len
    simp only [S_ref10_Render_4,Sg_ref10_Render_4]
    rw [dec_t (by omega),w6 (x:=x + (u:Int)),w6 (x:=y + (j:Int)),w6 (x:=(u:Int) + 1)]
    have e:drRow W H x y op w h q j p (u + 1) = drPx W H x y op w h q j u (drRow W H x y op w h q j p u):=rfl
    rw [show ((u + 1:Nat):Int) = (u:Int) + 1 from rfl,e]
    unfold drPx
    by_cases hin:ins W H (x + u) (y + j)
    · have h1:=place hin
      have h2:=place_y hin
      rw [if_pos hin]
      obtain ⟨a,b,d,f⟩:=hin
      have hi2:ins w h (u:Int) (j:Int):=⟨by omega,by omega,by omega,by omega⟩
      have h3:=place hi2
      have h4:=place_y hi2
      have hl2:=hq.len
      have hn2:=hq.n
      have hpx:px w h q (u:Int) (j:Int) = q.getD ((j:Int) * w + (u:Int)).toNat 0:=by
        unfold px
        rw [if_pos hi2]
      have e1:(y + (j:Int)) * W + x + (u:Int) = (y + (j:Int)) * W + (x + (u:Int)):=by omega
      rw [dec_t a,dec_t d,dec_t b,dec_t f,w6 (x:=(y + (j:Int)) * W),w6 (x:=(y + (j:Int)) * W + x),e1,w6 (x:=(y + (j:Int)) * W + (x + (u:Int))),w6 (x:=(j:Int) * w),w6 (x:=(j:Int) * w + (u:Int)),dec_t (by omega),dec_t (by omega),mixed_ok ho (getD_b hpi.bit _) (getD_b hq.bit _)]
      try dsimp only
      rw [dec_t (by omega),hpx]
    · rw [if_neg hin]
      unfold ins at hin
      by_cases a:x + (u:Int)≥0
      · rw [dec_t a]
        by_cases b:x + (u:Int) < W
        · rw [dec_t b]
          by_cases d:y + (j:Int)≥0
          · rw [dec_t d,dec_f (by omega)]
          · rw [dec_f d]
        · rw [dec_f b]
      · rw [dec_f a]
  · simp only [S_ref10_Render_4,Sg_ref10_Render_4]
    rw [dec_f (by omega)]
theorem rnd_all {fl:Nat} (hfl:9223372036854775808≤fl) (hp:Gen.Pix W H p) (hq:Gen.Pix w h q) (ho:0≤op∧op≤4) (hx: -1000000000≤x∧x≤1000000000) (hy: -1000000000≤y∧y≤1000000000) {K}:
    L_ref10_Render_2 fl (symbols,W,H,x,y,0,l,n,i,o0,o1,tu,o3,op,o5,rf,o7,z1,z2,z3,z4,w,h,q,zs,p) K = K (symbols,W,H,l,n,i,o0,o1,tu,o3,op,o5,rf,o7,z1,z2,z3,z4,zs,drAll W H x y op w h q p h.toNat):=by
  have hh0:=hq.h0; have hh1:=hq.h1
  unfold L_ref10_Render_2
  refine iter_to (step:=S_ref10_Render_2 fl) (fun j:Nat=>(symbols,W,H,x,y,(j:Int),l,n,i,o0,o1,tu,o3,op,o5,rf,o7,z1,z2,z3,z4,w,h,q,zs,drAll W H x y op w h q p j)) h.toNat (fun j hj c=> ?_) (fun c=> ?_) (by omega)
  · simp only [S_ref10_Render_2,Sg_ref10_Render_2]
    rw [dec_t (by omega),rnd_row hfl hq ho hx hy (by omega) (drAll_pix hp hq j)]
    dsimp only
    rw [wrap64 (by omega) (by omega)]
    rfl
  · simp only [S_ref10_Render_2,Sg_ref10_Render_2]
    rw [dec_f (by omega)]
end
def rndT (o1 op:Int) (tu:Bool) (symbols:List Bmp) (l:List Item) (W H:Int):Nat→List Int
  | 0=>List.replicate (W * H).toNat 0
  | i + 1=>
    let it:=l.getD i (0,0,0,false,0,0,0,0,[])
    let b:=bof symbols it
    drAll W H (plc o1 tu b it).1 (plc o1 tu b it).2 op b.1 b.2.1 b.2.2 (rndT o1 op tu symbols l W H i) b.2.1.toNat
structure Its (symbols:List Bmp) (l:List Item):Prop where
  s:symbols.all shp = true
  i:∀ i ∈ l,IOk symbols i
  z:∀ b ∈ symbols,∀ v ∈ b.2.2,0≤v
  zi:∀ i ∈ l,∀ v ∈ i.2.2.2.2.2.2.2.2,0≤v
theorem Its.pix {symbols:List Bmp} {l:List Item} (h:Its symbols l) {i:Item} (hi:i ∈ l):Gen.Pix (bof symbols i).1 (bof symbols i).2.1 (bof symbols i).2.2:=by
  refine shp_pixB (h.i i hi).b (fun v hv=> ?_)
  unfold bof at hv
  split at hv
  · exact h.zi i hi v hv
  · rename_i hr
    rcases (h.i i hi).x with hx | hx
    · exact absurd hx hr
    · exact h.z _ (getD_mem (by omega) _) v hv
section
variable {fl:Nat} (hfl:9223372036854775808≤fl)
variable {symbols:List Bmp} {l:List Item} {o0 o1 o3 op o5 o7 W H:Int} {tu rf:Bool}
theorem pix_zero (hf:fit W H = true):Gen.Pix W H (List.replicate (W * H).toNat 0):=by
  obtain ⟨f1,f2,f3,f4,f5⟩:=fit_iff.1 hf
  have hm:=Int.mul_nonneg f1 f2
  exact ⟨f1,f2,f3,f4,f5,by rw [List.length_replicate]; omega,fun v hv=>by have:=(List.mem_replicate.1 hv).2; omega⟩
theorem rndT_pix (h:Its symbols l) (hf:fit W H = true):∀ i,i≤l.length→Gen.Pix W H (rndT o1 op tu symbols l W H i)
  | 0,_=>pix_zero hf
  | i + 1,hi=>drAll_pix (rndT_pix h hf i (by omega)) (h.pix (getD_mem (by omega) _)) _
theorem plc_rg {b:Bmp} {i:Item} (hb:shp b = true) (hs:near i.2.1 100000) (ht:near i.2.2.1 100000): -100039≤(plc o1 tu b i).1∧(plc o1 tu b i).1≤100000∧ -100039≤(plc o1 tu b i).2∧(plc o1 tu b i).2≤100000:=by
  have c:=cor_near (o1:=o1) hb
  obtain ⟨s1,s2⟩:=hs
  obtain ⟨t1,t2⟩:=ht
  unfold plc
  cases tu with
  | true=>rw [if_pos rfl]; dsimp only; omega
  | false=>rw [if_neg (by simp)]; dsimp only; omega
include hfl
theorem t_loop (h:Its symbols l) (hl:l.length≤1000000) (hf:fit W H = true) (ho:ov o0 o1 o3 op o5 o7 = true) {b:Int×Int×Int×Int×List Int×List Int→Option Ans}:
    L_text_Render_1 fl (symbols,l,(l.length:Int),0,o0,o1,tu,o3,op,o5,rf,o7,0,0,W,H,[],List.replicate (W * H).toNat 0) b = b (0,0,W,H,[],rndT o1 op tu symbols l W H l.length):=by
  have o:=ov_iff.1 ho
  unfold L_text_Render_1
  refine iter_seq (step:=S_text_Render_1 fl) (fun i:Nat=>(symbols,l,(l.length:Int),(i:Int),o0,o1,tu,o3,op,o5,rf,o7,0,0,W,H,[],rndT o1 op tu symbols l W H i)) l.length rfl (fun i hi c=> ?_) (fun c=> ?_) (by omega)
  · have hm:=getD_mem hi (0,0,0,false,0,0,0,0,[])
    have hio:=h.i _ hm
    have hq:=h.pix hm
    have hp:=rndT_pix (o1:=o1) (op:=op) (tu:=tu) h hf i (by omega)
    have pr:=plc_rg (o1:=o1) (tu:=tu) hio.b hio.s hio.t
    simp only [S_text_Render_1,Sg_text_Render_1]
    rw [dec_t (by omega),dec_t (by omega),Int.toNat_natCast,place_ok o.2.1 o.2.2.1 hio]
    try dsimp only
    rw [drawn_ok hio]
    try dsimp only
    rw [drawn_ok hio]
    try dsimp only
    simp only [both_same]
    rw [wrap64 (by omega) (by omega)]
    have er:rndT o1 op tu symbols l W H (i + 1) = drAll W H (plc o1 tu (bof symbols (l.getD i (0,0,0,false,0,0,0,0,[]))) (l.getD i (0,0,0,false,0,0,0,0,[]))).1 (plc o1 tu (bof symbols (l.getD i (0,0,0,false,0,0,0,0,[]))) (l.getD i (0,0,0,false,0,0,0,0,[]))).2 op (bof symbols (l.getD i (0,0,0,false,0,0,0,0,[]))).1 (bof symbols (l.getD i (0,0,0,false,0,0,0,0,[]))).2.1 (bof symbols (l.getD i (0,0,0,false,0,0,0,0,[]))).2.2 (rndT o1 op tu symbols l W H i) (bof symbols (l.getD i (0,0,0,false,0,0,0,0,[]))).2.1.toNat:=rfl
    rw [er]
    generalize rndT o1 op tu symbols l W H i = P at *
    generalize plc o1 tu (bof symbols (l.getD i (0,0,0,false,0,0,0,0,[]))) (l.getD i (0,0,0,false,0,0,0,0,[])) = xy at *
    have hsb:=shp_iff.1 hio.b
    generalize bof symbols (l.getD i (0,0,0,false,0,0,0,0,[])) = b' at *
    by_cases nf: -100000≤xy.1∧xy.1≤100000∧ -100000≤xy.2∧xy.2≤100000
    · rw [draw_ok hfl hp hq ⟨o.2.2.2.2.2.1,o.2.2.2.2.2.2.1⟩ ⟨nf.1,nf.2.1⟩ nf.2.2]
      try dsimp only
      rw [cond_t (by rfl)]
      rfl
    · rw [draw_far hfl hp hq ⟨o.2.2.2.2.2.1,o.2.2.2.2.2.2.1⟩ nf]
      try dsimp only
      obtain ⟨f1,f2,f3,f4,f5⟩:=fit_iff.1 hf
      have hoff:drAll W H xy.1 xy.2 op b'.1 b'.2.1 b'.2.2 P b'.2.1.toNat = P:=drAll_off (fun a d ha hd hin=>by
        obtain ⟨i1,i2,i3,i4⟩:=hin
        omega) _ (by omega)
      rw [cond_f (by rfl),hoff]
      rfl
  · simp only [S_text_Render_1,Sg_text_Render_1]
    rw [dec_f (by omega)]
theorem r_loop (h:Its symbols l) (hl:l.length≤1000000) (hf:fit W H = true) (ho:ov o0 o1 o3 op o5 o7 = true) {b:Int×Int×Int×Int×List Int×List Int→Option Ans}:
    L_ref10_Render_0 fl (symbols,W,H,l,(l.length:Int),0,o0,o1,tu,o3,op,o5,rf,o7,0,0,W,H,[],List.replicate (W * H).toNat 0) b = b (0,0,W,H,[],rndT o1 op tu symbols l W H l.length):=by
  have o:=ov_iff.1 ho
  unfold L_ref10_Render_0
  refine iter_seq (step:=S_ref10_Render_0 fl) (fun i:Nat=>(symbols,W,H,l,(l.length:Int),(i:Int),o0,o1,tu,o3,op,o5,rf,o7,0,0,W,H,[],rndT o1 op tu symbols l W H i)) l.length rfl (fun i hi c=> ?_) (fun c=> ?_) (by omega)
  · have hm:=getD_mem hi (0,0,0,false,0,0,0,0,[])
    have hio:=h.i _ hm
    have hq:=h.pix hm
    have hp:=rndT_pix (o1:=o1) (op:=op) (tu:=tu) h hf i (by omega)
    have pr:=plc_rg (o1:=o1) (tu:=tu) hio.b hio.s hio.t
    simp only [S_ref10_Render_0,Sg_ref10_Render_0]
    rw [dec_t (by omega),dec_t (by omega),Int.toNat_natCast,bitmapOf_ok hio]
    try dsimp only
    rw [lies_ok o.2.1 o.2.2.1 hio.b hio.s hio.t]
    try dsimp only
    rw [rnd_all hfl hp hq ⟨o.2.2.2.2.2.1,o.2.2.2.2.2.2.1⟩ (by omega) (by omega)]
    try dsimp only
    rw [wrap64 (by omega) (by omega)]
    rfl
  · simp only [S_ref10_Render_0,Sg_ref10_Render_0]
    rw [dec_f (by omega)]
end
def rndE (o0 o1 o3 op o5 o7:Int) (tu rf:Bool) (symbols:List Bmp) (l:List Item) (W H:Int):Int×Int×Int×List Int:=
  if bErr o0 o1 o3 op o5 o7 symbols l = 0 then (if fit W H = true then (if rights rf (symbols.length:Int) l = true then (W,H,0,rndT o1 op tu symbols l W H l.length) else (0,0,2,[])) else (0,0,30,[])) else (0,0,bErr o0 o1 o3 op o5 o7 symbols l,[])
section
variable {fl:Nat} (hfl:9223372036854775808≤fl)
variable {symbols:List Bmp} {l:List Item} {o0 o1 o3 op o5 o7 W H:Int} {tu rf:Bool}
theorem its_of (hz:∀ b ∈ symbols,∀ v ∈ b.2.2,0≤v) (hzi:∀ i ∈ l,∀ v ∈ i.2.2.2.2.2.2.2.2,0≤v) (he:bErr o0 o1 o3 op o5 o7 symbols l = 0) (hr:rights rf (symbols.length:Int) l = true):Its symbols l:=by
  obtain ⟨e1,e2,e3⟩:=bErr_iff.1 he
  obtain ⟨r1,r2,r3⟩:=rights_iff.1 hr
  rw [List.all_eq_true] at e3 r3
  exact ⟨e2,fun i hi=>iok e2 (e3 i hi) (r3 i hi),hz,hzi⟩
include hfl
theorem tRender (hs:symbols.length≤1000000000000000) (hl:l.length≤1000000) (hz:∀ b ∈ symbols,∀ v ∈ b.2.2,0≤v) (hzi:∀ i ∈ l,∀ v ∈ i.2.2.2.2.2.2.2.2,0≤v) {K:Int×Int×Int×List Int→Option Ans}:
    F_text_Render fl o0 o1 tu o3 op o5 rf o7 symbols l W H K = K (rndE o0 o1 o3 op o5 o7 tu rf symbols l W H):=by
  unfold F_text_Render Fg_text_Render rndE
  rw [begun_ok hfl hs (by omega)]
  try dsimp only
  rw [cn]
  by_cases he:bErr o0 o1 o3 op o5 o7 symbols l = 0
  rotate_left
  · rw [if_neg he,if_neg he]
  rw [if_pos he,if_pos he]
  cases hf:fit W H with
  | false=>
    obtain ⟨e,e1,e2⟩:=bnew_bad hfl hf
    rw [e2,if_neg (by simp)]
    try dsimp only
    rw [cond_t (by simp [e1])]
  | true=>
    rw [bnew0 hfl hf,if_pos rfl]
    try dsimp only
    rw [cond_f (by rfl),right_ok hfl]
    try dsimp only
    cases hr:rights rf (symbols.length:Int) l with
    | false=>rfl
    | true=>
      have h:=its_of hz hzi he hr
      rw [cond_f (by rfl),if_pos rfl,t_loop hfl h hl hf (bErr_iff.1 he).1]
theorem rRender (hs:symbols.length≤1000000000000000) (hl:l.length≤1000000) (hz:∀ b ∈ symbols,∀ v ∈ b.2.2,0≤v) (hzi:∀ i ∈ l,∀ v ∈ i.2.2.2.2.2.2.2.2,0≤v) {K:Int×Int×Int×List Int→Option Ans}:
    F_ref10_Render fl o0 o1 tu o3 op o5 rf o7 symbols l W H K = K (rndE o0 o1 o3 op o5 o7 tu rf symbols l W H):=by
  unfold F_ref10_Render Fg_ref10_Render rndE
  rw [rsize_ok]
  try dsimp only
  rw [asked_ok hfl hs (by omega)]
  try dsimp only
  cases hf:fit W H with
  | false=>
    have:rErr o0 o1 o3 op o5 o7 rf symbols l false (symbols.length:Int) = if bErr o0 o1 o3 op o5 o7 symbols l = 0 then 30 else bErr o0 o1 o3 op o5 o7 symbols l:=by
      unfold rErr bErr
      cases ov o0 o1 o3 op o5 o7 <;> cases symbols.all shp <;> cases l.all shpI <;> simp
    rw [this,cn]
    by_cases he:bErr o0 o1 o3 op o5 o7 symbols l = 0
    · rw [if_pos he,if_pos he,if_neg (by simp),if_neg (by simp)]
    · rw [if_neg he,if_neg he,if_neg he]
  | true=>
    rw [rErr_eq,cn]
    by_cases he:bErr o0 o1 o3 op o5 o7 symbols l = 0
    rotate_left
    · rw [if_neg he,if_neg he,if_neg he]
    have hrr:(decide ((symbols.length:Int)≤60)&&decide ((l.length:Int)≤300)&&l.all (itm rf (symbols.length:Int))) = rights rf (symbols.length:Int) l:=rfl
    rw [if_pos he,if_pos he,hrr,if_pos (show true = true from rfl)]
    cases hr:rights rf (symbols.length:Int) l with
    | false=>rfl
    | true=>
      have h:=its_of hz hzi he hr
      obtain ⟨f1,f2,f3,f4,f5⟩:=fit_iff.1 hf
      have hm:=Int.mul_nonneg f1 f2
      rw [if_pos rfl,if_pos rfl,if_pos rfl,fit_mul hf,dec_t (by omega),r_loop hfl h hl hf (bErr_iff.1 he).1]
end
open Go Ev Bm
section
variable {fl:Nat} (hfl:9223372036854775808≤fl)
include hfl
theorem sameB {w h:Int} {p:List Int} (hl:p.length≤1000000000000000) {K:Bool→Option Ans}:F_ref06_SameBitmap fl w h p w h p K = K true:=by
  unfold F_ref06_SameBitmap
  rw [cond_f (by simp),cond_f (by simp),cond_f (by simp)]
  unfold L_ref06_SameBitmap_0
  refine iter_seq (step:=S_ref06_SameBitmap_0 fl) (fun i:Nat=>((p.length:Int),(i:Int),w,h,p,w,h,p)) p.length rfl (fun i hi c=> ?_) (fun c=> ?_) (by omega)
  · simp only [S_ref06_SameBitmap_0]
    rw [dec_t (by omega),dec_t (by omega),dec_t (by omega),cond_f (by simp),wrap64 (by omega) (by omega)]
    rfl
  · simp only [S_ref06_SameBitmap_0]
    rw [dec_f (by omega)]
theorem awake {K:Bool→Option Ans}:F_law10_Awake fl K = K true:=rfl
end
end Go.Proofs.YtipdidpalcmlhaaGreat.Tx
namespace Go.Proofs.YtipdidpalcmlhaaGreat.PureTextRenders
open Go Ev Bm Gen Tx
theorem rnd_len {o0 o1 o3 op o5 o7:Int} {tu rf:Bool} {symbols:List Tx.Bmp} {l:List Tx.Item} {W H:Int} (hz:∀ b ∈ symbols,∀ v ∈ b.2.2,0≤v) (hzi:∀ i ∈ l,∀ v ∈ i.2.2.2.2.2.2.2.2,0≤v):(rndE o0 o1 o3 op o5 o7 tu rf symbols l W H).2.2.2.length≤1000000000000000:=by
  unfold rndE
  split
  · rename_i he
    split
    · rename_i hf
      split
      · rename_i hr
        have hp:=rndT_pix (o1:=o1) (op:=op) (tu:=tu) (its_of hz hzi he hr) hf l.length (Nat.le_refl _)
        have:=hp.len
        have:=hp.n
        show (rndT o1 op tu symbols l W H l.length).length≤1000000000000000
        omega
      · exact Nat.zero_le _
    · exact Nat.zero_le _
  · exact Nat.zero_le _
theorem pure_fl {fl:Nat} (hfl:9223372036854775808≤fl) (o0 o1:Int) (tu:Bool) (o3 o4 o5:Int) (rf:Bool) (o7:Int) (symbols:List Tx.Bmp) (l:List Tx.Item) (W H:Int) (K:Bool→Option Ans) (hz:∀ b ∈ symbols,∀ v ∈ b.2.2,0≤v) (hzi:∀ i ∈ l,∀ v ∈ i.2.2.2.2.2.2.2.2,0≤v):
    F_law10_TextRenders fl o0 o1 tu o3 o4 o5 rf o7 symbols l W H K = K true:=by
  unfold F_law10_TextRenders Fg_law10_TextRenders F_law10_long
  by_cases h1:(symbols.length:Int) > 120
  · rw [dec_t h1]
    try dsimp only
    rw [cond_true,awake hfl]
  rw [dec_f h1]
  try dsimp only
  by_cases h2:(l.length:Int) > 600
  · rw [decide_eq_true h2,cond_true,awake hfl]
  rw [decide_eq_false h2,cond_false,tRender hfl (by omega) (by omega) hz hzi]
  try dsimp only
  rw [rRender hfl (by omega) (by omega) hz hzi]
  try dsimp only
  rw [cond_t (by simp),sameB hfl (rnd_len hz hzi)]
  try dsimp only
  rw [cond_true,awake hfl]
theorem wf8 {u:Int} (h:(Lit.int .u8 u).wf = true):0≤u:=by
  simp [Lit.wf,IntKind.min,IntKind.max,IntKind.signed,IntKind.bits] at h
  omega
theorem pure (o0 o1:Int) (tu:Bool) (o3 o4 o5:Int) (rf:Bool) (o7:Int) (symbols:List Tx.Bmp) (l:List Tx.Item) (W H:Int) (K:Bool→Option Ans)
    (g0:given (.pair (.int .i64) (.pair (.int .i64) (.pair .bool (.pair (.int .i64) (.pair (.int .i64) (.pair (.int .i64) (.pair .bool (.int .i64)))))))) (o0,o1,tu,o3,o4,o5,rf,o7))
    (g1:given (.sl (.pair (.int .i64) (.pair (.int .i64) (.sl (.int .u8))))) symbols)
    (g2:given (.sl (.pair (.int .i64) (.pair (.int .i64) (.pair (.int .i64) (.pair .bool (.pair (.int .i64) (.pair (.int .i64) (.pair (.int .i64) (.pair (.int .i64) (.sl (.int .u8))))))))))) l)
    (g3:(Lit.int .i64 W).wf = true) (g4:(Lit.int .i64 H).wf = true):
    F_law10_TextRenders fuel o0 o1 tu o3 o4 o5 rf o7 symbols l W H K = K true:=by
  obtain ⟨_,h1⟩:=g1
  obtain ⟨_,h2⟩:=g2
  refine pure_fl (by rw [fuel_eq]; omega) o0 o1 tu o3 o4 o5 rf o7 symbols l W H K (fun b hb u hu=> ?_) (fun i hi u hu=> ?_)
  · obtain ⟨_,_,_,h3⟩:=h1 b hb
    exact wf8 (h3 u hu)
  · obtain ⟨_,_,_,_,_,_,_,_,_,h3⟩:=h2 i hi
    exact wf8 (h3 u hu)
end Go.Proofs.YtipdidpalcmlhaaGreat.PureTextRenders
