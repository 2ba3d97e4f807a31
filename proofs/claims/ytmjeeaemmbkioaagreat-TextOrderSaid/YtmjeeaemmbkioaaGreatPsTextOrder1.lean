/- Laws of the typed texts that TextOrder reaches, in plain Lean. No condition but what each theorem names. -/
import Derived.Test.YtmjeeaemmbkioaaGreatEvO
import Derived.Test.YtmjeeaemmbkioaaGreatFsTextOrder5
import Derived.Test.YtmjeeaemmbkioaaGreatFsTextOrder1
import Derived.Test.YtmjeeaemmbkioaaGreatFsTextOrder2
import Derived.Test.YtmjeeaemmbkioaaGreatFsTextOrder6
import Derived.Test.YtmjeeaemmbkioaaGreatFsTextOrder3
import Derived.Test.YtmjeeaemmbkioaaGreatEvS
set_option linter.unusedVariables false
set_option linter.unusedSimpArgs false
set_option linter.unusedSectionVars false
namespace Go.Proofs.YtmjeeaemmbkioaaGreat.Ev
open Go
theorem cond_t {α:Sort _} {b:Bool} {x y:α} (h:b = true):(bif b then x else y) = x:=by rw [h]; rfl
theorem cond_f {α:Sort _} {b:Bool} {x y:α} (h:b = false):(bif b then x else y) = y:=by rw [h]; rfl
theorem dec_t {p:Prop} {i:Decidable p} {α:Sort _} {x y:α} (h:p):(bif @decide p i then x else y) = x:=cond_t (decide_eq_true h)
theorem dec_f {p:Prop} {i:Decidable p} {α:Sort _} {x y:α} (h:¬p):(bif @decide p i then x else y) = y:=cond_f (decide_eq_false h)
theorem both_same (x:Option Ans):both x x = x:=by
  unfold both
  cases x with
  | none=>rfl
  | some u=>rfl
theorem fuel_eq:fuel = 18446744073709551616:=rfl
theorem wrap64 {x:Int} (h1: -9223372036854775808≤x) (h2:x≤9223372036854775807):IntKind.i64.wrap x = x:=by
  simp [IntKind.wrap,IntKind.min,IntKind.max,IntKind.signed,IntKind.bits]
  omega
theorem ofInt_toNat {n:Nat} {x:Int} (h0:0≤x) (h:x < 2 ^ n):(BitVec.ofInt n x).toNat = x.toNat:=by
  rw [BitVec.toNat_ofInt]
  rw [Int.emod_eq_of_lt h0 (by exact_mod_cast h)]
theorem iter_to {V B:Type} {step:V→(V→Option Ans)→B→Option Ans} {b:B} {r:Option Ans} (σ:Nat→V) (n:Nat)
    (h:∀ i,i < n→∀ c,step (σ i) c b = c (σ (i + 1))) (hn:∀ c,step (σ n) c b = r) {m:Nat} (hm:n < m):iter step m (σ 0) b = r:=by
  have key:∀ d i m,i + d = n→d < m→iter step m (σ i) b = r:=by
    intro d
    induction d with
    | zero=>
      intro i m hi hm
      obtain ⟨m,rfl⟩:∃ k,m = k + 1:=⟨m - 1,by omega⟩
      have:i = n:=by omega
      subst this
      exact hn _
    | succ d ih=>
      intro i m hi hm
      obtain ⟨m,rfl⟩:∃ k,m = k + 1:=⟨m - 1,by omega⟩
      simp only [iter]
      rw [h i (by omega)]
      exact ih (i + 1) m (by omega) (by omega)
  exact key n 0 m (by omega) hm
theorem iter_seq {V B:Type} {step:V→(V→Option Ans)→B→Option Ans} {b:B} {r:Option Ans} {v:V} {m:Nat} (σ:Nat→V) (n:Nat) (hv:v = σ 0)
    (h:∀ i,i < n→∀ c,step (σ i) c b = c (σ (i + 1))) (hn:∀ c,step (σ n) c b = r) (hm:n < m):iter step m v b = r:=by
  rw [hv]
  exact iter_to σ n h hn hm
theorem take_succ_getD {α:Type} {l:List α} {i:Nat} (h:i < l.length) (d:α):l.take (i + 1) = l.take i++ [l.getD i d]:=by
  rw [List.take_add_one]
  simp [List.getElem?_eq_getElem h]
theorem all_take_succ {α:Type} {l:List α} {i:Nat} (h:i < l.length) (d:α) (p:α→Bool):(l.take (i + 1)).all p = ((l.take i).all p&&p (l.getD i d)):=by
  rw [take_succ_getD h d,List.all_append]; simp
theorem getD_lt {α:Type} {l:List α} {i:Nat} (h:i < l.length) (d:α):l.getD i d = l[i]:=by simp [h]
theorem getD_mem {α:Type} {l:List α} {i:Nat} (h:i < l.length) (d:α):l.getD i d ∈ l:=by rw [getD_lt h]; exact List.getElem_mem h
theorem all_or_first {α:Type} (p:α→Bool) (d:α) (l:List α):l.all p = true∨∃ n,n < l.length∧p (l.getD n d) = false∧∀ i,i < n→p (l.getD i d) = true:=by
  induction l with
  | nil=>exact .inl rfl
  | cons x l ih=>
    cases hx:p x with
    | false=>exact .inr ⟨0,by simp,by simpa using hx,fun i hi=>by omega⟩
    | true=>
      rcases ih with ih | ⟨n,h1,h2,h3⟩
      · left; simp [hx,ih]
      · refine .inr ⟨n + 1,by simpa using h1,by simpa using h2,fun i hi=> ?_⟩
        cases i with
        | zero=>simpa using hx
        | succ i=>simpa using h3 i (by omega)
theorem all_getD {α:Type} {p:α→Bool} {l:List α} (h:l.all p = true) (d:α) {i:Nat} (hi:i < l.length):p (l.getD i d) = true:=
  List.all_eq_true.1 h _ (getD_mem hi d)
theorem not_all {α:Type} {p:α→Bool} {l:List α} {d:α} {n:Nat} (h:n < l.length) (hp:p (l.getD n d) = false):l.all p = false:=by
  rw [List.all_eq_false]
  exact ⟨_,getD_mem h d,by rw [hp]; simp⟩
end Go.Proofs.YtmjeeaemmbkioaaGreat.Ev
namespace Go.Proofs.YtmjeeaemmbkioaaGreat.So
open Go Ev
section
variable {α:Type} (key:α→Int)
def Srt (l:List α):Prop:=l.Pairwise fun x y=>key x≤key y
def Stb (c d:List α):Prop:=c.Perm d∧∀ v:Int,c.filter (fun x=>key x==v) = d.filter (fun x=>key x==v)
end
section
variable {α:Type} {key:α→Int}
theorem Stb.refl (l:List α):Stb key l l:=⟨List.Perm.refl l,fun v=>rfl⟩
theorem Stb.trans {a b c:List α} (h:Stb key a b) (k:Stb key b c):Stb key a c:=⟨h.1.trans k.1,fun v=>(h.2 v).trans (k.2 v)⟩
theorem Stb.symm {a b:List α} (h:Stb key a b):Stb key b a:=⟨h.1.symm,fun v=>(h.2 v).symm⟩
theorem Stb.app {a b c d:List α} (h:Stb key a b) (k:Stb key c d):Stb key (a++c) (b++d):=⟨h.1.append k.1,fun v=>by rw [List.filter_append,List.filter_append,h.2 v,k.2 v]⟩
theorem Stb.len {a b:List α} (h:Stb key a b):a.length = b.length:=h.1.length_eq
theorem Stb.swap {x y:List α} (h:∀ u ∈ x,∀ w ∈ y,key u ≠ key w):Stb key (x++y) (y++x):=by
  refine ⟨List.perm_append_comm,fun v=> ?_⟩
  rw [List.filter_append,List.filter_append]
  by_cases hx:∃ u ∈ x,key u = v
  · obtain ⟨u,hu,rfl⟩:=hx
    have:y.filter (fun z=>key z==key u) = []:=by
      rw [List.filter_eq_nil_iff]
      intro w hw
      have:=h u hu w hw
      simp
      exact fun e=>this e.symm
    rw [this,List.append_nil,List.nil_append]
  · have:x.filter (fun z=>key z==v) = []:=by
      rw [List.filter_eq_nil_iff]
      intro w hw
      simp
      exact fun e=>hx ⟨w,hw,e⟩
    rw [this,List.append_nil,List.nil_append]
theorem srt_app {a b:List α}:Srt key (a++b)↔Srt key a∧Srt key b∧∀ x ∈ a,∀ y ∈ b,key x≤key y:=by
  unfold Srt
  exact List.pairwise_append
theorem srt_single (x:α):Srt key [x]:=List.pairwise_singleton _ _
theorem srt_cons {x:α} {l:List α}:Srt key (x::l)↔(∀ y ∈ l,key x≤key y)∧Srt key l:=List.pairwise_cons
theorem srt_unique:∀ {c d:List α},Srt key c→Srt key d→Stb key c d→c = d
  | [],d,_,_,h=>by
    have:=h.len
    exact (List.eq_nil_of_length_eq_zero (by simpa using this.symm)).symm
  | x::c,[],_,_,h=>by
    have:=h.len
    simp at this
  | x::c,y::d,hc,hd,h=>by
    obtain ⟨h1,h2⟩:=srt_cons.1 hc
    obtain ⟨h3,h4⟩:=srt_cons.1 hd
    have hxy:key x = key y:=by
      have mx:x ∈ y::d:=h.1.mem_iff.1 (by simp)
      have my:y ∈ x::c:=h.1.mem_iff.2 (by simp)
      have a1:key y≤key x:=by
        rcases List.mem_cons.1 mx with rfl | hm
        · exact Int.le_refl _
        · exact h3 x hm
      have a2:key x≤key y:=by
        rcases List.mem_cons.1 my with rfl | hm
        · exact Int.le_refl _
        · exact h1 y hm
      omega
    have e:=h.2 (key x)
    rw [List.filter_cons_of_pos (by simp),List.filter_cons_of_pos (by simp [hxy])] at e
    injection e with e1 e2
    subst e1
    congr 1
    refine srt_unique h2 h4 ⟨h.1.cons_inv,fun v=> ?_⟩
    by_cases hv:key x = v
    · subst hv
      exact e2
    · have:=h.2 v
      rw [List.filter_cons_of_neg (by simpa using hv),List.filter_cons_of_neg (by simpa using hv)] at this
      exact this
theorem srt_get {l:List α} (h:Srt key l) (d:α) {i j:Nat} (hij:i≤j) (hj:j < l.length):key (l.getD i d)≤key (l.getD j d):=by
  rw [getD_lt (by omega),getD_lt hj]
  rcases Nat.lt_or_ge i j with h' | h'
  · exact List.pairwise_iff_getElem.1 h i j (by omega) hj h'
  · have:i = j:=by omega
    subst this
    exact Int.le_refl _
theorem insert_front {a b:List α} {x:α} (ha:Srt key (a++b)) (h1:∀ y ∈ a,key y≤key x) (h2:∀ y ∈ b,key x < key y):Srt key (a++(x::b))∧Stb key (a++(x::b)) ((a++b)++ [x]):=by
  obtain ⟨p1,p2,p3⟩:=srt_app.1 ha
  refine ⟨srt_app.2 ⟨p1,srt_cons.2 ⟨fun y hy=>Int.le_of_lt (h2 y hy),p2⟩,fun y hy z hz=> ?_⟩, ?_⟩
  · rcases List.mem_cons.1 hz with rfl | hz
    · exact h1 y hy
    · exact p3 y hy z hz
  · rw [List.append_assoc]
    refine (Stb.refl a).app ?_
    have:=Stb.swap (key:=key) (x:=[x]) (y:=b) fun u hu w hw=>by
      rw [List.mem_singleton] at hu
      subst hu
      have:=h2 w hw
      omega
    exact this
theorem insert_back {a b:List α} {x:α} (ha:Srt key (a++b)) (h1:∀ y ∈ a,key y < key x) (h2:∀ y ∈ b,key x≤key y):Srt key (a++(x::b))∧Stb key (a++(x::b)) (x::(a++b)):=by
  obtain ⟨p1,p2,p3⟩:=srt_app.1 ha
  refine ⟨srt_app.2 ⟨p1,srt_cons.2 ⟨fun y hy=>h2 y hy,p2⟩,fun y hy z hz=> ?_⟩, ?_⟩
  · rcases List.mem_cons.1 hz with rfl | hz
    · exact Int.le_of_lt (h1 y hy)
    · exact p3 y hy z hz
  · have:=Stb.swap (key:=key) (x:=a) (y:=[x]) fun u hu w hw=>by
      rw [List.mem_singleton] at hw
      subst hw
      have:=h1 u hu
      omega
    have:=this.app (Stb.refl b)
    simpa using this
theorem halves {a1 x y b2:List α} (hA:Srt key (a1++x)) (hB:Srt key (y++b2)) (hxy:∀ u ∈ y,∀ w ∈ x,key u < key w) (hab:∀ u ∈ a1,∀ w ∈ b2,key u≤key w) {c d:List α} (hc:Srt key c) (hd:Srt key d) (sc:Stb key c (a1++y)) (sd:Stb key d (x++b2)):
    Srt key (c++d)∧Stb key (c++d) ((a1++x)++(y++b2)):=by
  obtain ⟨p1,p2,p3⟩:=srt_app.1 hA
  obtain ⟨q1,q2,q3⟩:=srt_app.1 hB
  refine ⟨srt_app.2 ⟨hc,hd,fun u hu w hw=> ?_⟩,(sc.app sd).trans ?_⟩
  · have hu:=sc.1.mem_iff.1 hu
    have hw:=sd.1.mem_iff.1 hw
    rcases List.mem_append.1 hu with hu | hu <;> rcases List.mem_append.1 hw with hw | hw
    · exact p3 u hu w hw
    · exact hab u hu w hw
    · exact Int.le_of_lt (hxy u hu w hw)
    · exact q3 u hu w hw
  · have:Stb key (y++x) (x++y):=Stb.swap fun u hu w hw=>by
      have:=hxy u hu w hw
      omega
    have:=(Stb.refl (key:=key) a1).app (this.app (Stb.refl b2))
    simpa only [List.append_assoc] using this
end
open Go Ev
theorem down {V W:Type} {step:V→(V→Option Ans)→(W→Option Ans)→Option Ans} {st:Nat→V} {fin:Nat→W} {p:Nat→Prop} [∀ t,Decidable (p t)] {n:Nat}
    (hstep:∀ i c b,i + 1≤n→step (st (i + 1)) c b = if p i then c (st i) else b (fin (i + 1))) (h0:∀ c b,step (st 0) c b = b (fin 0)):
    ∀ i,i≤n→∃ r,r≤i∧(∀ t,r≤t→t < i→p t)∧(∀ t,r = t + 1→¬ p t)∧∀ (f:Nat) (b:W→Option Ans),i + 1≤f→iter step f (st i) b = b (fin r)
  | 0,_=>⟨0,Nat.le_refl _,fun t _ h=>by omega,fun t h=>by omega,fun f b hf=>by
      obtain ⟨f,rfl⟩:∃ g,f = g + 1:=⟨f - 1,by omega⟩
      simp only [iter]
      exact h0 _ b⟩
  | i + 1,hi=>by
    by_cases hp:p i
    · obtain ⟨r,r1,r2,r3,r4⟩:=down hstep h0 i (by omega)
      refine ⟨r,by omega,fun t h1 h2=> ?_,r3,fun f b hf=> ?_⟩
      · rcases Nat.lt_or_ge t i with h | h
        · exact r2 t h1 h
        · have:t = i:=by omega
          subst this
          exact hp
      · obtain ⟨f,rfl⟩:∃ g,f = g + 1:=⟨f - 1,by omega⟩
        simp only [iter]
        rw [hstep i _ b hi,if_pos hp]
        exact r4 f b (by omega)
    · refine ⟨i + 1,Nat.le_refl _,fun t h1 h2=>by omega,fun t h=> ?_,fun f b hf=> ?_⟩
      · have:t = i:=by omega
        subst this
        exact hp
      · obtain ⟨f,rfl⟩:∃ g,f = g + 1:=⟨f - 1,by omega⟩
        simp only [iter]
        rw [hstep i _ b hi,if_neg hp]
section
variable {α:Type} {key:α→Int}
theorem ins_at {out:List α} {x d:α} {r:Nat} (hs:Srt key out) (hr:r≤out.length) (h1:∀ t,r≤t→t < out.length→key x < key (out.getD t d)) (h2:∀ t,r = t + 1→¬ key x < key (out.getD t d)):
    Srt key (out.take r++x::out.drop r)∧Stb key (out.take r++x::out.drop r) (out++ [x]):=by
  have e:out.take r++out.drop r = out:=List.take_append_drop r out
  have:=insert_front (key:=key) (a:=out.take r) (b:=out.drop r) (x:=x) (by rw [e]; exact hs) (fun y hy=>by
    obtain ⟨i,hi,rfl⟩:=List.mem_iff_getElem.1 hy
    rw [List.length_take] at hi
    obtain ⟨t,rfl⟩:∃ t,r = t + 1:=⟨r - 1,by omega⟩
    have k:=h2 t rfl
    have m:=srt_get hs d (i:=i) (j:=t) (by omega) (by omega)
    rw [getD_lt (by omega)] at m
    rw [List.getElem_take]
    omega) (fun y hy=>by
    obtain ⟨i,hi,rfl⟩:=List.mem_iff_getElem.1 hy
    rw [List.length_drop] at hi
    have k:=h1 (r + i) (by omega) (by omega)
    rw [getD_lt (by omega)] at k
    rw [List.getElem_drop]
    exact k)
  rw [e] at this
  exact this
theorem srt_same {c d:List α} (hd:Srt key d) (hc:Srt key c) (h:Stb key c d):c = d:=srt_unique hc hd h
end
end Go.Proofs.YtmjeeaemmbkioaaGreat.So
namespace Go.Proofs.YtmjeeaemmbkioaaGreat.Sx
open Go Ev So
theorem half_ok {i j:Nat} (h:i + j≤4000000):IntKind.i64.wrap (ishr .u64 (IntKind.u64.wrap (IntKind.i64.wrap ((i:Int) + (j:Int)))) 1) = (((i + j) / 2:Nat):Int):=by
  rw [w6 (x:=(i:Int) + (j:Int))]
  have e:IntKind.u64.wrap ((i:Int) + (j:Int)) = (i:Int) + (j:Int):=by
    simp [IntKind.wrap,IntKind.min,IntKind.max,IntKind.signed,IntKind.bits]
    omega
  rw [e]
  have e2:ishr .u64 ((i:Int) + (j:Int)) 1 = (((i + j) / 2:Nat):Int):=by
    unfold ishr
    have e3:(2:Int) ^ min (Int.toNat 1) IntKind.u64.bits = 2:=by decide
    rw [e3,Int.fdiv_eq_ediv_of_nonneg _ (by omega)]
    omega
  rw [e2,wrap64 (by omega) (by omega)]
section
variable {α:Type}
theorem get_mid (P Q:List α) (x d:α):(P++x::Q).getD P.length d = x:=by simp
theorem get_mid2 (P M Q:List α) (x y d:α):(P++x::(M++y::Q)).getD (P.length + 1 + M.length) d = y:=by
  have:P++x::(M++y::Q) = (P++x::M)++y::Q:=by simp
  rw [this,show P.length + 1 + M.length = (P++x::M).length by simp; omega]
  exact get_mid _ _ _ _
theorem set_mid (P Q:List α) (x y:α):(P++x::Q).set P.length y = P++y::Q:=by simp
theorem swap_set (P M Q:List α) (x y:α):((P++x::(M++y::Q)).set P.length y).set (P.length + 1 + M.length) x = P++y::(M++x::Q):=by
  rw [set_mid]
  have:P++y::(M++y::Q) = (P++y::M)++y::Q:=by simp
  rw [this,show P.length + 1 + M.length = (P++y::M).length by simp; omega,set_mid]
  simp
theorem swap_set2 (P M Q:List α) (x y:α):((P++x::(M++y::Q)).set (P.length + 1 + M.length) x).set P.length y = P++y::(M++x::Q):=by
  have:P++x::(M++y::Q) = (P++x::M)++y::Q:=by simp
  rw [this,show P.length + 1 + M.length = (P++x::M).length by simp; omega,set_mid]
  rw [show (P++x::M)++x::Q = P++x::(M++x::Q) by simp,set_mid]
theorem two_get (P Q:List α) (x y d:α):(P++x::y::Q).getD (P.length + 1) d = y:=get_mid2 P [] Q x y d
theorem two_set (P Q:List α) (x y:α):((P++x::y::Q).set P.length y).set (P.length + 1) x = P++y::x::Q:=swap_set P [] Q x y
theorem two_set2 (P Q:List α) (x y:α):((P++x::y::Q).set (P.length + 1) x).set P.length y = P++y::x::Q:=swap_set2 P [] Q x y
theorem bs {V W:Type} {step:V→(V→Option Ans)→(W→Option Ans)→Option Ans} {st:Nat→Nat→V} {fin:Nat→W} {p:Nat→Prop} [∀ t,Decidable (p t)] {lo hi:Nat} (hmono:∀ t u,lo≤t→t≤u→u < hi→p u→p t)
    (hstep:∀ i j c b,lo≤i→i < j→j≤hi→step (st i j) c b = if p ((i + j) / 2) then c (st ((i + j) / 2 + 1) j) else c (st i ((i + j) / 2))) (hend:∀ i c b,lo≤i→i≤hi→step (st i i) c b = b (fin i)):
    ∀ (n i j:Nat),j - i≤n→lo≤i→i≤j→j≤hi→(∀ t,lo≤t→t < i→p t)→(∀ t,j≤t→t < hi→¬ p t)→
    ∃ r,i≤r∧r≤j∧(∀ t,lo≤t→t < r→p t)∧(∀ t,r≤t→t < hi→¬ p t)∧∀ (f:Nat) (b:W→Option Ans),n + 1≤f→iter step f (st i j) b = b (fin r):=by
  intro n
  induction n with
  | zero=>
    intro i j hn h1 h2 h3 h4 h5
    have:i = j:=by omega
    subst this
    refine ⟨i,by omega,by omega,h4,h5,fun f b hf=> ?_⟩
    obtain ⟨f,rfl⟩:∃ g,f = g + 1:=⟨f - 1,by omega⟩
    simp only [iter]
    exact hend i _ b h1 h3
  | succ n ih=>
    intro i j hn h1 h2 h3 h4 h5
    by_cases hij:i = j
    · subst hij
      refine ⟨i,by omega,by omega,h4,h5,fun f b hf=> ?_⟩
      obtain ⟨f,rfl⟩:∃ g,f = g + 1:=⟨f - 1,by omega⟩
      simp only [iter]
      exact hend i _ b h1 h3
    · by_cases hp:p ((i + j) / 2)
      · obtain ⟨r,r1,r2,r3,r4,r5⟩:=ih ((i + j) / 2 + 1) j (by omega) (by omega) (by omega) h3 (fun t t1 t2=>hmono t ((i + j) / 2) t1 (by omega) (by omega) hp) h5
        refine ⟨r,by omega,r2,r3,r4,fun f b hf=> ?_⟩
        obtain ⟨f,rfl⟩:∃ g,f = g + 1:=⟨f - 1,by omega⟩
        simp only [iter]
        rw [hstep i j _ b h1 (by omega) h3,if_pos hp]
        exact r5 f b (by omega)
      · obtain ⟨r,r1,r2,r3,r4,r5⟩:=ih i ((i + j) / 2) (by omega) h1 (by omega) (by omega) h4 (fun t t1 t2 hpt=>hp (hmono _ t (by omega) t1 t2 hpt))
        refine ⟨r,r1,by omega,r3,r4,fun f b hf=> ?_⟩
        obtain ⟨f,rfl⟩:∃ g,f = g + 1:=⟨f - 1,by omega⟩
        simp only [iter]
        rw [hstep i j _ b h1 (by omega) h3,if_neg hp]
        exact r5 f b (by omega)
end
section
variable {fl:Nat} {o0:Int} {o1:Int} {o2:Bool} {o3:Int} {o4:Int} {o5:Int} {o6:Bool} {o7:Int}
theorem swap_loop:∀ (X Y P M Q:List (Int×(Int×(Int×(Bool×(Int×(Int×(Int×(Int×(List Int)))))))))) (i a b f:Nat),X.length = Y.length→a + i = P.length→b + i = P.length + X.length + M.length→(P++(X++(M++(Y++Q)))).length≤1000000→X.length + 1≤f→∀ kk,
    iter (S_slices_swapRangeCmpFunc_api_Item_e16_0 fl) f ((a:Int),(b:Int),((i + X.length:Nat):Int),(i:Int),P++(X++(M++(Y++Q))),o0,o1,o2,o3,o4,o5,o6,o7) kk = kk (P++(Y++(M++(X++Q))),o0,o1,o2,o3,o4,o5,o6,o7)
  | [],[],P,M,Q,i,a,b,f,h1,h2,h3,h4,h5,kk=>by
    obtain ⟨f,rfl⟩:∃ g,f = g + 1:=⟨f - 1,by omega⟩
    simp only [iter,S_slices_swapRangeCmpFunc_api_Item_e16_0]
    rw [dec_f (by simp)]
  | x::X,[],P,M,Q,i,a,b,f,h1,h2,h3,h4,h5,kk=>by simp at h1
  | [],y::Y,P,M,Q,i,a,b,f,h1,h2,h3,h4,h5,kk=>by simp at h1
  | x::X,y::Y,P,M,Q,i,a,b,f,h1,h2,h3,h4,h5,kk=>by
    obtain ⟨f,rfl⟩:∃ g,f = g + 1:=⟨f - 1,by simp at h5; omega⟩
    simp only [List.length_cons] at h1 h3 h5
    have hdata:P++((x::X)++(M++((y::Y)++Q))) = P++x::((X++M)++y::(Y++Q)):=by simp
    rw [hdata] at h4 ⊢
    have hlen:=h4
    simp only [List.length_append,List.length_cons] at hlen
    have g1:(P++x::((X++M)++y::(Y++Q))).getD P.length ((0:Int),(0:Int),(0:Int),Bool.false,(0:Int),(0:Int),(0:Int),(0:Int),[]) = x:=get_mid _ _ _ _
    have g2:(P++x::((X++M)++y::(Y++Q))).getD (P.length + 1 + (X++M).length) ((0:Int),(0:Int),(0:Int),Bool.false,(0:Int),(0:Int),(0:Int),(0:Int),[]) = y:=get_mid2 _ _ _ _ _ _
    have g3:=swap_set P (X++M) (Y++Q) x y
    have ha:IntKind.i64.wrap ((a:Int) + (i:Int)) = ((P.length:Nat):Int):=by rw [wrap64 (by omega) (by omega)]; omega
    have hb:IntKind.i64.wrap ((b:Int) + (i:Int)) = ((P.length + 1 + (X++M).length:Nat):Int):=by rw [wrap64 (by omega) (by omega)]; simp only [List.length_append]; omega
    simp only [iter,S_slices_swapRangeCmpFunc_api_Item_e16_0,both_same]
    simp only [ha,hb,Int.toNat_natCast,g1,g2,g3]
    rw [dec_t (by simp only [List.length_cons]; omega),dec_t (by simp only [List.length_append,List.length_cons]; omega),dec_t (by simp only [List.length_append,List.length_cons]; omega),dec_t (by simp only [List.length_append,List.length_cons]; omega),dec_t (by simp only [List.length_set,List.length_append,List.length_cons]; omega),w6 (x:=(i:Int) + 1)]
    have e:=swap_loop X Y (P++ [y]) (M++ [x]) Q (i + 1) a b f (by omega) (by simp; omega) (by simp; omega) (by simp only [List.length_append,List.length_cons,List.length_nil]; omega) (by omega) kk
    rw [show i + 1 + X.length = i + (x::X).length by simp only [List.length_cons]; omega] at e
    have e2:P++y::((X++M)++x::(Y++Q)) = (P++ [y])++(X++((M++ [x])++(Y++Q))):=by simp
    have e3:P++((y::Y)++(M++((x::X)++Q))) = (P++ [y])++(Y++((M++ [x])++(X++Q))):=by simp
    rw [e2,e3]
    exact e
theorem swap_ok (hfl:9223372036854775808≤fl) {X Y P M Q:List (Int×(Int×(Int×(Bool×(Int×(Int×(Int×(Int×(List Int)))))))))} (h1:X.length = Y.length) (h4:(P++(X++(M++(Y++Q)))).length≤1000000) {K}:
    F_slices_swapRangeCmpFunc_api_Item_e16 fl (P.length:Int) ((P.length + X.length + M.length:Nat):Int) (X.length:Int) (P++(X++(M++(Y++Q)))) o0 o1 o2 o3 o4 o5 o6 o7 K = K (P++(Y++(M++(X++Q))),o0,o1,o2,o3,o4,o5,o6,o7):=by
  have hlen:=h4
  simp only [List.length_append] at hlen
  unfold F_slices_swapRangeCmpFunc_api_Item_e16 L_slices_swapRangeCmpFunc_api_Item_e16_0
  have e:=swap_loop (fl:=fl) (o0:=o0) (o1:=o1) (o2:=o2) (o3:=o3) (o4:=o4) (o5:=o5) (o6:=o6) (o7:=o7) X Y P M Q 0 P.length (P.length + X.length + M.length) fl h1 (by omega) (by omega) h4 (by omega) fun v=>match v with | (b0_0,b0_1,b0_2,b0_3,b0_4,b0_5,b0_6,b0_7,b0_8)=>K (b0_0,b0_1,b0_2,b0_3,b0_4,b0_5,b0_6,b0_7,b0_8)
  rw [Nat.zero_add] at e
  exact e
theorem rot_loop (hfl:9223372036854775808≤fl):∀ (n:Nat) (X Y P Q:List (Int×(Int×(Int×(Bool×(Int×(Int×(Int×(Int×(List Int)))))))))),X.length + Y.length≤n→0 < X.length→0 < Y.length→(P++(X++(Y++Q))).length≤1000000→
    ∃ X1 Y1 P1 Q1:List (Int×(Int×(Int×(Bool×(Int×(Int×(Int×(Int×(List Int))))))))),X1.length = Y1.length∧P1.length + X1.length = P.length + X.length∧P1++(Y1++(X1++Q1)) = P++(Y++(X++Q))∧(P1++(X1++(Y1++Q1))).length≤1000000∧
      ∀ f,n + 1≤f→∀ kk,iter (S_slices_rotateCmpFunc_api_Item_e16_0 fl) f (((P.length + X.length:Nat):Int),(X.length:Int),(Y.length:Int),P++(X++(Y++Q)),o0,o1,o2,o3,o4,o5,o6,o7) kk = kk (((P.length + X.length:Nat):Int),(X1.length:Int),P1++(X1++(Y1++Q1)),o0,o1,o2,o3,o4,o5,o6,o7)
  | 0,X,Y,P,Q,h1,h2,h3,h4=>by omega
  | n + 1,X,Y,P,Q,h1,h2,h3,h4=>by
    have hlen:=h4
    simp only [List.length_append] at hlen
    by_cases hxy:X.length = Y.length
    · refine ⟨X,Y,P,Q,hxy,rfl,rfl,h4,fun f hf kk=> ?_⟩
      obtain ⟨f,rfl⟩:∃ g,f = g + 1:=⟨f - 1,by omega⟩
      simp only [iter,S_slices_rotateCmpFunc_api_Item_e16_0,Sg_slices_rotateCmpFunc_api_Item_e16_0]
      rw [cond_f (b:=(X.length:Int) != (Y.length:Int)) (by simp [hxy])]
    by_cases hgt:Y.length < X.length
    · have hX:X = X.take Y.length++X.drop Y.length:=(List.take_append_drop _ _).symm
      generalize hX1:X.take Y.length = X1 at hX
      generalize hX2:X.drop Y.length = X2 at hX
      have l1:X1.length = Y.length:=by rw [← hX1,List.length_take]; omega
      have l2:X2.length = X.length - Y.length:=by rw [← hX2,List.length_drop]
      obtain ⟨A,B,P1,Q1,a1,a2,a3,a4,a5⟩:=rot_loop hfl n X2 X1 (P++Y) Q (by omega) (by omega) (by omega) (by simp only [List.length_append]; omega)
      refine ⟨A,B,P1,Q1,a1,by rw [a2,List.length_append]; omega,by rw [a3,hX]; simp,a4,fun f hf kk=> ?_⟩
      obtain ⟨f,rfl⟩:∃ g,f = g + 1:=⟨f - 1,by omega⟩
      have hs:=fun K=>swap_ok (K:=K) (o0:=o0) (o1:=o1) (o2:=o2) (o3:=o3) (o4:=o4) (o5:=o5) (o6:=o6) (o7:=o7) hfl (X:=X1) (Y:=Y) (P:=P) (M:=X2) (Q:=Q) l1 (by simp only [List.length_append]; omega)
      have hd:P++(X++(Y++Q)) = P++(X1++(X2++(Y++Q))):=by rw [hX]; simp
      have ea:((P.length:Nat):Int) = ((P.length + X.length:Nat):Int) - (X.length:Int):=by omega
      have eb:((P.length + X1.length + X2.length:Nat):Int) = ((P.length + X.length:Nat):Int):=by omega
      simp only [iter,S_slices_rotateCmpFunc_api_Item_e16_0,Sg_slices_rotateCmpFunc_api_Item_e16_0]
      rw [cond_t (b:=(X.length:Int) != (Y.length:Int)) (by simp; omega),dec_t (by omega),w6 (x:=((P.length + X.length:Nat):Int) - (X.length:Int)),w6 (x:=(X.length:Int) - (Y.length:Int)),hd, ← ea]
      rw [eb,l1] at hs
      rw [hs]
      dsimp only
      have e:=a5 f (by omega) kk
      rw [show ((P++Y).length + X2.length:Nat) = P.length + X.length by rw [List.length_append]; omega,show ((X2.length:Nat):Int) = (X.length:Int) - (Y.length:Int) by omega,show (X1.length:Int) = (Y.length:Int) by omega,show (P++Y)++(X2++(X1++Q)) = P++(Y++(X2++(X1++Q))) by simp] at e
      exact e
    · have hY:Y = Y.take (Y.length - X.length)++Y.drop (Y.length - X.length):=(List.take_append_drop _ _).symm
      generalize hY1:Y.take (Y.length - X.length) = Y1 at hY
      generalize hY2:Y.drop (Y.length - X.length) = Y2 at hY
      have l1:Y1.length = Y.length - X.length:=by rw [← hY1,List.length_take]; omega
      have l2:Y2.length = X.length:=by rw [← hY2,List.length_drop]; omega
      obtain ⟨A,B,P1,Q1,a1,a2,a3,a4,a5⟩:=rot_loop hfl n Y2 Y1 P (X++Q) (by omega) (by omega) (by omega) (by simp only [List.length_append]; omega)
      refine ⟨A,B,P1,Q1,a1,by rw [a2]; omega,by rw [a3,hY]; simp,a4,fun f hf kk=> ?_⟩
      obtain ⟨f,rfl⟩:∃ g,f = g + 1:=⟨f - 1,by omega⟩
      have hs:=fun K=>swap_ok (K:=K) (o0:=o0) (o1:=o1) (o2:=o2) (o3:=o3) (o4:=o4) (o5:=o5) (o6:=o6) (o7:=o7) hfl (X:=X) (Y:=Y2) (P:=P) (M:=Y1) (Q:=Q) (by omega) (by simp only [List.length_append]; omega)
      have hd:P++(X++(Y++Q)) = P++(X++(Y1++(Y2++Q))):=by rw [hY]; simp
      have ea:((P.length:Nat):Int) = ((P.length + X.length:Nat):Int) - (X.length:Int):=by omega
      have eb:((P.length + X.length + Y1.length:Nat):Int) = ((P.length + X.length:Nat):Int) + (Y.length:Int) - (X.length:Int):=by omega
      simp only [iter,S_slices_rotateCmpFunc_api_Item_e16_0,Sg_slices_rotateCmpFunc_api_Item_e16_0]
      rw [cond_t (b:=(X.length:Int) != (Y.length:Int)) (by simp; omega),dec_f (by omega),w6 (x:=((P.length + X.length:Nat):Int) - (X.length:Int)),w6 (x:=((P.length + X.length:Nat):Int) + (Y.length:Int)),w6 (x:=((P.length + X.length:Nat):Int) + (Y.length:Int) - (X.length:Int)),w6 (x:=(Y.length:Int) - (X.length:Int)),hd, ← ea]
      rw [eb] at hs
      rw [hs]
      dsimp only
      have e:=a5 f (by omega) kk
      rw [show (P.length + Y2.length:Nat) = P.length + X.length by omega,show ((Y2.length:Nat):Int) = (X.length:Int) by omega,show (Y1.length:Int) = (Y.length:Int) - (X.length:Int) by omega] at e
      exact e
theorem rot_ok (hfl:9223372036854775808≤fl) {X Y P Q:List (Int×(Int×(Int×(Bool×(Int×(Int×(Int×(Int×(List Int)))))))))} (h2:0 < X.length) (h3:0 < Y.length) (h4:(P++(X++(Y++Q))).length≤1000000) {K}:
    F_slices_rotateCmpFunc_api_Item_e16 fl (P.length:Int) ((P.length + X.length:Nat):Int) ((P.length + X.length + Y.length:Nat):Int) (P++(X++(Y++Q))) o0 o1 o2 o3 o4 o5 o6 o7 K = K (P++(Y++(X++Q)),o0,o1,o2,o3,o4,o5,o6,o7):=by
  have hlen:=h4
  simp only [List.length_append] at hlen
  obtain ⟨X1,Y1,P1,Q1,a1,a2,a3,a4,a5⟩:=rot_loop (fl:=fl) (o0:=o0) (o1:=o1) (o2:=o2) (o3:=o3) (o4:=o4) (o5:=o5) (o6:=o6) (o7:=o7) hfl (X.length + Y.length) X Y P Q (Nat.le_refl _) h2 h3 h4
  unfold F_slices_rotateCmpFunc_api_Item_e16 Fg_slices_rotateCmpFunc_api_Item_e16 L_slices_rotateCmpFunc_api_Item_e16_0
  rw [w6 (x:=((P.length + X.length:Nat):Int) - (P.length:Int)),w6 (x:=((P.length + X.length + Y.length:Nat):Int) - ((P.length + X.length:Nat):Int)),show ((P.length + X.length:Nat):Int) - (P.length:Int) = (X.length:Int) by omega,show ((P.length + X.length + Y.length:Nat):Int) - ((P.length + X.length:Nat):Int) = (Y.length:Int) by omega,a5 fl (by omega)]
  dsimp only
  have hlen1:=a4
  simp only [List.length_append] at hlen1
  have hs:=swap_ok (K:=fun v=>match v with | (y0,y1,y2,y3,y4,y5,y6,y7,y8)=>K (y0,y1,y2,y3,y4,y5,y6,y7,y8)) (o0:=o0) (o1:=o1) (o2:=o2) (o3:=o3) (o4:=o4) (o5:=o5) (o6:=o6) (o7:=o7) hfl (X:=X1) (Y:=Y1) (P:=P1) (M:=[]) (Q:=Q1) a1 (by simpa using a4)
  rw [wrap64 (by omega) (by omega),show ((P.length + X.length:Nat):Int) - (X1.length:Int) = ((P1.length:Nat):Int) by omega, ← a2]
  simp only [List.length_nil,Nat.add_zero,List.nil_append] at hs
  rw [a3] at hs
  exact hs
end
open Go Ev So
section
variable {fl:Nat} {o0:Int} {o1:Int} {o2:Bool} {o3:Int} {o4:Int} {o5:Int} {o6:Bool} {o7:Int} {key:(Int×(Int×(Int×(Bool×(Int×(Int×(Int×(Int×(List Int)))))))))→Int} {V:(Int×(Int×(Int×(Bool×(Int×(Int×(Int×(Int×(List Int)))))))))→Prop}
def Cmp (fl:Nat) (o0:Int) (o1:Int) (o2:Bool) (o3:Int) (o4:Int) (o5:Int) (o6:Bool) (o7:Int) (key:(Int×(Int×(Int×(Bool×(Int×(Int×(Int×(Int×(List Int)))))))))→Int) (V:(Int×(Int×(Int×(Bool×(Int×(Int×(Int×(Int×(List Int)))))))))→Prop):Prop:=∀ x y:(Int×(Int×(Int×(Bool×(Int×(Int×(Int×(Int×(List Int))))))))),V x→V y→∃ d:Int,(d < 0↔key x < key y)∧(0 < d↔key y < key x)∧∀ K:Int×Int×Int×Bool×Int×Int×Int×Bool×Int→Option Ans,F_text_Order_1_805 fl x.1 x.2.1 x.2.2.1 x.2.2.2.1 x.2.2.2.2.1 x.2.2.2.2.2.1 x.2.2.2.2.2.2.1 x.2.2.2.2.2.2.2.1 x.2.2.2.2.2.2.2.2 y.1 y.2.1 y.2.2.1 y.2.2.2.1 y.2.2.2.2.1 y.2.2.2.2.2.1 y.2.2.2.2.2.2.1 y.2.2.2.2.2.2.2.1 y.2.2.2.2.2.2.2.2 o0 o1 o2 o3 o4 o5 o6 o7 K = K (d,o0,o1,o2,o3,o4,o5,o6,o7)
theorem ins_loop (hc:Cmp fl o0 o1 o2 o3 o4 o5 o6 o7 key V) {x:(Int×(Int×(Int×(Bool×(Int×(Int×(Int×(Int×(List Int)))))))))} (hx:V x) {P Q:List (Int×(Int×(Int×(Bool×(Int×(Int×(Int×(Int×(List Int)))))))))} {b i:Int}:∀ (n:Nat) (A B:List (Int×(Int×(Int×(Bool×(Int×(Int×(Int×(Int×(List Int)))))))))),A.length = n→Srt key (A++B)→(∀ y ∈ B,key x < key y)→(∀ y ∈ A,V y)→(P++((A++(x::B))++Q)).length≤1000000→
    ∃ C,Srt key C∧Stb key C ((A++B)++ [x])∧∀ (f:Nat) kk,n + 1≤f→iter (S_slices_insertionSortCmpFunc_api_Item_bf0_2 fl) f ((P.length:Int),b,i,((P.length + A.length:Nat):Int),P++((A++(x::B))++Q),o0,o1,o2,o3,o4,o5,o6,o7) kk = kk ((P.length:Int),b,i,P++(C++Q),o0,o1,o2,o3,o4,o5,o6,o7)
  | 0,A,B,h1,h2,h3,h4,h5=>by
    have:A = []:=List.eq_nil_of_length_eq_zero h1
    subst this
    obtain ⟨c1,c2⟩:=insert_front (key:=key) (a:=[]) (b:=B) (x:=x) h2 (by simp) h3
    refine ⟨x::B,c1,c2,fun f kk hf=> ?_⟩
    obtain ⟨f,rfl⟩:∃ g,f = g + 1:=⟨f - 1,by omega⟩
    simp only [iter,S_slices_insertionSortCmpFunc_api_Item_bf0_2,Sg_slices_insertionSortCmpFunc_api_Item_bf0_2]
    rw [dec_f (by simp)]
    rfl
  | n + 1,A,B,h1,h2,h3,h4,h5=>by
    obtain ⟨A',y,rfl⟩:∃ A' y,A = A'++ [y]:=by
      refine ⟨A.dropLast,A.getLast (by intro h; rw [h] at h1; simp at h1), ?_⟩
      exact (List.dropLast_concat_getLast _).symm
    have hy:V y:=h4 y (by simp)
    have hlen:=h5
    simp only [List.length_append,List.length_cons,List.length_nil] at hlen h1
    have hd:P++(((A'++ [y])++(x::B))++Q) = (P++A')++y::x::(B++Q):=by simp
    have lp:(P++A').length = P.length + A'.length:=List.length_append
    have g1:((P++A')++y::x::(B++Q)).getD (P.length + A'.length) ((0:Int),(0:Int),(0:Int),Bool.false,(0:Int),(0:Int),(0:Int),(0:Int),[]) = y:=by rw [← lp]; exact get_mid _ _ _ _
    have g2:((P++A')++y::x::(B++Q)).getD (P.length + A'.length + 1) ((0:Int),(0:Int),(0:Int),Bool.false,(0:Int),(0:Int),(0:Int),(0:Int),[]) = x:=by rw [← lp]; exact two_get _ _ _ _ _
    have g3:(((P++A')++y::x::(B++Q)).set (P.length + A'.length + 1) y).set (P.length + A'.length) x = (P++A')++x::y::(B++Q):=by rw [← lp]; exact two_set2 _ _ _ _
    have ej:((P.length + (A'++ [y]).length:Nat):Int) = ((P.length + A'.length + 1:Nat):Int):=by rw [List.length_append]; simp only [List.length_cons,List.length_nil]; omega
    have ej1:IntKind.i64.wrap (((P.length + A'.length + 1:Nat):Int) - 1) = ((P.length + A'.length:Nat):Int):=by rw [wrap64 (by omega) (by omega)]; omega
    have hstep:∀ c kk,S_slices_insertionSortCmpFunc_api_Item_bf0_2 fl ((P.length:Int),b,i,((P.length + (A'++ [y]).length:Nat):Int),P++(((A'++ [y])++(x::B))++Q),o0,o1,o2,o3,o4,o5,o6,o7) c kk = if key x < key y then c ((P.length:Int),b,i,((P.length + A'.length:Nat):Int),(P++A')++x::y::(B++Q),o0,o1,o2,o3,o4,o5,o6,o7) else kk ((P.length:Int),b,i,P++(((A'++ [y])++(x::B))++Q),o0,o1,o2,o3,o4,o5,o6,o7):=by
      intro c kk
      rw [hd,ej]
      obtain ⟨d,d1,d2,d3⟩:=hc x y hx hy
      simp only [S_slices_insertionSortCmpFunc_api_Item_bf0_2,Sg_slices_insertionSortCmpFunc_api_Item_bf0_2,both_same,ej1,Int.toNat_natCast,g1,g2,g3]
      rw [dec_t (by omega),dec_t (by simp only [List.length_append,List.length_cons]; omega),dec_t (by simp only [List.length_append,List.length_cons]; omega),d3]
      dsimp only
      by_cases hlt:key x < key y
      · rw [if_pos hlt,dec_t (by omega),dec_t (by simp only [List.length_append,List.length_cons]; omega),dec_t (by simp only [List.length_append,List.length_cons]; omega),dec_t (by simp only [List.length_append,List.length_cons]; omega),dec_t (by simp only [List.length_set,List.length_append,List.length_cons]; omega)]
      · rw [if_neg hlt,dec_f (by omega)]
    by_cases hlt:key x < key y
    · have h2':Srt key (A'++(y::B)):=by simpa using h2
      obtain ⟨C,c1,c2,c3⟩:=ins_loop hc hx (P:=P) (Q:=Q) (b:=b) (i:=i) n A' (y::B) (by omega) h2' (fun z hz=>by
        rcases List.mem_cons.1 hz with rfl | hz
        · exact hlt
        · exact h3 z hz) (fun z hz=>h4 z (by simp [hz])) (by simp only [List.length_append,List.length_cons]; omega)
      refine ⟨C,c1,by simpa using c2,fun f kk hf=> ?_⟩
      obtain ⟨f,rfl⟩:∃ g,f = g + 1:=⟨f - 1,by omega⟩
      simp only [iter]
      rw [hstep,if_pos hlt]
      have:=c3 f kk (by omega)
      rw [show P++((A'++(x::y::B))++Q) = (P++A')++x::y::(B++Q) by simp] at this
      exact this
    · obtain ⟨p1,p2,p3⟩:=srt_app.1 h2
      obtain ⟨q1,q2,q3⟩:=srt_app.1 p1
      obtain ⟨c1,c2⟩:=insert_front (key:=key) (a:=A'++ [y]) (b:=B) (x:=x) h2 (fun z hz=>by
        rcases List.mem_append.1 hz with hz | hz
        · have:=q3 z hz y (by simp)
          omega
        · rw [List.mem_singleton] at hz
          subst hz
          omega) h3
      refine ⟨_,c1,c2,fun f kk hf=> ?_⟩
      obtain ⟨f,rfl⟩:∃ g,f = g + 1:=⟨f - 1,by omega⟩
      simp only [iter]
      rw [hstep,if_neg hlt]
theorem isort_loop (hfl:9223372036854775808≤fl) (hc:Cmp fl o0 o1 o2 o3 o4 o5 o6 o7 key V) {P Q:List (Int×(Int×(Int×(Bool×(Int×(Int×(Int×(Int×(List Int)))))))))}:∀ (R C:List (Int×(Int×(Int×(Bool×(Int×(Int×(Int×(Int×(List Int)))))))))),Srt key C→(∀ y ∈ C,V y)→(∀ y ∈ R,V y)→(P++(C++(R++Q))).length≤1000000→
    ∃ D,Srt key D∧Stb key D (C++R)∧∀ (f:Nat) kk,R.length + 1≤f→iter (S_slices_insertionSortCmpFunc_api_Item_bf0_0 fl) f ((P.length:Int),((P.length + C.length + R.length:Nat):Int),((P.length + C.length:Nat):Int),P++(C++(R++Q)),o0,o1,o2,o3,o4,o5,o6,o7) kk = kk (P++(D++Q),o0,o1,o2,o3,o4,o5,o6,o7)
  | [],C,h1,h2,h3,h4=>by
    refine ⟨C,h1,by rw [List.append_nil]; exact Stb.refl _,fun f kk hf=> ?_⟩
    obtain ⟨f,rfl⟩:∃ g,f = g + 1:=⟨f - 1,by omega⟩
    simp only [iter,S_slices_insertionSortCmpFunc_api_Item_bf0_0,Sg_slices_insertionSortCmpFunc_api_Item_bf0_0]
    rw [dec_f (by simp)]
    rfl
  | x::R,C,h1,h2,h3,h4=>by
    have hlen:=h4
    simp only [List.length_append,List.length_cons] at hlen
    obtain ⟨C',c1,c2,c3⟩:=ins_loop hc (h3 x (by simp)) (P:=P) (Q:=R++Q) (b:=((P.length + C.length + (x::R).length:Nat):Int)) (i:=((P.length + C.length:Nat):Int)) C.length C [] rfl (by rw [List.append_nil]; exact h1) (by simp) h2 (by simp only [List.length_append,List.length_cons,List.length_nil]; omega)
    rw [List.append_nil] at c2
    have lc:C'.length = C.length + 1:=by rw [c2.len]; simp
    have hV:∀ y ∈ C',V y:=fun y hy=>by
      rcases List.mem_append.1 (c2.1.mem_iff.1 hy) with hy | hy
      · exact h2 y hy
      · rw [List.mem_singleton] at hy
        subst hy
        exact h3 _ (by simp)
    obtain ⟨D,d1,d2,d3⟩:=isort_loop hfl hc (P:=P) (Q:=Q) R C' c1 hV (fun y hy=>h3 y (by simp [hy])) (by simp only [List.length_append]; omega)
    refine ⟨D,d1,d2.trans ?_,fun f kk hf=> ?_⟩
    · have:=c2.app (Stb.refl R)
      simpa using this
    · obtain ⟨f,rfl⟩:∃ g,f = g + 1:=⟨f - 1,by simp at hf; omega⟩
      simp only [iter,S_slices_insertionSortCmpFunc_api_Item_bf0_0,Sg_slices_insertionSortCmpFunc_api_Item_bf0_0]
      rw [dec_t (by simp only [List.length_cons]; omega)]
      unfold L_slices_insertionSortCmpFunc_api_Item_bf0_2
      have e1:P++(C++((x::R)++Q)) = P++((C++ [x])++(R++Q)):=by simp
      rw [e1,c3 fl _ (by omega)]
      dsimp only
      have:=d3 f kk (by simp at hf; omega)
      rw [w6 (x:=((P.length + C.length:Nat):Int) + 1),show ((P.length + C.length:Nat):Int) + 1 = ((P.length + C'.length:Nat):Int) by omega,show P.length + C.length + (x::R).length = P.length + C'.length + R.length by simp only [List.length_cons]; omega]
      exact this
theorem isort (hfl:9223372036854775808≤fl) (hc:Cmp fl o0 o1 o2 o3 o4 o5 o6 o7 key V) {P A Q:List (Int×(Int×(Int×(Bool×(Int×(Int×(Int×(Int×(List Int)))))))))} (hV:∀ y ∈ A,V y) (hl:(P++(A++Q)).length≤1000000):
    ∃ D,Srt key D∧Stb key D A∧∀ K,F_slices_insertionSortCmpFunc_api_Item_bf0 fl (P.length:Int) ((P.length + A.length:Nat):Int) (P++(A++Q)) o0 o1 o2 o3 o4 o5 o6 o7 K = K (P++(D++Q),o0,o1,o2,o3,o4,o5,o6,o7):=by
  unfold F_slices_insertionSortCmpFunc_api_Item_bf0 Fg_slices_insertionSortCmpFunc_api_Item_bf0 L_slices_insertionSortCmpFunc_api_Item_bf0_0
  have hlen:=hl
  simp only [List.length_append] at hlen
  cases A with
  | nil=>
    refine ⟨[],List.Pairwise.nil,Stb.refl _,fun K=> ?_⟩
    obtain ⟨f,hf⟩:∃ g,fl = g + 1:=⟨fl - 1,by omega⟩
    conv=>lhs; arg 2; rw [hf]
    simp only [iter,S_slices_insertionSortCmpFunc_api_Item_bf0_0,Sg_slices_insertionSortCmpFunc_api_Item_bf0_0]
    rw [wrap64 (by omega) (by omega),dec_f (by simp; omega)]
  | cons x R=>
    obtain ⟨D,d1,d2,d3⟩:=isort_loop hfl hc (P:=P) (Q:=Q) R [x] (srt_single x) (fun y hy=>by rw [List.mem_singleton] at hy; subst hy; exact hV _ (by simp)) (fun y hy=>hV y (by simp [hy])) (by simp only [List.length_append,List.length_cons,List.length_nil] at hlen ⊢; omega)
    refine ⟨D,d1,d2,fun K=> ?_⟩
    simp only [List.length_cons] at hlen ⊢
    rw [w6 (x:=(P.length:Int) + 1)]
    have:=d3 fl (fun v=>match v with | (b0,b1,b2,b3,b4,b5,b6,b7,b8)=>K (b0,b1,b2,b3,b4,b5,b6,b7,b8)) (by omega)
    rw [show ((P.length + [x].length:Nat):Int) = (P.length:Int) + 1 by simp,show P.length + [x].length + R.length = P.length + (R.length + 1) by simp; omega] at this
    exact this
theorem fwd_loop {x:(Int×(Int×(Int×(Bool×(Int×(Int×(Int×(Int×(List Int)))))))))}:∀ (Y:List (Int×(Int×(Int×(Bool×(Int×(Int×(Int×(Int×(List Int)))))))))) (P R:List (Int×(Int×(Int×(Bool×(Int×(Int×(Int×(Int×(List Int)))))))))) (e f:Nat),e = P.length + Y.length + 1→(P++x::(Y++R)).length≤1000000→Y.length + 1≤f→∀ kk,iter (S_slices_symMergeCmpFunc_api_Item_e16_2 fl) f ((e:Int),(P.length:Int),P++x::(Y++R),o0,o1,o2,o3,o4,o5,o6,o7) kk = kk (P++(Y++x::R),o0,o1,o2,o3,o4,o5,o6,o7)
  | [],P,R,e,f,h1,h2,h3,kk=>by
    obtain ⟨f,rfl⟩:∃ g,f = g + 1:=⟨f - 1,by omega⟩
    simp only [List.length_append,List.length_cons,List.length_nil] at h1 h2
    simp only [iter,S_slices_symMergeCmpFunc_api_Item_e16_2]
    rw [wrap64 (by omega) (by omega),dec_f (by omega)]
    rfl
  | y::Y,P,R,e,f,h1,h2,h3,kk=>by
    obtain ⟨f,rfl⟩:∃ g,f = g + 1:=⟨f - 1,by omega⟩
    have hlen:=h2
    simp only [List.length_append,List.length_cons] at hlen h1 h3
    have hd:P++x::((y::Y)++R) = P++x::y::(Y++R):=by simp
    have g1:(P++x::y::(Y++R)).getD P.length ((0:Int),(0:Int),(0:Int),Bool.false,(0:Int),(0:Int),(0:Int),(0:Int),[]) = x:=get_mid _ _ _ _
    have g2:(P++x::y::(Y++R)).getD (P.length + 1) ((0:Int),(0:Int),(0:Int),Bool.false,(0:Int),(0:Int),(0:Int),(0:Int),[]) = y:=two_get _ _ _ _ _
    have g3:((P++x::y::(Y++R)).set P.length y).set (P.length + 1) x = P++y::x::(Y++R):=two_set _ _ _ _
    have e1:IntKind.i64.wrap ((P.length:Int) + 1) = ((P.length + 1:Nat):Int):=by rw [wrap64 (by omega) (by omega)]; omega
    rw [hd]
    simp only [iter,S_slices_symMergeCmpFunc_api_Item_e16_2,both_same,e1,Int.toNat_natCast,g1,g2,g3]
    rw [w6 (x:=(e:Int) - 1),dec_t (by omega),dec_t (by simp only [List.length_append,List.length_cons]; omega),dec_t (by simp only [List.length_append,List.length_cons]; omega),dec_t (by simp only [List.length_append,List.length_cons]; omega),dec_t (by simp only [List.length_set,List.length_append,List.length_cons]; omega)]
    have:=fwd_loop (x:=x) Y (P++ [y]) R e f (by simp; omega) (by simp only [List.length_append,List.length_cons,List.length_nil]; omega) (by omega) kk
    rw [show ((P++ [y]).length:Nat) = P.length + 1 by simp] at this
    simpa using this
theorem bwd_loop {x:(Int×(Int×(Int×(Bool×(Int×(Int×(Int×(Int×(List Int)))))))))}:∀ (n:Nat) (Z P R:List (Int×(Int×(Int×(Bool×(Int×(Int×(Int×(Int×(List Int)))))))))) (f:Nat),Z.length = n→(P++(Z++x::R)).length≤1000000→n + 1≤f→∀ kk,iter (S_slices_symMergeCmpFunc_api_Item_e16_6 fl) f ((P.length:Int),((P.length + Z.length:Nat):Int),P++(Z++x::R),o0,o1,o2,o3,o4,o5,o6,o7) kk = kk (P++(x::(Z++R)),o0,o1,o2,o3,o4,o5,o6,o7)
  | 0,Z,P,R,f,h1,h2,h3,kk=>by
    have:Z = []:=List.eq_nil_of_length_eq_zero h1
    subst this
    obtain ⟨f,rfl⟩:∃ g,f = g + 1:=⟨f - 1,by omega⟩
    simp only [iter,S_slices_symMergeCmpFunc_api_Item_e16_6]
    rw [dec_f (by simp)]
    rfl
  | n + 1,Z,P,R,f,h1,h2,h3,kk=>by
    obtain ⟨Z',y,rfl⟩:∃ A' y,Z = A'++ [y]:=by
      refine ⟨Z.dropLast,Z.getLast (by intro h; rw [h] at h1; simp at h1), ?_⟩
      exact (List.dropLast_concat_getLast _).symm
    obtain ⟨f,rfl⟩:∃ g,f = g + 1:=⟨f - 1,by omega⟩
    have hlen:=h2
    simp only [List.length_append,List.length_cons,List.length_nil] at hlen h1
    have hd:P++((Z'++ [y])++x::R) = (P++Z')++y::x::R:=by simp
    have lp:(P++Z').length = P.length + Z'.length:=List.length_append
    have g1:((P++Z')++y::x::R).getD (P.length + Z'.length) ((0:Int),(0:Int),(0:Int),Bool.false,(0:Int),(0:Int),(0:Int),(0:Int),[]) = y:=by rw [← lp]; exact get_mid _ _ _ _
    have g2:((P++Z')++y::x::R).getD (P.length + Z'.length + 1) ((0:Int),(0:Int),(0:Int),Bool.false,(0:Int),(0:Int),(0:Int),(0:Int),[]) = x:=by rw [← lp]; exact two_get _ _ _ _ _
    have g3:(((P++Z')++y::x::R).set (P.length + Z'.length + 1) y).set (P.length + Z'.length) x = (P++Z')++x::y::R:=by rw [← lp]; exact two_set2 _ _ _ _
    have ej:((P.length + (Z'++ [y]).length:Nat):Int) = ((P.length + Z'.length + 1:Nat):Int):=by rw [List.length_append]; simp only [List.length_cons,List.length_nil]; omega
    have ej1:IntKind.i64.wrap (((P.length + Z'.length + 1:Nat):Int) - 1) = ((P.length + Z'.length:Nat):Int):=by rw [wrap64 (by omega) (by omega)]; omega
    rw [hd,ej]
    simp only [iter,S_slices_symMergeCmpFunc_api_Item_e16_6,both_same,ej1,Int.toNat_natCast,g1,g2,g3]
    rw [dec_t (by omega),dec_t (by simp only [List.length_append,List.length_cons]; omega),dec_t (by simp only [List.length_append,List.length_cons]; omega),dec_t (by simp only [List.length_append,List.length_cons]; omega),dec_t (by simp only [List.length_set,List.length_append,List.length_cons]; omega)]
    have:=bwd_loop (x:=x) n Z' P (y::R) f (by omega) (by simp only [List.length_append,List.length_cons]; omega) (by omega) kk
    rw [show P++(Z'++x::y::R) = (P++Z')++x::y::R by simp] at this
    rw [this]
    simp
end
open Go Ev So
theorem app_get {α:Type} {A B:List α} {i:Nat} (d:α):(A++B).getD i d = if i < A.length then A.getD i d else B.getD (i - A.length) d:=by
  split
  · rw [getD_lt (by simp; omega),getD_lt (by assumption),List.getElem_append_left]
  · rename_i h
    by_cases h2:i - A.length < B.length
    · rw [getD_lt (by simp; omega),getD_lt h2,List.getElem_append_right (by omega)]
    · rw [List.getD_eq_getElem?_getD,List.getD_eq_getElem?_getD,List.getElem?_eq_none (by simp; omega),List.getElem?_eq_none (by omega)]
theorem getD_memD {α:Type} {l:List α} {i:Nat} (h:i < l.length) (d:α):l.getD i d ∈ l:=getD_mem h d
theorem mem_getD {α:Type} {l:List α} {x:α} (d:α) (h:x ∈ l):∃ i,i < l.length∧l.getD i d = x:=by
  obtain ⟨i,hi,e⟩:=List.mem_iff_getElem.1 h
  exact ⟨i,hi,by rw [getD_lt hi,e]⟩
theorem take_getD {α:Type} {l:List α} {n i:Nat} (h:i < n) (d:α):(l.take n).getD i d = l.getD i d:=by
  rw [List.getD_eq_getElem?_getD,List.getD_eq_getElem?_getD,List.getElem?_take,if_pos h]
theorem drop_getD {α:Type} {l:List α} {n i:Nat} (d:α):(l.drop n).getD i d = l.getD (n + i) d:=by
  rw [List.getD_eq_getElem?_getD,List.getD_eq_getElem?_getD,List.getElem?_drop]
section
variable {fl:Nat} {o0:Int} {o1:Int} {o2:Bool} {o3:Int} {o4:Int} {o5:Int} {o6:Bool} {o7:Int} {key:(Int×(Int×(Int×(Bool×(Int×(Int×(Int×(Int×(List Int)))))))))→Int} {V:(Int×(Int×(Int×(Bool×(Int×(Int×(Int×(Int×(List Int)))))))))→Prop}
def MergeOk (fl:Nat) (o0:Int) (o1:Int) (o2:Bool) (o3:Int) (o4:Int) (o5:Int) (o6:Bool) (o7:Int) (key:(Int×(Int×(Int×(Bool×(Int×(Int×(Int×(Int×(List Int)))))))))→Int) (V:(Int×(Int×(Int×(Bool×(Int×(Int×(Int×(Int×(List Int)))))))))→Prop) (F:(Int→Int→Int→List (Int×(Int×(Int×(Bool×(Int×(Int×(Int×(Int×(List Int)))))))))→Int→Int→Bool→Int→Int→Int→Bool→Int→(List (Int×(Int×(Int×(Bool×(Int×(Int×(Int×(Int×(List Int)))))))))×Int×Int×Bool×Int×Int×Int×Bool×Int→Option Ans)→Option Ans)) (n:Nat):Prop:=∀ (P A B Q:List (Int×(Int×(Int×(Bool×(Int×(Int×(Int×(Int×(List Int)))))))))),0 < A.length→0 < B.length→A.length + B.length≤n→Srt key A→Srt key B→(∀ y ∈ A,V y)→(∀ y ∈ B,V y)→(P++(A++(B++Q))).length≤1000000→
  ∃ C,Srt key C∧Stb key C (A++B)∧∀ K,F (P.length:Int) ((P.length + A.length:Nat):Int) ((P.length + A.length + B.length:Nat):Int) (P++(A++(B++Q))) o0 o1 o2 o3 o4 o5 o6 o7 K = K (P++(C++Q),o0,o1,o2,o3,o4,o5,o6,o7)
theorem merge_if {F:(Int→Int→Int→List (Int×(Int×(Int×(Bool×(Int×(Int×(Int×(Int×(List Int)))))))))→Int→Int→Bool→Int→Int→Int→Bool→Int→(List (Int×(Int×(Int×(Bool×(Int×(Int×(Int×(Int×(List Int)))))))))×Int×Int×Bool×Int×Int×Int×Bool×Int→Option Ans)→Option Ans)} {n:Nat} (hF:MergeOk fl o0 o1 o2 o3 o4 o5 o6 o7 key V F n) {P A B Q:List (Int×(Int×(Int×(Bool×(Int×(Int×(Int×(Int×(List Int)))))))))} (hn:A.length + B.length≤n) (hA:Srt key A) (hB:Srt key B) (vA:∀ y ∈ A,V y) (vB:∀ y ∈ B,V y) (hl:(P++(A++(B++Q))).length≤1000000):
    ∃ C,Srt key C∧Stb key C (A++B)∧∀ K:List (Int×(Int×(Int×(Bool×(Int×(Int×(Int×(Int×(List Int)))))))))×Int×Int×Bool×Int×Int×Int×Bool×Int→Option Ans,(if 0 < A.length∧0 < B.length then F (P.length:Int) ((P.length + A.length:Nat):Int) ((P.length + A.length + B.length:Nat):Int) (P++(A++(B++Q))) o0 o1 o2 o3 o4 o5 o6 o7 K else K (P++(A++(B++Q)),o0,o1,o2,o3,o4,o5,o6,o7)) = K (P++(C++Q),o0,o1,o2,o3,o4,o5,o6,o7):=by
  by_cases h:0 < A.length∧0 < B.length
  · obtain ⟨C,c1,c2,c3⟩:=hF P A B Q h.1 h.2 hn hA hB vA vB hl
    exact ⟨C,c1,c2,fun K=>by rw [if_pos h]; exact c3 K⟩
  · refine ⟨A++B, ?_,Stb.refl _,fun K=>by rw [if_neg h,List.append_assoc]⟩
    rcases Nat.eq_zero_or_pos A.length with h0 | h0
    · have:A = []:=List.eq_nil_of_length_eq_zero h0
      subst this
      exact hB
    · have:B = []:=List.eq_nil_of_length_eq_zero (by omega)
      subst this
      rw [List.append_nil]
      exact hA
theorem one_left (hfl:9223372036854775808≤fl) (hc:Cmp fl o0 o1 o2 o3 o4 o5 o6 o7 key V) {x:(Int×(Int×(Int×(Bool×(Int×(Int×(Int×(Int×(List Int)))))))))} (hx:V x) {P B Q:List (Int×(Int×(Int×(Bool×(Int×(Int×(Int×(Int×(List Int)))))))))} (hB:Srt key B) (vB:∀ y ∈ B,V y) (hl:(P++(x::(B++Q))).length≤1000000) {F:(Int→Int→Int→List (Int×(Int×(Int×(Bool×(Int×(Int×(Int×(Int×(List Int)))))))))→Int→Int→Bool→Int→Int→Int→Bool→Int→(List (Int×(Int×(Int×(Bool×(Int×(Int×(Int×(Int×(List Int)))))))))×Int×Int×Bool×Int×Int×Int×Bool×Int→Option Ans)→Option Ans)}:
    ∃ C,Srt key C∧Stb key C ([x]++B)∧∀ K,Fb_slices_symMergeCmpFunc_api_Item_e16 F fl (P.length:Int) ((P.length + 1:Nat):Int) ((P.length + 1 + B.length:Nat):Int) (P++(x::(B++Q))) o0 o1 o2 o3 o4 o5 o6 o7 K = K (P++(C++Q),o0,o1,o2,o3,o4,o5,o6,o7):=by
  have hlen:=hl
  simp only [List.length_append,List.length_cons] at hlen
  have gx:(P++(x::(B++Q))).getD P.length ((0:Int),(0:Int),(0:Int),Bool.false,(0:Int),(0:Int),(0:Int),(0:Int),[]) = x:=get_mid _ _ _ _
  have gb:∀ t,P.length + 1≤t→t < P.length + 1 + B.length→(P++(x::(B++Q))).getD t ((0:Int),(0:Int),(0:Int),Bool.false,(0:Int),(0:Int),(0:Int),(0:Int),[]) = B.getD (t - (P.length + 1)) ((0:Int),(0:Int),(0:Int),Bool.false,(0:Int),(0:Int),(0:Int),(0:Int),[]):=fun t h1 h2=>by
    have:P++(x::(B++Q)) = (P++ [x])++(B++Q):=by simp
    rw [this,app_get,if_neg (by simp; omega),app_get,if_pos (by simp; omega)]
    simp
  have lp:P.length + 1 = (P++ [x]).length:=by simp
  obtain ⟨r,r1,r2,r3,r4,r5⟩:=bs (step:=S_slices_symMergeCmpFunc_api_Item_e16_0 fl) (st:=fun i j=>((P.length:Int),(i:Int),(j:Int),P++(x::(B++Q)),o0,o1,o2,o3,o4,o5,o6,o7)) (fin:=fun r=>((P.length:Int),(r:Int),P++(x::(B++Q)),o0,o1,o2,o3,o4,o5,o6,o7)) (p:=fun t=>key (B.getD (t - (P.length + 1)) ((0:Int),(0:Int),(0:Int),Bool.false,(0:Int),(0:Int),(0:Int),(0:Int),[])) < key x) (lo:=P.length + 1) (hi:=P.length + 1 + B.length)
    (fun t u h1 h2 h3 hp=>by
      have:=srt_get hB ((0:Int),(0:Int),(0:Int),Bool.false,(0:Int),(0:Int),(0:Int),(0:Int),[]) (i:=t - (P.length + 1)) (j:=u - (P.length + 1)) (by omega) (by omega)
      omega)
    (fun i j c b h1 h2 h3=>by
      have hh:=half_ok (i:=i) (j:=j) (by omega)
      have hm:(i + j) / 2 < P.length + 1 + B.length:=by omega
      have hm2:P.length + 1≤(i + j) / 2:=by omega
      have vm:V (B.getD ((i + j) / 2 - (P.length + 1)) ((0:Int),(0:Int),(0:Int),Bool.false,(0:Int),(0:Int),(0:Int),(0:Int),[])):=vB _ (getD_memD (by omega) ((0:Int),(0:Int),(0:Int),Bool.false,(0:Int),(0:Int),(0:Int),(0:Int),[]))
      have hg:=gb ((i + j) / 2) hm2 hm
      obtain ⟨d,d1,d2,d3⟩:=hc _ _ vm hx
      simp only [S_slices_symMergeCmpFunc_api_Item_e16_0,both_same,hh,Int.toNat_natCast,gx,hg]
      rw [dec_t (by omega),dec_t (by simp only [List.length_append,List.length_cons]; omega),dec_t (by simp only [List.length_append,List.length_cons]; omega),d3]
      dsimp only
      by_cases hlt:key (B.getD ((i + j) / 2 - (P.length + 1)) ((0:Int),(0:Int),(0:Int),Bool.false,(0:Int),(0:Int),(0:Int),(0:Int),[])) < key x
      · rw [if_pos hlt,dec_t (by omega),wrap64 (by omega) (by omega)]
        rfl
      · rw [if_neg hlt,dec_f (by omega)])
    (fun i c b h1 h2=>by
      simp only [S_slices_symMergeCmpFunc_api_Item_e16_0]
      rw [dec_f (by omega)])
    B.length (P.length + 1) (P.length + 1 + B.length) (by omega) (by omega) (by omega) (by omega) (by omega) (by omega)
  have hsp:B = B.take (r - (P.length + 1))++B.drop (r - (P.length + 1)):=(List.take_append_drop _ _).symm
  generalize hB1:B.take (r - (P.length + 1)) = B1 at hsp
  generalize hB2:B.drop (r - (P.length + 1)) = B2 at hsp
  have l1:B1.length = r - (P.length + 1):=by rw [← hB1,List.length_take]; omega
  obtain ⟨c1,c2⟩:=insert_back (key:=key) (a:=B1) (b:=B2) (x:=x) (by rw [← hsp]; exact hB) (fun y hy=>by
    obtain ⟨i,hi,rfl⟩:=mem_getD ((0:Int),(0:Int),(0:Int),Bool.false,(0:Int),(0:Int),(0:Int),(0:Int),[]) hy
    have:=r3 (P.length + 1 + i) (by omega) (by omega)
    rw [← hB1,take_getD (by omega)]
    simpa [show P.length + 1 + i - (P.length + 1) = i by omega] using this) (fun y hy=>by
    obtain ⟨i,hi,rfl⟩:=mem_getD ((0:Int),(0:Int),(0:Int),Bool.false,(0:Int),(0:Int),(0:Int),(0:Int),[]) hy
    have hl2:B2.length = B.length - (r - (P.length + 1)):=by rw [← hB2,List.length_drop]
    have:=r4 (r + i) (by omega) (by omega)
    rw [← hB2,drop_getD]
    rw [show r + i - (P.length + 1) = r - (P.length + 1) + i by omega] at this
    omega)
  refine ⟨B1++(x::B2),c1,by rw [hsp]; exact c2,fun K=> ?_⟩
  unfold Fb_slices_symMergeCmpFunc_api_Item_e16 L_slices_symMergeCmpFunc_api_Item_e16_0
  rw [w6 (x:=((P.length + 1:Nat):Int) - (P.length:Int)),cond_t (by simp; omega)]
  have hr:=r5 fl (fun v=>match v with | (b0_0,b0_1,b0_2,b0_3,b0_4,b0_5,b0_6,b0_7,b0_8,b0_9,b0_10)=>(L_slices_symMergeCmpFunc_api_Item_e16_2 fl (b0_1,b0_0,b0_2,b0_3,b0_4,b0_5,b0_6,b0_7,b0_8,b0_9,b0_10) (fun (b2_0,b2_1,b2_2,b2_3,b2_4,b2_5,b2_6,b2_7,b2_8)=>K (b2_0,b2_1,b2_2,b2_3,b2_4,b2_5,b2_6,b2_7,b2_8)))) (by omega)
  refine Eq.trans hr ?_
  dsimp only
  unfold L_slices_symMergeCmpFunc_api_Item_e16_2
  have e1:P++(x::(B++Q)) = P++x::(B1++(B2++Q)):=by rw [hsp]; simp
  rw [e1,fwd_loop B1 P (B2++Q) r fl (by omega) (by rw [← e1]; exact hl) (by omega)]
  simp
theorem one_right (hfl:9223372036854775808≤fl) (hc:Cmp fl o0 o1 o2 o3 o4 o5 o6 o7 key V) {x:(Int×(Int×(Int×(Bool×(Int×(Int×(Int×(Int×(List Int)))))))))} (hx:V x) {P A Q:List (Int×(Int×(Int×(Bool×(Int×(Int×(Int×(Int×(List Int)))))))))} (hA1:2≤A.length) (hA:Srt key A) (vA:∀ y ∈ A,V y) (hl:(P++(A++(x::Q))).length≤1000000) {F:(Int→Int→Int→List (Int×(Int×(Int×(Bool×(Int×(Int×(Int×(Int×(List Int)))))))))→Int→Int→Bool→Int→Int→Int→Bool→Int→(List (Int×(Int×(Int×(Bool×(Int×(Int×(Int×(Int×(List Int)))))))))×Int×Int×Bool×Int×Int×Int×Bool×Int→Option Ans)→Option Ans)}:
    ∃ C,Srt key C∧Stb key C (A++ [x])∧∀ K,Fb_slices_symMergeCmpFunc_api_Item_e16 F fl (P.length:Int) ((P.length + A.length:Nat):Int) ((P.length + A.length + 1:Nat):Int) (P++(A++(x::Q))) o0 o1 o2 o3 o4 o5 o6 o7 K = K (P++(C++Q),o0,o1,o2,o3,o4,o5,o6,o7):=by
  have hlen:=hl
  simp only [List.length_append,List.length_cons] at hlen
  have gx:(P++(A++(x::Q))).getD (P.length + A.length) ((0:Int),(0:Int),(0:Int),Bool.false,(0:Int),(0:Int),(0:Int),(0:Int),[]) = x:=by
    have:P++(A++(x::Q)) = (P++A)++x::Q:=by simp
    rw [this,show P.length + A.length = (P++A).length by simp]
    exact get_mid _ _ _ _
  have ga:∀ t,P.length≤t→t < P.length + A.length→(P++(A++(x::Q))).getD t ((0:Int),(0:Int),(0:Int),Bool.false,(0:Int),(0:Int),(0:Int),(0:Int),[]) = A.getD (t - P.length) ((0:Int),(0:Int),(0:Int),Bool.false,(0:Int),(0:Int),(0:Int),(0:Int),[]):=fun t h1 h2=>by
    rw [app_get,if_neg (by omega),app_get,if_pos (by omega)]
  obtain ⟨r,r1,r2,r3,r4,r5⟩:=bs (step:=S_slices_symMergeCmpFunc_api_Item_e16_4 fl) (st:=fun i j=>(((P.length + A.length:Nat):Int),(i:Int),(j:Int),P++(A++(x::Q)),o0,o1,o2,o3,o4,o5,o6,o7)) (fin:=fun r=>(((P.length + A.length:Nat):Int),(r:Int),P++(A++(x::Q)),o0,o1,o2,o3,o4,o5,o6,o7)) (p:=fun t=>key (A.getD (t - P.length) ((0:Int),(0:Int),(0:Int),Bool.false,(0:Int),(0:Int),(0:Int),(0:Int),[]))≤key x) (lo:=P.length) (hi:=P.length + A.length)
    (fun t u h1 h2 h3 hp=>by
      have:=srt_get hA ((0:Int),(0:Int),(0:Int),Bool.false,(0:Int),(0:Int),(0:Int),(0:Int),[]) (i:=t - P.length) (j:=u - P.length) (by omega) (by omega)
      omega)
    (fun i j c b h1 h2 h3=>by
      have hh:=half_ok (i:=i) (j:=j) (by omega)
      have hm:(i + j) / 2 < P.length + A.length:=by omega
      have hm2:P.length≤(i + j) / 2:=by omega
      have vm:V (A.getD ((i + j) / 2 - P.length) ((0:Int),(0:Int),(0:Int),Bool.false,(0:Int),(0:Int),(0:Int),(0:Int),[])):=vA _ (getD_memD (by omega) ((0:Int),(0:Int),(0:Int),Bool.false,(0:Int),(0:Int),(0:Int),(0:Int),[]))
      have hg:=ga ((i + j) / 2) hm2 hm
      obtain ⟨d,d1,d2,d3⟩:=hc _ _ hx vm
      simp only [S_slices_symMergeCmpFunc_api_Item_e16_4,both_same,hh,Int.toNat_natCast,gx,hg]
      rw [dec_t (by omega),dec_t (by simp only [List.length_append,List.length_cons]; omega),dec_t (by simp only [List.length_append,List.length_cons]; omega),d3]
      dsimp only
      by_cases hlt:key (A.getD ((i + j) / 2 - P.length) ((0:Int),(0:Int),(0:Int),Bool.false,(0:Int),(0:Int),(0:Int),(0:Int),[]))≤key x
      · rw [if_pos hlt,decide_eq_false (by omega),cond_t (b:=!false) rfl,wrap64 (by omega) (by omega)]
        rfl
      · rw [if_neg hlt,decide_eq_true (by omega),cond_f (b:=!true) rfl])
    (fun i c b h1 h2=>by
      simp only [S_slices_symMergeCmpFunc_api_Item_e16_4]
      rw [dec_f (by omega)])
    A.length P.length (P.length + A.length) (by omega) (by omega) (by omega) (by omega) (by omega) (by omega)
  have hsp:A = A.take (r - P.length)++A.drop (r - P.length):=(List.take_append_drop _ _).symm
  generalize hA1':A.take (r - P.length) = A1 at hsp
  generalize hA2':A.drop (r - P.length) = A2 at hsp
  have l1:A1.length = r - P.length:=by rw [← hA1',List.length_take]; omega
  have l2:A2.length = A.length - (r - P.length):=by rw [← hA2',List.length_drop]
  obtain ⟨c1,c2⟩:=insert_front (key:=key) (a:=A1) (b:=A2) (x:=x) (by rw [← hsp]; exact hA) (fun y hy=>by
    obtain ⟨i,hi,rfl⟩:=mem_getD ((0:Int),(0:Int),(0:Int),Bool.false,(0:Int),(0:Int),(0:Int),(0:Int),[]) hy
    have:=r3 (P.length + i) (by omega) (by omega)
    rw [← hA1',take_getD (by omega)]
    simpa [show P.length + i - P.length = i by omega] using this) (fun y hy=>by
    obtain ⟨i,hi,rfl⟩:=mem_getD ((0:Int),(0:Int),(0:Int),Bool.false,(0:Int),(0:Int),(0:Int),(0:Int),[]) hy
    have:=r4 (r + i) (by omega) (by omega)
    rw [← hA2',drop_getD]
    rw [show r + i - P.length = r - P.length + i by omega] at this
    omega)
  refine ⟨A1++(x::A2),c1,by rw [hsp]; exact c2,fun K=> ?_⟩
  unfold Fb_slices_symMergeCmpFunc_api_Item_e16 L_slices_symMergeCmpFunc_api_Item_e16_4
  rw [w6 (x:=((P.length + A.length:Nat):Int) - (P.length:Int)),cond_f (by simp; omega),w6 (x:=((P.length + A.length + 1:Nat):Int) - ((P.length + A.length:Nat):Int)),cond_t (by simp; omega)]
  have hr:=r5 fl (fun v=>match v with | (b4_0,b4_1,b4_2,b4_3,b4_4,b4_5,b4_6,b4_7,b4_8,b4_9,b4_10)=>(L_slices_symMergeCmpFunc_api_Item_e16_6 fl (b4_1,b4_0,b4_2,b4_3,b4_4,b4_5,b4_6,b4_7,b4_8,b4_9,b4_10) (fun (b6_0,b6_1,b6_2,b6_3,b6_4,b6_5,b6_6,b6_7,b6_8)=>K (b6_0,b6_1,b6_2,b6_3,b6_4,b6_5,b6_6,b6_7,b6_8)))) (by omega)
  refine Eq.trans hr ?_
  dsimp only
  unfold L_slices_symMergeCmpFunc_api_Item_e16_6
  have e1:P++(A++(x::Q)) = (P++A1)++(A2++x::Q):=by rw [hsp]; simp
  have hb:=bwd_loop (fl:=fl) (o0:=o0) (o1:=o1) (o2:=o2) (o3:=o3) (o4:=o4) (o5:=o5) (o6:=o6) (o7:=o7) (x:=x) A2.length A2 (P++A1) Q fl rfl (by rw [← e1]; exact hl) (by omega) (fun v=>match v with | (b6_0,b6_1,b6_2,b6_3,b6_4,b6_5,b6_6,b6_7,b6_8)=>K (b6_0,b6_1,b6_2,b6_3,b6_4,b6_5,b6_6,b6_7,b6_8))
  have lp:(P++A1).length = r:=by rw [List.length_append]; omega
  rw [lp,show r + A2.length = P.length + A.length by omega] at hb
  rw [e1]
  refine Eq.trans hb ?_
  simp
end
open Go Ev So
theorem cdi {p:Prop} [Decidable p] {α:Sort _} {x y:α}:(bif decide p then x else y) = if p then x else y:=by
  by_cases h:p
  · rw [if_pos h,decide_eq_true h]; rfl
  · rw [if_neg h,decide_eq_false h]; rfl
section
variable {fl:Nat} {o0:Int} {o1:Int} {o2:Bool} {o3:Int} {o4:Int} {o5:Int} {o6:Bool} {o7:Int} {key:(Int×(Int×(Int×(Bool×(Int×(Int×(Int×(Int×(List Int)))))))))→Int} {V:(Int×(Int×(Int×(Bool×(Int×(Int×(Int×(Int×(List Int)))))))))→Prop}
noncomputable def SF (F:(Int→Int→Int→List (Int×(Int×(Int×(Bool×(Int×(Int×(Int×(Int×(List Int)))))))))→Int→Int→Bool→Int→Int→Int→Bool→Int→(List (Int×(Int×(Int×(Bool×(Int×(Int×(Int×(Int×(List Int)))))))))×Int×Int×Bool×Int×Int×Int×Bool×Int→Option Ans)→Option Ans)) (fl:Nat) (a st m mid e b:Nat) (D:List (Int×(Int×(Int×(Bool×(Int×(Int×(Int×(Int×(List Int)))))))))) (o0:Int) (o1:Int) (o2:Bool) (o3:Int) (o4:Int) (o5:Int) (o6:Bool) (o7:Int) (K:List (Int×(Int×(Int×(Bool×(Int×(Int×(Int×(Int×(List Int)))))))))×Int×Int×Bool×Int×Int×Int×Bool×Int→Option Ans):Option Ans:=
  if st < m∧m < e then
    F_slices_rotateCmpFunc_api_Item_e16 fl (st:Int) (m:Int) (e:Int) D o0 o1 o2 o3 o4 o5 o6 o7 (fun (w0,w1,w2,w3,w4,w5,w6,w7,w8)=>
      if a < st∧st < mid then F (a:Int) (st:Int) (mid:Int) w0 w1 w2 w3 w4 w5 w6 w7 w8 (fun (y0,y1,y2,y3,y4,y5,y6,y7,y8)=>if mid < e∧e < b then F (mid:Int) (e:Int) (b:Int) y0 y1 y2 y3 y4 y5 y6 y7 y8 (fun (z0,z1,z2,z3,z4,z5,z6,z7,z8)=>K (z0,z1,z2,z3,z4,z5,z6,z7,z8)) else K (y0,y1,y2,y3,y4,y5,y6,y7,y8))
      else if mid < e∧e < b then F (mid:Int) (e:Int) (b:Int) w0 w1 w2 w3 w4 w5 w6 w7 w8 (fun (z0,z1,z2,z3,z4,z5,z6,z7,z8)=>K (z0,z1,z2,z3,z4,z5,z6,z7,z8)) else K (w0,w1,w2,w3,w4,w5,w6,w7,w8))
  else
    if a < st∧st < mid then F (a:Int) (st:Int) (mid:Int) D o0 o1 o2 o3 o4 o5 o6 o7 (fun (y0,y1,y2,y3,y4,y5,y6,y7,y8)=>if mid < e∧e < b then F (mid:Int) (e:Int) (b:Int) y0 y1 y2 y3 y4 y5 y6 y7 y8 (fun (z0,z1,z2,z3,z4,z5,z6,z7,z8)=>K (z0,z1,z2,z3,z4,z5,z6,z7,z8)) else K (y0,y1,y2,y3,y4,y5,y6,y7,y8))
    else if mid < e∧e < b then F (mid:Int) (e:Int) (b:Int) D o0 o1 o2 o3 o4 o5 o6 o7 (fun (z0,z1,z2,z3,z4,z5,z6,z7,z8)=>K (z0,z1,z2,z3,z4,z5,z6,z7,z8)) else K (D,o0,o1,o2,o3,o4,o5,o6,o7)
theorem tail_ok (hfl:9223372036854775808≤fl) {F:(Int→Int→Int→List (Int×(Int×(Int×(Bool×(Int×(Int×(Int×(Int×(List Int)))))))))→Int→Int→Bool→Int→Int→Int→Bool→Int→(List (Int×(Int×(Int×(Bool×(Int×(Int×(Int×(Int×(List Int)))))))))×Int×Int×Bool×Int×Int×Int×Bool×Int→Option Ans)→Option Ans)} {n:Nat} (hF:MergeOk fl o0 o1 o2 o3 o4 o5 o6 o7 key V F n) {P A B Q:List (Int×(Int×(Int×(Bool×(Int×(Int×(Int×(Int×(List Int)))))))))} {st mid e lo hi:Nat} (hA:Srt key A) (hB:Srt key B) (vA:∀ y ∈ A,V y) (vB:∀ y ∈ B,V y) (hl:(P++(A++(B++Q))).length≤1000000)
    (k1:P.length≤st) (k2:st≤P.length + A.length) (k3:st≤mid) (k4:e + st = mid + P.length + A.length) (k5:e≤P.length + A.length + B.length) (k6:mid - P.length≤n) (k7:P.length + A.length + B.length - mid≤n) (k8:mid≤P.length + A.length + B.length)
    (k9:lo = P.length∨lo + B.length = mid) (k10:hi = P.length + A.length∨hi = mid)
    (r3:∀ c,lo≤c→c < st→key (A.getD (c - P.length) ((0:Int),(0:Int),(0:Int),Bool.false,(0:Int),(0:Int),(0:Int),(0:Int),[]))≤key (B.getD (mid - 1 - c) ((0:Int),(0:Int),(0:Int),Bool.false,(0:Int),(0:Int),(0:Int),(0:Int),[]))) (r4:∀ c,st≤c→c < hi→key (B.getD (mid - 1 - c) ((0:Int),(0:Int),(0:Int),Bool.false,(0:Int),(0:Int),(0:Int),(0:Int),[])) < key (A.getD (c - P.length) ((0:Int),(0:Int),(0:Int),Bool.false,(0:Int),(0:Int),(0:Int),(0:Int),[]))):
    ∃ C,Srt key C∧Stb key C (A++B)∧∀ K,SF F fl P.length st (P.length + A.length) mid e (P.length + A.length + B.length) (P++(A++(B++Q))) o0 o1 o2 o3 o4 o5 o6 o7 K = K (P++(C++Q),o0,o1,o2,o3,o4,o5,o6,o7):=by
  have hlen:=hl
  simp only [List.length_append] at hlen
  have sA:A = A.take (st - P.length)++A.drop (st - P.length):=(List.take_append_drop _ _).symm
  have sB:B = B.take (mid - st)++B.drop (mid - st):=(List.take_append_drop _ _).symm
  have gA1:∀ i,i < st - P.length→(A.take (st - P.length)).getD i ((0:Int),(0:Int),(0:Int),Bool.false,(0:Int),(0:Int),(0:Int),(0:Int),[]) = A.getD i ((0:Int),(0:Int),(0:Int),Bool.false,(0:Int),(0:Int),(0:Int),(0:Int),[]):=fun i hi=>take_getD hi ((0:Int),(0:Int),(0:Int),Bool.false,(0:Int),(0:Int),(0:Int),(0:Int),[])
  have gX:∀ i,(A.drop (st - P.length)).getD i ((0:Int),(0:Int),(0:Int),Bool.false,(0:Int),(0:Int),(0:Int),(0:Int),[]) = A.getD (st - P.length + i) ((0:Int),(0:Int),(0:Int),Bool.false,(0:Int),(0:Int),(0:Int),(0:Int),[]):=fun i=>drop_getD ((0:Int),(0:Int),(0:Int),Bool.false,(0:Int),(0:Int),(0:Int),(0:Int),[])
  have gY:∀ i,i < mid - st→(B.take (mid - st)).getD i ((0:Int),(0:Int),(0:Int),Bool.false,(0:Int),(0:Int),(0:Int),(0:Int),[]) = B.getD i ((0:Int),(0:Int),(0:Int),Bool.false,(0:Int),(0:Int),(0:Int),(0:Int),[]):=fun i hi=>take_getD hi ((0:Int),(0:Int),(0:Int),Bool.false,(0:Int),(0:Int),(0:Int),(0:Int),[])
  have gB2:∀ i,(B.drop (mid - st)).getD i ((0:Int),(0:Int),(0:Int),Bool.false,(0:Int),(0:Int),(0:Int),(0:Int),[]) = B.getD (mid - st + i) ((0:Int),(0:Int),(0:Int),Bool.false,(0:Int),(0:Int),(0:Int),(0:Int),[]):=fun i=>drop_getD ((0:Int),(0:Int),(0:Int),Bool.false,(0:Int),(0:Int),(0:Int),(0:Int),[])
  have lA1:(A.take (st - P.length)).length = st - P.length:=by rw [List.length_take]; omega
  have lX:(A.drop (st - P.length)).length = P.length + A.length - st:=by rw [List.length_drop]; omega
  have lY:(B.take (mid - st)).length = mid - st:=by rw [List.length_take]; omega
  have lB2:(B.drop (mid - st)).length = B.length - (mid - st):=by rw [List.length_drop]
  generalize A.take (st - P.length) = A1 at *
  generalize A.drop (st - P.length) = X at *
  generalize B.take (mid - st) = Y at *
  generalize B.drop (mid - st) = B2 at *
  have hxy:∀ u ∈ Y,∀ w ∈ X,key u < key w:=by
    intro u hu w hw
    obtain ⟨j,hj,rfl⟩:=mem_getD ((0:Int),(0:Int),(0:Int),Bool.false,(0:Int),(0:Int),(0:Int),(0:Int),[]) hu
    obtain ⟨i,hi',rfl⟩:=mem_getD ((0:Int),(0:Int),(0:Int),Bool.false,(0:Int),(0:Int),(0:Int),(0:Int),[]) hw
    rw [gY j (by omega),gX]
    have a1:=srt_get hB ((0:Int),(0:Int),(0:Int),Bool.false,(0:Int),(0:Int),(0:Int),(0:Int),[]) (i:=j) (j:=mid - 1 - st) (by omega) (by omega)
    have a2:=r4 st (by omega) (by omega)
    have a3:=srt_get hA ((0:Int),(0:Int),(0:Int),Bool.false,(0:Int),(0:Int),(0:Int),(0:Int),[]) (i:=st - P.length) (j:=st - P.length + i) (by omega) (by omega)
    omega
  have hab:∀ u ∈ A1,∀ w ∈ B2,key u≤key w:=by
    intro u hu w hw
    obtain ⟨i,hi',rfl⟩:=mem_getD ((0:Int),(0:Int),(0:Int),Bool.false,(0:Int),(0:Int),(0:Int),(0:Int),[]) hu
    obtain ⟨j,hj,rfl⟩:=mem_getD ((0:Int),(0:Int),(0:Int),Bool.false,(0:Int),(0:Int),(0:Int),(0:Int),[]) hw
    rw [gA1 i (by omega),gB2]
    have a1:=srt_get hA ((0:Int),(0:Int),(0:Int),Bool.false,(0:Int),(0:Int),(0:Int),(0:Int),[]) (i:=i) (j:=st - 1 - P.length) (by omega) (by omega)
    have a2:=r3 (st - 1) (by omega) (by omega)
    rw [show mid - 1 - (st - 1) = mid - st by omega] at a2
    have a3:=srt_get hB ((0:Int),(0:Int),(0:Int),Bool.false,(0:Int),(0:Int),(0:Int),(0:Int),[]) (i:=mid - st) (j:=mid - st + j) (by omega) (by omega)
    omega
  have hA':Srt key (A1++X):=by rw [← sA]; exact hA
  have hB':Srt key (Y++B2):=by rw [← sB]; exact hB
  obtain ⟨p1,p2,p3⟩:=srt_app.1 hA'
  obtain ⟨q1,q2,q3⟩:=srt_app.1 hB'
  have vA1:∀ y ∈ A1,V y:=fun y hy=>vA y (by rw [sA]; exact List.mem_append_left _ hy)
  have vX:∀ y ∈ X,V y:=fun y hy=>vA y (by rw [sA]; exact List.mem_append_right _ hy)
  have vY:∀ y ∈ Y,V y:=fun y hy=>vB y (by rw [sB]; exact List.mem_append_left _ hy)
  have vB2:∀ y ∈ B2,V y:=fun y hy=>vB y (by rw [sB]; exact List.mem_append_right _ hy)
  obtain ⟨C1,c1,c2,c3⟩:=merge_if hF (P:=P) (A:=A1) (B:=Y) (Q:=X++(B2++Q)) (by omega) p1 q1 vA1 vY (by simp only [List.length_append]; omega)
  have lC1:C1.length = A1.length + Y.length:=by rw [c2.len,List.length_append]
  obtain ⟨C2,d1,d2,d3⟩:=merge_if hF (P:=P++C1) (A:=X) (B:=B2) (Q:=Q) (by omega) p2 q2 vX vB2 (by simp only [List.length_append]; omega)
  obtain ⟨e1,e2⟩:=halves hA' hB' hxy hab c1 d1 c2 d2
  refine ⟨C1++C2,e1,by rw [← sA, ← sB] at e2; exact e2,fun K=> ?_⟩
  have lPC:(P++C1).length = mid:=by rw [List.length_append]; omega
  have h2:∀ K:List (Int×(Int×(Int×(Bool×(Int×(Int×(Int×(Int×(List Int)))))))))×Int×Int×Bool×Int×Int×Int×Bool×Int→Option Ans,(if mid < e∧e < P.length + A.length + B.length then F (mid:Int) (e:Int) ((P.length + A.length + B.length:Nat):Int) (P++(C1++(X++(B2++Q)))) o0 o1 o2 o3 o4 o5 o6 o7 K else K (P++(C1++(X++(B2++Q))),o0,o1,o2,o3,o4,o5,o6,o7)) = K (P++((C1++C2)++Q),o0,o1,o2,o3,o4,o5,o6,o7):=by
    intro K
    have:=d3 K
    rw [lPC,show mid + X.length = e by omega,show e + B2.length = P.length + A.length + B.length by omega,List.append_assoc] at this
    rw [show ((C1++C2)++Q) = C1++(C2++Q) by simp]
    rw [show P++(C1++(C2++Q)) = (P++C1)++(C2++Q) by simp, ← this]
    by_cases hh:mid < e∧e < P.length + A.length + B.length
    · rw [if_pos hh,if_pos (by omega)]
    · rw [if_neg hh,if_neg (by omega)]
  have h1:∀ K:List (Int×(Int×(Int×(Bool×(Int×(Int×(Int×(Int×(List Int)))))))))×Int×Int×Bool×Int×Int×Int×Bool×Int→Option Ans,(if P.length < st∧st < mid then F (P.length:Int) (st:Int) (mid:Int) (P++(A1++(Y++(X++(B2++Q))))) o0 o1 o2 o3 o4 o5 o6 o7 K else K (P++(A1++(Y++(X++(B2++Q)))),o0,o1,o2,o3,o4,o5,o6,o7)) = K (P++(C1++(X++(B2++Q))),o0,o1,o2,o3,o4,o5,o6,o7):=by
    intro K
    have:=c3 K
    rw [show P.length + A1.length = st by omega,show st + Y.length = mid by omega] at this
    rw [← this]
    by_cases hh:P.length < st∧st < mid
    · rw [if_pos hh,if_pos (by omega)]
    · rw [if_neg hh,if_neg (by omega)]
  have hJ:(if P.length < st∧st < mid then F (P.length:Int) (st:Int) (mid:Int) (P++(A1++(Y++(X++(B2++Q))))) o0 o1 o2 o3 o4 o5 o6 o7 (fun (y0,y1,y2,y3,y4,y5,y6,y7,y8)=>if mid < e∧e < P.length + A.length + B.length then F (mid:Int) (e:Int) ((P.length + A.length + B.length:Nat):Int) y0 y1 y2 y3 y4 y5 y6 y7 y8 (fun (z0,z1,z2,z3,z4,z5,z6,z7,z8)=>K (z0,z1,z2,z3,z4,z5,z6,z7,z8)) else K (y0,y1,y2,y3,y4,y5,y6,y7,y8))
      else if mid < e∧e < P.length + A.length + B.length then F (mid:Int) (e:Int) ((P.length + A.length + B.length:Nat):Int) (P++(A1++(Y++(X++(B2++Q))))) o0 o1 o2 o3 o4 o5 o6 o7 (fun (z0,z1,z2,z3,z4,z5,z6,z7,z8)=>K (z0,z1,z2,z3,z4,z5,z6,z7,z8)) else K (P++(A1++(Y++(X++(B2++Q)))),o0,o1,o2,o3,o4,o5,o6,o7)) = K (P++((C1++C2)++Q),o0,o1,o2,o3,o4,o5,o6,o7):=by
    have e1:=h1 (fun v=>if mid < e∧e < P.length + A.length + B.length then F (mid:Int) (e:Int) ((P.length + A.length + B.length:Nat):Int) v.1 v.2.1 v.2.2.1 v.2.2.2.1 v.2.2.2.2.1 v.2.2.2.2.2.1 v.2.2.2.2.2.2.1 v.2.2.2.2.2.2.2.1 v.2.2.2.2.2.2.2.2 K else K v)
    exact e1.trans (h2 K)
  unfold SF
  by_cases hr:st < P.length + A.length∧P.length + A.length < e
  · rw [if_pos hr]
    have hro:=fun K=>rot_ok (fl:=fl) (o0:=o0) (o1:=o1) (o2:=o2) (o3:=o3) (o4:=o4) (o5:=o5) (o6:=o6) (o7:=o7) (K:=K) hfl (X:=X) (Y:=Y) (P:=P++A1) (Q:=B2++Q) (by omega) (by omega) (by simp only [List.length_append]; omega)
    have lp1:(P++A1).length = st:=by rw [List.length_append]; omega
    rw [lp1,show st + X.length = P.length + A.length by omega,show P.length + A.length + Y.length = e by omega] at hro
    have ed:P++(A++(B++Q)) = (P++A1)++(X++(Y++(B2++Q))):=by rw [sA,sB]; simp
    rw [ed,hro]
    dsimp only
    rw [show (P++A1)++(Y++(X++(B2++Q))) = P++(A1++(Y++(X++(B2++Q)))) by simp]
    exact hJ
  · rw [if_neg hr]
    have ed:P++(A++(B++Q)) = P++(A1++(Y++(X++(B2++Q)))):=by
      rw [sA,sB]
      rcases Nat.lt_or_ge st (P.length + A.length) with h' | h'
      · have:Y = []:=List.eq_nil_of_length_eq_zero (by omega)
        subst this
        simp
      · have:X = []:=List.eq_nil_of_length_eq_zero (by omega)
        subst this
        simp
    rw [ed]
    exact hJ
theorem srch (hfl:9223372036854775808≤fl) (hc:Cmp fl o0 o1 o2 o3 o4 o5 o6 o7 key V) {P A B Q:List (Int×(Int×(Int×(Bool×(Int×(Int×(Int×(Int×(List Int)))))))))} {mid lo hi:Nat} (hA:Srt key A) (hB:Srt key B) (vA:∀ y ∈ A,V y) (vB:∀ y ∈ B,V y) (hl:(P++(A++(B++Q))).length≤1000000)
    (k1:P.length≤lo) (k2:hi≤P.length + A.length) (k3:hi≤mid) (k4:lo≤hi) (k5:mid≤lo + B.length):
    ∃ st,lo≤st∧st≤hi∧(∀ c,lo≤c→c < st→key (A.getD (c - P.length) ((0:Int),(0:Int),(0:Int),Bool.false,(0:Int),(0:Int),(0:Int),(0:Int),[]))≤key (B.getD (mid - 1 - c) ((0:Int),(0:Int),(0:Int),Bool.false,(0:Int),(0:Int),(0:Int),(0:Int),[])))∧(∀ c,st≤c→c < hi→key (B.getD (mid - 1 - c) ((0:Int),(0:Int),(0:Int),Bool.false,(0:Int),(0:Int),(0:Int),(0:Int),[])) < key (A.getD (c - P.length) ((0:Int),(0:Int),(0:Int),Bool.false,(0:Int),(0:Int),(0:Int),(0:Int),[])))∧
      ∀ (x0 x1 x2 x3 x4:Int) (T:Int×Int×Int×Int×Int×Int×List (Int×(Int×(Int×(Bool×(Int×(Int×(Int×(Int×(List Int)))))))))×Int×Int×Bool×Int×Int×Int×Bool×Int→Option Ans),L_slices_symMergeCmpFunc_api_Item_e16_8 fl (x0,x1,x2,x3,x4,(lo:Int),(hi:Int),((mid + (P.length + A.length):Nat):Int) - 1,P++(A++(B++Q)),o0,o1,o2,o3,o4,o5,o6,o7) T = T (x0,x1,x2,x3,x4,(st:Int),P++(A++(B++Q)),o0,o1,o2,o3,o4,o5,o6,o7):=by
  have hlen:=hl
  simp only [List.length_append] at hlen
  have ga:∀ t,P.length≤t→t < P.length + A.length→(P++(A++(B++Q))).getD t ((0:Int),(0:Int),(0:Int),Bool.false,(0:Int),(0:Int),(0:Int),(0:Int),[]) = A.getD (t - P.length) ((0:Int),(0:Int),(0:Int),Bool.false,(0:Int),(0:Int),(0:Int),(0:Int),[]):=fun t h1 h2=>by
    rw [app_get,if_neg (by omega),app_get,if_pos (by omega)]
  have gb:∀ t,P.length + A.length≤t→t < P.length + A.length + B.length→(P++(A++(B++Q))).getD t ((0:Int),(0:Int),(0:Int),Bool.false,(0:Int),(0:Int),(0:Int),(0:Int),[]) = B.getD (t - (P.length + A.length)) ((0:Int),(0:Int),(0:Int),Bool.false,(0:Int),(0:Int),(0:Int),(0:Int),[]):=fun t h1 h2=>by
    rw [app_get,if_neg (by omega),app_get,if_neg (by omega),app_get,if_pos (by omega)]
    congr 1
    omega
  have main:=fun (x0 x1 x2 x3 x4:Int)=>bs (step:=S_slices_symMergeCmpFunc_api_Item_e16_8 fl) (st:=fun i j=>(x0,x1,x2,x3,x4,(i:Int),(j:Int),((mid + (P.length + A.length):Nat):Int) - 1,P++(A++(B++Q)),o0,o1,o2,o3,o4,o5,o6,o7)) (fin:=fun r=>(x0,x1,x2,x3,x4,(r:Int),P++(A++(B++Q)),o0,o1,o2,o3,o4,o5,o6,o7)) (p:=fun t=>key (A.getD (t - P.length) ((0:Int),(0:Int),(0:Int),Bool.false,(0:Int),(0:Int),(0:Int),(0:Int),[]))≤key (B.getD (mid - 1 - t) ((0:Int),(0:Int),(0:Int),Bool.false,(0:Int),(0:Int),(0:Int),(0:Int),[]))) (lo:=lo) (hi:=hi)
    (fun t u h1 h2 h3 hp=>by
      have a1:=srt_get hA ((0:Int),(0:Int),(0:Int),Bool.false,(0:Int),(0:Int),(0:Int),(0:Int),[]) (i:=t - P.length) (j:=u - P.length) (by omega) (by omega)
      have a2:=srt_get hB ((0:Int),(0:Int),(0:Int),Bool.false,(0:Int),(0:Int),(0:Int),(0:Int),[]) (i:=mid - 1 - u) (j:=mid - 1 - t) (by omega) (by omega)
      omega)
    (fun i j c b h1 h2 h3=>by
      have hh:=half_ok (i:=i) (j:=j) (by omega)
      have hm:(i + j) / 2 < hi:=by omega
      have hm2:lo≤(i + j) / 2:=by omega
      have hg:=ga ((i + j) / 2) (by omega) (by omega)
      have hg2:=gb (mid - 1 - (i + j) / 2 + (P.length + A.length)) (by omega) (by omega)
      rw [show mid - 1 - (i + j) / 2 + (P.length + A.length) - (P.length + A.length) = mid - 1 - (i + j) / 2 by omega] at hg2
      have ep:IntKind.i64.wrap (((mid + (P.length + A.length):Nat):Int) - 1 - (((i + j) / 2:Nat):Int)) = ((mid - 1 - (i + j) / 2 + (P.length + A.length):Nat):Int):=by rw [wrap64 (by omega) (by omega)]; omega
      have v1:V (A.getD ((i + j) / 2 - P.length) ((0:Int),(0:Int),(0:Int),Bool.false,(0:Int),(0:Int),(0:Int),(0:Int),[])):=vA _ (getD_memD (by omega) ((0:Int),(0:Int),(0:Int),Bool.false,(0:Int),(0:Int),(0:Int),(0:Int),[]))
      have v2:V (B.getD (mid - 1 - (i + j) / 2) ((0:Int),(0:Int),(0:Int),Bool.false,(0:Int),(0:Int),(0:Int),(0:Int),[])):=vB _ (getD_memD (by omega) ((0:Int),(0:Int),(0:Int),Bool.false,(0:Int),(0:Int),(0:Int),(0:Int),[]))
      obtain ⟨d,d1,d2,d3⟩:=hc _ _ v2 v1
      simp only [S_slices_symMergeCmpFunc_api_Item_e16_8,both_same,hh,ep,Int.toNat_natCast,hg,hg2]
      rw [dec_t (by omega),dec_t (by simp only [List.length_append]; omega),dec_t (by simp only [List.length_append]; omega),d3]
      dsimp only
      by_cases hlt:key (A.getD ((i + j) / 2 - P.length) ((0:Int),(0:Int),(0:Int),Bool.false,(0:Int),(0:Int),(0:Int),(0:Int),[]))≤key (B.getD (mid - 1 - (i + j) / 2) ((0:Int),(0:Int),(0:Int),Bool.false,(0:Int),(0:Int),(0:Int),(0:Int),[]))
      · rw [if_pos hlt,decide_eq_false (by omega),cond_t (b:=!false) rfl,w6 (x:=(((i + j) / 2:Nat):Int) + 1)]
        rfl
      · rw [if_neg hlt,decide_eq_true (by omega),cond_f (b:=!true) rfl])
    (fun i c b h1 h2=>by
      simp only [S_slices_symMergeCmpFunc_api_Item_e16_8]
      rw [dec_f (by omega)])
    (hi - lo) lo hi (by omega) (by omega) (by omega) (by omega) (by omega) (by omega)
  obtain ⟨r,r1,r2,r3,r4,_⟩:=main 0 0 0 0 0
  refine ⟨r,r1,r2,r3,fun c h1 h2=>by have:=r4 c h1 h2; omega,fun x0 x1 x2 x3 x4 T=> ?_⟩
  obtain ⟨r',q1,q2,q3,q4,q5⟩:=main x0 x1 x2 x3 x4
  have:r' = r:=by
    rcases Nat.lt_trichotomy r r' with h | h | h
    · exact absurd (q3 r r1 h) (r4 r (Nat.le_refl _) (by omega))
    · exact h.symm
    · exact absurd (r3 r' q1 h) (q4 r' (Nat.le_refl _) (by omega))
  subst this
  unfold L_slices_symMergeCmpFunc_api_Item_e16_8
  exact q5 fl T (by omega)
theorem merge_ok (hfl:9223372036854775808≤fl) (hc:Cmp fl o0 o1 o2 o3 o4 o5 o6 o7 key V):∀ n,MergeOk fl o0 o1 o2 o3 o4 o5 o6 o7 key V (Fr_slices_symMergeCmpFunc_api_Item_e16 fl n) n
  | 0=>fun P A B Q h1 h2 h3=>by omega
  | n + 1=>fun P A B Q h1 h2 h3 hA hB vA vB hl=>by
    have ih:=merge_ok hfl hc n
    have hlen:=hl
    simp only [List.length_append] at hlen
    show ∃ C,Srt key C∧Stb key C (A++B)∧∀ K,Fb_slices_symMergeCmpFunc_api_Item_e16 (Fr_slices_symMergeCmpFunc_api_Item_e16 fl n) fl (P.length:Int) ((P.length + A.length:Nat):Int) ((P.length + A.length + B.length:Nat):Int) (P++(A++(B++Q))) o0 o1 o2 o3 o4 o5 o6 o7 K = K (P++(C++Q),o0,o1,o2,o3,o4,o5,o6,o7)
    by_cases hA1:A.length = 1
    · obtain ⟨x,rfl⟩:∃ x,A = [x]:=List.length_eq_one_iff.1 hA1
      exact one_left hfl hc (vA x (by simp)) hB vB hl
    by_cases hB1:B.length = 1
    · obtain ⟨x,rfl⟩:∃ x,B = [x]:=List.length_eq_one_iff.1 hB1
      exact one_right hfl hc (vB x (by simp)) (by omega) hA vA hl
    have hmid:=half_ok (i:=P.length) (j:=P.length + A.length + B.length) (by omega)
    generalize hM:(P.length + (P.length + A.length + B.length)) / 2 = mid at hmid
    by_cases hgt:P.length + A.length > mid
    · obtain ⟨st,r1,r2,r3,r4,r5⟩:=srch (mid:=mid) (lo:=mid - B.length) (hi:=mid) hfl hc hA hB vA vB hl (by omega) (by omega) (by omega) (by omega) (by omega)
      obtain ⟨C,c1,c2,c3⟩:=tail_ok (lo:=mid - B.length) (hi:=mid) (st:=st) (mid:=mid) (e:=mid + (P.length + A.length) - st) hfl ih hA hB vA vB hl (by omega) (by omega) (by omega) (by omega) (by omega) (by omega) (by omega) (by omega) (by omega) (by omega) r3 r4
      refine ⟨C,c1,c2,fun K=> ?_⟩
      unfold Fb_slices_symMergeCmpFunc_api_Item_e16
      rw [w6 (x:=((P.length + A.length:Nat):Int) - (P.length:Int)),cond_f (by simp; omega),w6 (x:=((P.length + A.length + B.length:Nat):Int) - ((P.length + A.length:Nat):Int)),cond_f (by simp; omega),hmid,dec_t (by omega),w6 (x:=(mid:Int) + ((P.length + A.length:Nat):Int)),w6 (x:=(mid:Int) + ((P.length + A.length:Nat):Int) - ((P.length + A.length + B.length:Nat):Int)),w6 (x:=(mid:Int) + ((P.length + A.length:Nat):Int) - 1)]
      rw [show (mid:Int) + ((P.length + A.length:Nat):Int) - ((P.length + A.length + B.length:Nat):Int) = ((mid - B.length:Nat):Int) by omega,show (mid:Int) + ((P.length + A.length:Nat):Int) = ((mid + (P.length + A.length):Nat):Int) by omega]
      rw [r5]
      dsimp only
      rw [w6 (x:=((mid + (P.length + A.length):Nat):Int) - (st:Int)),show ((mid + (P.length + A.length):Nat):Int) - (st:Int) = ((mid + (P.length + A.length) - st:Nat):Int) by omega]
      refine Eq.trans ?_ (c3 K)
      unfold SF
      simp only [cdi,Int.ofNat_lt]
      generalize mid + (P.length + A.length) - st = e
      by_cases g1:st < P.length + A.length <;> by_cases g2:P.length + A.length < e <;> by_cases g3:P.length < st <;> by_cases g4:st < mid <;> by_cases g5:mid < e <;> by_cases g6:e < P.length + A.length + B.length <;> simp only [g1,g2,g3,g4,g5,g6,if_true,if_false,and_true,and_false,true_and,false_and,and_self]
    · obtain ⟨st,r1,r2,r3,r4,r5⟩:=srch (mid:=mid) (lo:=P.length) (hi:=P.length + A.length) hfl hc hA hB vA vB hl (by omega) (by omega) (by omega) (by omega) (by omega)
      obtain ⟨C,c1,c2,c3⟩:=tail_ok (lo:=P.length) (hi:=P.length + A.length) (st:=st) (mid:=mid) (e:=mid + (P.length + A.length) - st) hfl ih hA hB vA vB hl (by omega) (by omega) (by omega) (by omega) (by omega) (by omega) (by omega) (by omega) (by omega) (by omega) r3 r4
      refine ⟨C,c1,c2,fun K=> ?_⟩
      unfold Fb_slices_symMergeCmpFunc_api_Item_e16
      rw [w6 (x:=((P.length + A.length:Nat):Int) - (P.length:Int)),cond_f (by simp; omega),w6 (x:=((P.length + A.length + B.length:Nat):Int) - ((P.length + A.length:Nat):Int)),cond_f (by simp; omega),hmid,dec_f (by omega),w6 (x:=(mid:Int) + ((P.length + A.length:Nat):Int)),w6 (x:=(mid:Int) + ((P.length + A.length:Nat):Int) - 1)]
      rw [show (mid:Int) + ((P.length + A.length:Nat):Int) = ((mid + (P.length + A.length):Nat):Int) by omega]
      rw [r5]
      dsimp only
      rw [w6 (x:=((mid + (P.length + A.length):Nat):Int) - (st:Int)),show ((mid + (P.length + A.length):Nat):Int) - (st:Int) = ((mid + (P.length + A.length) - st:Nat):Int) by omega]
      refine Eq.trans ?_ (c3 K)
      unfold SF
      simp only [cdi,Int.ofNat_lt]
      generalize mid + (P.length + A.length) - st = e
      by_cases g1:st < P.length + A.length <;> by_cases g2:P.length + A.length < e <;> by_cases g3:P.length < st <;> by_cases g4:st < mid <;> by_cases g5:mid < e <;> by_cases g6:e < P.length + A.length + B.length <;> simp only [g1,g2,g3,g4,g5,g6,if_true,if_false,and_true,and_false,true_and,false_and,and_self]
end
open Go Ev So
inductive Ch (key:(Int×(Int×(Int×(Bool×(Int×(Int×(Int×(Int×(List Int)))))))))→Int) (bs:Nat):List (Int×(Int×(Int×(Bool×(Int×(Int×(Int×(Int×(List Int)))))))))→Prop where
  | last {D:List (Int×(Int×(Int×(Bool×(Int×(Int×(Int×(Int×(List Int)))))))))}:D.length≤bs→Srt key D→Ch key bs D
  | cons {A D:List (Int×(Int×(Int×(Bool×(Int×(Int×(Int×(Int×(List Int)))))))))}:A.length = bs→Srt key A→Ch key bs D→Ch key bs (A++D)
section
variable {fl:Nat} {o0:Int} {o1:Int} {o2:Bool} {o3:Int} {o4:Int} {o5:Int} {o6:Bool} {o7:Int} {key:(Int×(Int×(Int×(Bool×(Int×(Int×(Int×(Int×(List Int)))))))))→Int} {V:(Int×(Int×(Int×(Bool×(Int×(Int×(Int×(Int×(List Int)))))))))→Prop}
theorem Ch.srt {bs:Nat} {D:List (Int×(Int×(Int×(Bool×(Int×(Int×(Int×(Int×(List Int)))))))))} (h:Ch key bs D) (hb:0 < bs) (hl:D.length≤bs):Srt key D:=by
  cases h with
  | last _ h=>exact h
  | cons h1 h2 h3=>
    rename_i A D
    rw [List.length_append] at hl
    have:D = []:=List.eq_nil_of_length_eq_zero (by omega)
    subst this
    rw [List.append_nil]
    exact h2
theorem Ch.two {bs:Nat} {D:List (Int×(Int×(Int×(Bool×(Int×(Int×(Int×(Int×(List Int)))))))))} (h:Ch key bs D) (hb:0 < bs) (hl:bs < D.length):∃ A B R,D = A++(B++R)∧A.length = bs∧Srt key A∧Srt key B∧0 < B.length∧B.length≤bs∧Ch key bs R∧(B.length < bs→R = []):=by
  cases h with
  | last h1 _=>omega
  | cons h1 h2 h3=>
    rename_i A D
    rw [List.length_append] at hl
    cases h3 with
    | last h4 h5=>exact ⟨A,D,[],by simp,h1,h2,h5,by omega,h4,.last (by simp) List.Pairwise.nil,fun _=>rfl⟩
    | cons h4 h5 h6=>
      rename_i B R
      exact ⟨A,B,R,rfl,h1,h2,h5,by omega,by omega,h6,fun h=>by omega⟩
theorem blocks (hfl:9223372036854775808≤fl) (hc:Cmp fl o0 o1 o2 o3 o4 o5 o6 o7 key V):∀ (m:Nat) (P D:List (Int×(Int×(Int×(Bool×(Int×(Int×(Int×(Int×(List Int)))))))))),D.length≤m→(∀ y ∈ D,V y)→(P++D).length≤500000→
    ∃ D',Ch key 20 D'∧Stb key D' D∧∀ (f:Nat) (T:Int×Int×List (Int×(Int×(Int×(Bool×(Int×(Int×(Int×(Int×(List Int)))))))))×Int×Int×Bool×Int×Int×Int×Bool×Int→Option Ans),m + 1≤f→
      iter (S_slices_stableCmpFunc_api_Item_770_0 fl) f (((P.length + D.length:Nat):Int),20,(P.length:Int),((P.length + 20:Nat):Int),P++D,o0,o1,o2,o3,o4,o5,o6,o7) (fun (b0,b1,b2,b3,b4,b5,b6,b7,b8,b9,b10,b11)=>F_slices_insertionSortCmpFunc_api_Item_bf0 fl b2 b0 b3 b4 b5 b6 b7 b8 b9 b10 b11 (fun (y0,y1,y2,y3,y4,y5,y6,y7,y8)=>T (b0,b1,y0,y1,y2,y3,y4,y5,y6,y7,y8))) = T (((P.length + D.length:Nat):Int),20,P++D',o0,o1,o2,o3,o4,o5,o6,o7):=by
  intro m
  induction m with
  | zero=>
    intro P D hm hV hl
    have:D = []:=List.eq_nil_of_length_eq_zero (by omega)
    subst this
    obtain ⟨C,c1,c2,c3⟩:=isort hfl hc (P:=P) (A:=[]) (Q:=[]) (by simp) (by simp at hl ⊢; omega)
    have hC:C = []:=List.eq_nil_of_length_eq_zero (by have:=c2.len; simpa using this)
    subst hC
    refine ⟨[],.last (by simp) List.Pairwise.nil,Stb.refl _,fun f T hf=> ?_⟩
    obtain ⟨f,rfl⟩:∃ g,f = g + 1:=⟨f - 1,by omega⟩
    simp only [iter,S_slices_stableCmpFunc_api_Item_770_0,Sg_slices_stableCmpFunc_api_Item_770_0]
    rw [dec_f (by simp; omega)]
    have:=c3 (fun v=>T (((P.length + ([]:List (Int×(Int×(Int×(Bool×(Int×(Int×(Int×(Int×(List Int)))))))))).length:Nat):Int),20,v.1,v.2.1,v.2.2.1,v.2.2.2.1,v.2.2.2.2.1,v.2.2.2.2.2.1,v.2.2.2.2.2.2.1,v.2.2.2.2.2.2.2.1,v.2.2.2.2.2.2.2.2))
    simp only [List.append_nil] at this ⊢
    exact this
  | succ m ih=>
    intro P D hm hV hl
    have hlen:=hl
    simp only [List.length_append] at hlen
    by_cases h20:20≤D.length
    · have hsp:D = D.take 20++D.drop 20:=(List.take_append_drop _ _).symm
      have lA:(D.take 20).length = 20:=by rw [List.length_take]; omega
      have lR:(D.drop 20).length = D.length - 20:=by rw [List.length_drop]
      generalize D.take 20 = A at *
      generalize D.drop 20 = R at *
      subst hsp
      obtain ⟨C,c1,c2,c3⟩:=isort hfl hc (P:=P) (A:=A) (Q:=R) (fun y hy=>hV y (by simp [hy])) (by simp only [List.length_append]; omega)
      have lC:C.length = 20:=by rw [c2.len,lA]
      obtain ⟨R',d1,d2,d3⟩:=ih (P++C) R (by omega) (fun y hy=>hV y (by simp [hy])) (by simp only [List.length_append]; omega)
      refine ⟨C++R',.cons lC c1 d1,c2.app d2,fun f T hf=> ?_⟩
      obtain ⟨f,rfl⟩:∃ g,f = g + 1:=⟨f - 1,by omega⟩
      simp only [iter,S_slices_stableCmpFunc_api_Item_770_0,Sg_slices_stableCmpFunc_api_Item_770_0]
      rw [dec_t (by simp only [List.length_append]; omega),show ((P.length + 20:Nat):Int) = ((P.length + A.length:Nat):Int) by omega,c3]
      dsimp only
      have:=d3 f T (by omega)
      simp only [List.length_append] at this ⊢
      rw [wrap64 (by omega) (by omega)]
      rw [show P.length + C.length + R.length = P.length + (A.length + R.length) by omega,show ((P.length + C.length:Nat):Int) = ((P.length + A.length:Nat):Int) by omega,show ((P.length + C.length + 20:Nat):Int) = ((P.length + A.length:Nat):Int) + 20 by omega,List.append_assoc,List.append_assoc] at this
      exact this
    · obtain ⟨C,c1,c2,c3⟩:=isort hfl hc (P:=P) (A:=D) (Q:=[]) hV (by simpa using Nat.le_trans hl (by omega))
      refine ⟨C,.last (by rw [c2.len]; omega) c1,c2,fun f T hf=> ?_⟩
      obtain ⟨f,rfl⟩:∃ g,f = g + 1:=⟨f - 1,by omega⟩
      simp only [iter,S_slices_stableCmpFunc_api_Item_770_0,Sg_slices_stableCmpFunc_api_Item_770_0]
      rw [dec_f (by omega)]
      have:=c3 (fun v=>T (((P.length + D.length:Nat):Int),20,v.1,v.2.1,v.2.2.1,v.2.2.2.1,v.2.2.2.2.1,v.2.2.2.2.2.1,v.2.2.2.2.2.2.1,v.2.2.2.2.2.2.2.1,v.2.2.2.2.2.2.2.2))
      simp only [List.append_nil] at this
      exact this
theorem pass (hfl:9223372036854775808≤fl) (hc:Cmp fl o0 o1 o2 o3 o4 o5 o6 o7 key V) {bs:Nat} (hb:0 < bs) (hb2:bs≤500000):∀ (m:Nat) (P D:List (Int×(Int×(Int×(Bool×(Int×(Int×(Int×(Int×(List Int)))))))))),D.length≤m→Ch key bs D→(∀ y ∈ D,V y)→(P++D).length≤500000→
    ∃ D',Ch key (2 * bs) D'∧Stb key D' D∧∀ (f:Nat) (c:Int×Int×List (Int×(Int×(Int×(Bool×(Int×(Int×(Int×(Int×(List Int)))))))))×Int×Int×Bool×Int×Int×Int×Bool×Int→Option Ans),m + 1≤f→
      iter (S_slices_stableCmpFunc_api_Item_770_4 fl) f (((P.length + D.length:Nat):Int),(bs:Int),(P.length:Int),((P.length + 2 * bs:Nat):Int),P++D,o0,o1,o2,o3,o4,o5,o6,o7) (fun (b4_0,b4_1,b4_2,b4_3,b4_4,b4_5,b4_6,b4_7,b4_8,b4_9,b4_10,b4_11)=>
        bif decide (IntKind.i64.wrap (b4_2 + b4_1) < b4_0) then
          F_slices_symMergeCmpFunc_api_Item_e16 fl b4_2 (IntKind.i64.wrap (b4_2 + b4_1)) b4_0 b4_3 b4_4 b4_5 b4_6 b4_7 b4_8 b4_9 b4_10 b4_11 (fun (y8_0,y8_1,y8_2,y8_3,y8_4,y8_5,y8_6,y8_7,y8_8)=>c (b4_0,IntKind.i64.wrap (b4_1 * 2),y8_0,y8_1,y8_2,y8_3,y8_4,y8_5,y8_6,y8_7,y8_8))
        else c (b4_0,IntKind.i64.wrap (b4_1 * 2),b4_3,b4_4,b4_5,b4_6,b4_7,b4_8,b4_9,b4_10,b4_11)) = c (((P.length + D.length:Nat):Int),((2 * bs:Nat):Int),P++D',o0,o1,o2,o3,o4,o5,o6,o7):=by
  have hM:=merge_ok hfl hc fl
  intro m
  induction m with
  | zero=>
    intro P D hm hD hV hl
    have:D = []:=List.eq_nil_of_length_eq_zero (by omega)
    subst this
    have hlen:=hl
    simp only [List.length_append,List.length_nil] at hlen
    refine ⟨[],.last (by simp) List.Pairwise.nil,Stb.refl _,fun f c hf=> ?_⟩
    obtain ⟨f,rfl⟩:∃ g,f = g + 1:=⟨f - 1,by omega⟩
    simp only [iter,S_slices_stableCmpFunc_api_Item_770_4,Sg_slices_stableCmpFunc_api_Item_770_4]
    rw [dec_f (by simp; omega)]
    rw [w6 (x:=(P.length:Int) + (bs:Int)),dec_f (by simp; omega),w6 (x:=(bs:Int) * 2),show (bs:Int) * 2 = ((2 * bs:Nat):Int) by omega]
  | succ m ih=>
    intro P D hm hD hV hl
    have hlen:=hl
    simp only [List.length_append] at hlen
    by_cases h2:2 * bs≤D.length
    · obtain ⟨A,B,R,rfl,a1,a2,a3,a4,a5,a6,a7⟩:=hD.two hb (by omega)
      have lB:B.length = bs:=by
        rcases Nat.lt_or_ge B.length bs with h | h
        · have:=a7 h
          subst this
          simp only [List.length_append,List.length_nil] at h2
          omega
        · omega
      simp only [List.length_append] at hlen hm h2
      obtain ⟨C,c1,c2,c3⟩:=hM P A B R (by omega) a4 (by omega) a2 a3 (fun y hy=>hV y (by simp [hy])) (fun y hy=>hV y (by simp [hy])) (by simp only [List.length_append]; omega)
      have lC:C.length = 2 * bs:=by rw [c2.len,List.length_append]; omega
      obtain ⟨R',d1,d2,d3⟩:=ih (P++C) R (by omega) a6 (fun y hy=>hV y (by simp [hy])) (by simp only [List.length_append]; omega)
      refine ⟨C++R',.cons lC c1 d1,by have:=c2.app d2; simpa using this,fun f c hf=> ?_⟩
      obtain ⟨f,rfl⟩:∃ g,f = g + 1:=⟨f - 1,by omega⟩
      simp only [iter,S_slices_stableCmpFunc_api_Item_770_4,Sg_slices_stableCmpFunc_api_Item_770_4]
      rw [dec_t (by simp only [List.length_append]; omega),w6 (x:=(P.length:Int) + (bs:Int)),show (P.length:Int) + (bs:Int) = ((P.length + A.length:Nat):Int) by omega,show ((P.length + 2 * bs:Nat):Int) = ((P.length + A.length + B.length:Nat):Int) by omega]
      have c3':=fun K=>c3 K
      unfold F_slices_symMergeCmpFunc_api_Item_e16 at *
      rw [c3]
      dsimp only
      have:=d3 f c (by omega)
      simp only [List.length_append] at this ⊢
      rw [w6 (x:=2 * (bs:Int)),wrap64 (by omega) (by omega)]
      rw [show P.length + C.length + R.length = P.length + (A.length + (B.length + R.length)) by omega,show ((P.length + C.length:Nat):Int) = ((P.length + A.length + B.length:Nat):Int) by omega,show ((P.length + C.length + 2 * bs:Nat):Int) = ((P.length + A.length + B.length:Nat):Int) + 2 * (bs:Int) by omega,List.append_assoc,List.append_assoc] at this
      exact this
    · have hend:∀ (f:Nat) b,iter (S_slices_stableCmpFunc_api_Item_770_4 fl) (f + 1) (((P.length + D.length:Nat):Int),(bs:Int),(P.length:Int),((P.length + 2 * bs:Nat):Int),P++D,o0,o1,o2,o3,o4,o5,o6,o7) b = b (((P.length + D.length:Nat):Int),(bs:Int),(P.length:Int),P++D,o0,o1,o2,o3,o4,o5,o6,o7):=by
        intro f b
        simp only [iter,S_slices_stableCmpFunc_api_Item_770_4,Sg_slices_stableCmpFunc_api_Item_770_4]
        rw [dec_f (by omega)]
      by_cases h1:bs < D.length
      · obtain ⟨A,B,R,rfl,a1,a2,a3,a4,a5,a6,a7⟩:=hD.two hb h1
        simp only [List.length_append] at hlen hm h2 h1
        have hR:R = []:=a7 (by omega)
        subst hR
        simp only [List.length_nil] at hlen hm h2 h1
        obtain ⟨C,c1,c2,c3⟩:=hM P A B [] (by omega) a4 (by omega) a2 a3 (fun y hy=>hV y (by simp [hy])) (fun y hy=>hV y (by simp [hy])) (by simp only [List.length_append,List.length_nil]; omega)
        have lC:C.length = A.length + B.length:=by rw [c2.len,List.length_append]
        refine ⟨C,.last (by omega) c1,by rw [List.append_nil]; exact c2,fun f c hf=> ?_⟩
        obtain ⟨f,rfl⟩:∃ g,f = g + 1:=⟨f - 1,by omega⟩
        rw [hend]
        dsimp only
        unfold F_slices_symMergeCmpFunc_api_Item_e16
        rw [w6 (x:=(P.length:Int) + (bs:Int)),dec_t (by simp only [List.length_append,List.length_nil]; omega),w6 (x:=(bs:Int) * 2),show (bs:Int) * 2 = ((2 * bs:Nat):Int) by omega,show (P.length:Int) + (bs:Int) = ((P.length + A.length:Nat):Int) by omega]
        have:=c3 (fun v=>c (((P.length + A.length + B.length:Nat):Int),((2 * bs:Nat):Int),v.1,v.2.1,v.2.2.1,v.2.2.2.1,v.2.2.2.2.1,v.2.2.2.2.2.1,v.2.2.2.2.2.2.1,v.2.2.2.2.2.2.2.1,v.2.2.2.2.2.2.2.2))
        simp only [List.append_nil,List.length_append,List.length_nil,Nat.add_zero, ← Nat.add_assoc] at this ⊢
        exact this
      · have hs:=hD.srt hb (by omega)
        refine ⟨D,.last (by omega) hs,Stb.refl _,fun f c hf=> ?_⟩
        obtain ⟨f,rfl⟩:∃ g,f = g + 1:=⟨f - 1,by omega⟩
        rw [hend]
        dsimp only
        rw [w6 (x:=(P.length:Int) + (bs:Int)),dec_f (by omega),w6 (x:=(bs:Int) * 2),show (bs:Int) * 2 = ((2 * bs:Nat):Int) by omega]
theorem passes (hfl:9223372036854775808≤fl) (hc:Cmp fl o0 o1 o2 o3 o4 o5 o6 o7 key V):∀ (m bs:Nat) (D:List (Int×(Int×(Int×(Bool×(Int×(Int×(Int×(Int×(List Int)))))))))),0 < bs→bs≤500000→D.length≤bs + m→Ch key bs D→(∀ y ∈ D,V y)→D.length≤400000→
    ∃ D',Srt key D'∧Stb key D' D∧∀ (f:Nat) (T:List (Int×(Int×(Int×(Bool×(Int×(Int×(Int×(Int×(List Int)))))))))×Int×Int×Bool×Int×Int×Int×Bool×Int→Option Ans),m + 1≤f→iter (S_slices_stableCmpFunc_api_Item_770_2 fl) f ((D.length:Int),(bs:Int),D,o0,o1,o2,o3,o4,o5,o6,o7) T = T (D',o0,o1,o2,o3,o4,o5,o6,o7):=by
  intro m
  induction m with
  | zero=>
    intro bs D hb hb2 hm hD hV hl
    refine ⟨D,hD.srt hb (by omega),Stb.refl _,fun f T hf=> ?_⟩
    obtain ⟨f,rfl⟩:∃ g,f = g + 1:=⟨f - 1,by omega⟩
    simp only [iter,S_slices_stableCmpFunc_api_Item_770_2,Sg_slices_stableCmpFunc_api_Item_770_2]
    rw [dec_f (by omega)]
  | succ m ih=>
    intro bs D hb hb2 hm hD hV hl
    by_cases h:bs < D.length
    · obtain ⟨C,c1,c2,c3⟩:=pass hfl hc hb (by omega) D.length [] D (Nat.le_refl _) hD hV (by simp; omega)
      have lC:=c2.len
      by_cases hbig:2 * bs≤500000
      · obtain ⟨E,e1,e2,e3⟩:=ih (2 * bs) C (by omega) hbig (by omega) c1 (fun y hy=>hV y (c2.1.mem_iff.1 hy)) (by omega)
        refine ⟨E,e1,e2.trans c2,fun f T hf=> ?_⟩
        obtain ⟨f,rfl⟩:∃ g,f = g + 1:=⟨f - 1,by omega⟩
        simp only [iter,S_slices_stableCmpFunc_api_Item_770_2,Sg_slices_stableCmpFunc_api_Item_770_2]
        unfold L_slices_stableCmpFunc_api_Item_770_4
        have h4:=c3 fl (fun v=>iter (S_slices_stableCmpFunc_api_Item_770_2 fl) f v T) (by omega)
        simp only [List.length_nil,Nat.zero_add,List.nil_append] at h4
        rw [dec_t (by omega),w6 (x:=2 * (bs:Int)),show 2 * (bs:Int) = ((2 * bs:Nat):Int) by omega]
        refine Eq.trans h4 ?_
        have:=e3 f T (by omega)
        rw [lC] at this
        exact this
      · -- so great a block holds all
        refine ⟨C,c1.srt (by omega) (by omega),c2,fun f T hf=> ?_⟩
        obtain ⟨f,rfl⟩:∃ g,f = g + 1:=⟨f - 1,by omega⟩
        simp only [iter,S_slices_stableCmpFunc_api_Item_770_2,Sg_slices_stableCmpFunc_api_Item_770_2]
        unfold L_slices_stableCmpFunc_api_Item_770_4
        have h4:=c3 fl (fun v=>iter (S_slices_stableCmpFunc_api_Item_770_2 fl) f v T) (by omega)
        simp only [List.length_nil,Nat.zero_add,List.nil_append] at h4
        rw [dec_t (by omega),w6 (x:=2 * (bs:Int)),show 2 * (bs:Int) = ((2 * bs:Nat):Int) by omega]
        refine Eq.trans h4 ?_
        obtain ⟨f,rfl⟩:∃ g,f = g + 1:=⟨f - 1,by omega⟩
        simp only [iter,S_slices_stableCmpFunc_api_Item_770_2,Sg_slices_stableCmpFunc_api_Item_770_2]
        rw [dec_f (by omega)]
    · refine ⟨D,hD.srt hb (by omega),Stb.refl _,fun f T hf=> ?_⟩
      obtain ⟨f,rfl⟩:∃ g,f = g + 1:=⟨f - 1,by omega⟩
      simp only [iter,S_slices_stableCmpFunc_api_Item_770_2,Sg_slices_stableCmpFunc_api_Item_770_2]
      rw [dec_f (by omega)]
theorem sort_ok (hfl:9223372036854775808≤fl) (hc:Cmp fl o0 o1 o2 o3 o4 o5 o6 o7 key V) {D:List (Int×(Int×(Int×(Bool×(Int×(Int×(Int×(Int×(List Int)))))))))} (hV:∀ y ∈ D,V y) (hl:D.length≤400000):∃ C,Srt key C∧Stb key C D∧∀ K,F_slices_SortStableFunc_api_Item_api_Item_43d fl D o0 o1 o2 o3 o4 o5 o6 o7 K = K (C,o0,o1,o2,o3,o4,o5,o6,o7):=by
  obtain ⟨B,b1,b2,b3⟩:=blocks hfl hc D.length [] D (Nat.le_refl _) hV (by simp; omega)
  have lB:=b2.len
  obtain ⟨C,c1,c2,c3⟩:=passes hfl hc B.length 20 B (by omega) (by omega) (by omega) b1 (fun y hy=>hV y (b2.1.mem_iff.1 hy)) (by omega)
  refine ⟨C,c1,c2.trans b2,fun K=> ?_⟩
  unfold F_slices_SortStableFunc_api_Item_api_Item_43d Fg_slices_SortStableFunc_api_Item_api_Item_43d F_slices_stableCmpFunc_api_Item_770 Fg_slices_stableCmpFunc_api_Item_770 L_slices_stableCmpFunc_api_Item_770_0
  have h0:=b3 fl (fun v=>L_slices_stableCmpFunc_api_Item_770_2 fl v (fun (b2_0,b2_1,b2_2,b2_3,b2_4,b2_5,b2_6,b2_7,b2_8)=>K (b2_0,b2_1,b2_2,b2_3,b2_4,b2_5,b2_6,b2_7,b2_8))) (by omega)
  simp only [List.length_nil,Nat.zero_add,List.nil_append] at h0
  refine Eq.trans h0 ?_
  unfold L_slices_stableCmpFunc_api_Item_770_2
  have:=c3 fl (fun (b2_0,b2_1,b2_2,b2_3,b2_4,b2_5,b2_6,b2_7,b2_8)=>K (b2_0,b2_1,b2_2,b2_3,b2_4,b2_5,b2_6,b2_7,b2_8)) (by omega)
  rw [lB] at this
  exact this
end
end Go.Proofs.YtmjeeaemmbkioaaGreat.Sx
namespace Go.Proofs.YtmjeeaemmbkioaaGreat.Bm
open Go Ev
theorem cd {α:Sort _} {p:Prop} {i:Decidable p} {x y:α}:(bif @decide p i then x else y) = @ite α p i x y:=by by_cases h:p <;> simp [h]
theorem cb {α:Sort _} {a b:Int} {x y:α}:(bif a==b then x else y) = if a = b then x else y:=by
  by_cases h:a = b
  · simp [h]
  · rw [if_neg h,cond_f (by simpa using h)]
theorem cn {α:Sort _} {a b:Int} {x y:α}:(bif a != b then x else y) = if a = b then y else x:=by
  by_cases h:a = b
  · simp [h]
  · rw [if_neg h,cond_t (by simpa using h)]
theorem mul_le {w h a b:Int} (h0:0≤w) (h1:w≤a) (h2:0≤h) (h3:h≤b):0≤w * h∧w * h≤a * b:=
  ⟨Int.mul_nonneg h0 h2,Int.mul_le_mul h1 h3 h2 (by omega)⟩
def fit (w h:Int):Bool:=decide (0≤w∧0≤h∧w≤200∧h≤200∧w * h≤8192)
theorem fit_iff {w h:Int}:fit w h = true↔0≤w∧0≤h∧w≤200∧h≤200∧w * h≤8192:=by simp [fit]
theorem fits_ok {fl:Nat} {w h:Int} {K:Bool→Option Ans}:F_bitmap_fits fl w h K = K (fit w h):=by
  unfold F_bitmap_fits fit
  simp only [cd]
  split
  · split
    · split
      · split
        · have:=mul_le (a:=200) (b:=200) (show 0≤w by omega) (by omega) (show 0≤h by omega) (by omega)
          rw [wrap64 (by omega) (by omega)]
          exact congrArg K (decide_eq_decide.2 (by omega))
        · exact congrArg K (decide_eq_false (by omega)).symm
      · exact congrArg K (decide_eq_false (by omega)).symm
    · exact congrArg K (decide_eq_false (by omega)).symm
  · exact congrArg K (decide_eq_false (by omega)).symm
def valid (w h:Int) (pix:List Int):Bool:=fit w h&&decide ((pix.length:Int) = w * h)&&pix.all fun x=>decide (x≤1)
theorem fit_mul {w h:Int} (hf:fit w h = true):IntKind.i64.wrap (w * h) = w * h:=by
  obtain ⟨h1,h2,h3,h4,h5⟩:=fit_iff.1 hf
  have:=mul_le (a:=200) (b:=200) h1 h3 h2 h4
  exact wrap64 (by omega) (by omega)
theorem valid_ok {fl:Nat} (hfl:9223372036854775808≤fl) {w h:Int} {pix:List Int} {K:Bool→Option Ans}:F_bitmap_Valid fl w h pix K = K (valid w h pix):=by
  unfold F_bitmap_Valid Fg_bitmap_Valid
  rw [fits_ok]
  unfold valid
  cases hf:fit w h with
  | false=>rfl
  | true=>
  rw [cond_f (b:=!true) rfl,fit_mul hf,cn]
  obtain ⟨h1,h2,h3,h4,h5⟩:=fit_iff.1 hf
  split
  rotate_left
  · rename_i hne
    rw [decide_eq_false hne]
    rfl
  rename_i he
  rw [decide_eq_true he]
  simp only [Bool.true_and]
  unfold L_bitmap_Valid_0
  rcases all_or_first (fun x=>decide (x≤1)) 0 pix with ha | ⟨n,hn,hb,hi⟩
  · rw [ha]
    refine iter_seq (step:=S_bitmap_Valid_0 fl) (fun i:Nat=>(pix,(pix.length:Int),(i:Int))) pix.length rfl (fun i hi c=> ?_) (fun c=> ?_) (by omega)
    · have g:=all_getD ha 0 hi
      simp only [decide_eq_true_eq] at g
      simp (disch:=omega) only [S_bitmap_Valid_0,Sg_bitmap_Valid_0,dec_t,dec_f,wrap64,Int.toNat_natCast]
      rfl
    · simp (disch:=omega) only [S_bitmap_Valid_0,Sg_bitmap_Valid_0,dec_f]
  · rw [not_all hn hb]
    refine iter_seq (step:=S_bitmap_Valid_0 fl) (fun i:Nat=>(pix,(pix.length:Int),(i:Int))) n rfl (fun i hin c=> ?_) (fun c=> ?_) (by omega)
    · have g:=hi i hin
      simp only [decide_eq_true_eq] at g
      simp (disch:=omega) only [S_bitmap_Valid_0,Sg_bitmap_Valid_0,dec_t,dec_f,wrap64,Int.toNat_natCast]
      rfl
    · simp only [decide_eq_false_iff_not] at hb
      simp (disch:=omega) only [S_bitmap_Valid_0,Sg_bitmap_Valid_0,dec_t,Int.toNat_natCast]
def ins (w h x y:Int):Prop:=0≤x∧0≤y∧x < w∧y < h
instance {w h x y:Int}:Decidable (ins w h x y):=by unfold ins; infer_instance
end Go.Proofs.YtmjeeaemmbkioaaGreat.Bm
namespace Go.Proofs.YtmjeeaemmbkioaaGreat.Gen
open Go Ev Bm
def vr (t ax ay kd:Int):Bool:=decide (0≤t∧t≤3∧(kd = 0∨kd = 1)∧ -8≤ax∧ax≤8∧ -8≤ay∧ay≤0∧(ay < 0∨ax < 0))
def tpl (t:Int):List (Int×Int):=
  if t = 0 then [(-1, -2),(0, -2),(1, -2),(-2, -1),(-1, -1),(0, -1),(1, -1),(2, -1),(-2,0),(-1,0)]
  else if t = 1 then [(-1, -2),(0, -2),(-1, -1),(0, -1),(1, -1),(-2,0),(-1,0)]
  else if t = 2 then [(-2, -1),(-1, -1),(0, -1),(1, -1),(2, -1),(-2,0),(-1,0)]
  else [(-1, -1),(0, -1),(1, -1),(-1,0)]
def size (t:Int):Int:=2 ^ ((tpl t).length + 1) + 1
structure Pix (w h:Int) (p:List Int):Prop where
  w0:0≤w
  h0:0≤h
  w1:w≤200
  h1:h≤200
  n:w * h≤8192
  len:(p.length:Int) = w * h
  bit:∀ v ∈ p,0≤v∧v≤1
end Go.Proofs.YtmjeeaemmbkioaaGreat.Gen
namespace Go.Proofs.YtmjeeaemmbkioaaGreat.Co
open Go Ev
def mid (lo hi p:Int):Int:=lo + (hi - lo) / 4096 * p + (hi - lo) % 4096 * p / 4096
theorem mid_in {lo hi p:Int} (h:lo < hi) (h1:1≤p) (h2:p≤4095):lo≤mid lo hi p∧mid lo hi p < hi:=by
  unfold mid
  have hr:1≤hi - lo:=by omega
  have e:=Int.emod_add_mul_ediv (hi - lo) 4096
  have b0:0≤(hi - lo) % 4096:=Int.emod_nonneg _ (by omega)
  have b1:(hi - lo) % 4096 < 4096:=Int.emod_lt_of_pos _ (by omega)
  have a0:0≤(hi - lo) / 4096:=Int.ediv_nonneg (by omega) (by omega)
  generalize (hi - lo) % 4096 = b at *
  generalize (hi - lo) / 4096 = a at *
  have m1:0≤a * p:=Int.mul_nonneg a0 (by omega)
  have m2:a * p≤a * 4095:=Int.mul_le_mul_of_nonneg_left h2 a0
  have m3:0≤b * p:=Int.mul_nonneg b0 (by omega)
  have m4:b * p≤b * 4095:=Int.mul_le_mul_of_nonneg_left h2 b0
  generalize a * p = x at *
  generalize b * p = y at *
  omega
def same (lo hi:Int):Prop:=lo / 16777216 = hi / 16777216
instance (lo hi:Int):Decidable (same lo hi):=by unfold same; infer_instance
def nl (lo:Int):Int:=lo % 16777216 * 256
def nh (hi:Int):Int:=hi % 16777216 * 256 + 255
structure Rg (lo hi:Int):Prop where
  l:0≤lo
  m:lo≤hi
  h:hi < 4294967296
theorem Rg.next {lo hi:Int} (h:Rg lo hi) (hs:same lo hi):Rg (nl lo) (nh hi):=by
  obtain ⟨a,b,c⟩:=h
  unfold same at hs
  unfold nl nh
  constructor <;> omega
def nrm:Nat→Int→Int→Nat×Int×Int
  | 0,lo,hi=>(0,lo,hi)
  | n + 1,lo,hi=>if same lo hi then ((nrm n (nl lo) (nh hi)).1 + 1,(nrm n (nl lo) (nh hi)).2) else (0,lo,hi)
theorem nrm_rg:∀ (n:Nat) {lo hi:Int},Rg lo hi→Rg (nrm n lo hi).2.1 (nrm n lo hi).2.2
  | 0,_,_,h=>h
  | n + 1,lo,hi,h=>by
    unfold nrm
    split
    · rename_i hs
      exact nrm_rg n (h.next hs)
    · exact h
theorem nrm_same {n:Nat} {lo hi:Int} (h:same lo hi):(nrm (n + 1) lo hi).2 = (nrm n (nl lo) (nh hi)).2:=by
  rw [nrm,if_pos h]
theorem nrm_diff {n:Nat} {lo hi:Int} (h:¬ same lo hi):(nrm (n + 1) lo hi).2 = (lo,hi):=by
  rw [nrm,if_neg h]
theorem ends4 {lo hi:Int} (h:Rg lo hi) (h1:lo = 0) (h2:hi = 4294967295) {n:Nat}:¬ same (nrm (n + 1) lo hi).2.1 (nrm (n + 1) lo hi).2.2:=by
  have hs:¬ same lo hi:=by unfold same; omega
  rw [nrm_diff hs]
  exact hs
theorem ends3 {lo hi:Int} (h:Rg lo hi) (h1:lo % 16777216 = 0) (h2:hi % 16777216 = 16777215):¬ same (nrm 2 lo hi).2.1 (nrm 2 lo hi).2.2:=by
  by_cases hs:same lo hi
  · rw [nrm_same hs]
    exact ends4 (h.next hs) (by unfold nl; omega) (by unfold nh; omega)
  · rw [nrm_diff hs]
    exact hs
theorem ends2 {lo hi:Int} (h:Rg lo hi) (h1:lo % 65536 = 0) (h2:hi % 65536 = 65535):¬ same (nrm 3 lo hi).2.1 (nrm 3 lo hi).2.2:=by
  by_cases hs:same lo hi
  · rw [nrm_same hs]
    exact ends3 (h.next hs) (by unfold nl; omega) (by unfold nh; omega)
  · rw [nrm_diff hs]
    exact hs
theorem ends1 {lo hi:Int} (h:Rg lo hi) (h1:lo % 256 = 0) (h2:hi % 256 = 255):¬ same (nrm 4 lo hi).2.1 (nrm 4 lo hi).2.2:=by
  by_cases hs:same lo hi
  · rw [nrm_same hs]
    exact ends2 (h.next hs) (by unfold nl; omega) (by unfold nh; omega)
  · rw [nrm_diff hs]
    exact hs
theorem nrm_ends {lo hi:Int} (h:Rg lo hi):¬ same (nrm 5 lo hi).2.1 (nrm 5 lo hi).2.2:=by
  by_cases hs:same lo hi
  · rw [nrm_same hs]
    exact ends1 (h.next hs) (by unfold nl; omega) (by unfold nh; omega)
  · rw [nrm_diff hs]
    exact hs
theorem lt_of {lo hi:Int} (h:Rg lo hi) (hs:¬ same lo hi):lo < hi:=by
  obtain ⟨a,b,c⟩:=h
  unfold same at hs
  omega
def Byt (S:Nat→Int):Prop:=∀ n,0≤S n∧S n≤255
def win (S:Nat→Int) (n:Nat):Int:=S n * 16777216 + S (n + 1) * 65536 + S (n + 2) * 256 + S (n + 3)
theorem win_next {S:Nat→Int} (h:Byt S) (n:Nat):win S (n + 1) = win S n % 16777216 * 256 + S (n + 4):=by
  have a:=h n; have b:=h (n + 1); have c:=h (n + 2); have d:=h (n + 3); have e:=h (n + 4)
  have e0:win S n = S n * 16777216 + S (n + 1) * 65536 + S (n + 2) * 256 + S (n + 3):=rfl
  have e1:win S (n + 1) = S (n + 1) * 16777216 + S (n + 2) * 65536 + S (n + 3) * 256 + S (n + 4):=rfl
  omega
theorem win_rg {S:Nat→Int} (h:Byt S) (n:Nat):0≤win S n∧win S n < 4294967296:=by
  have a:=h n; have b:=h (n + 1); have c:=h (n + 2); have d:=h (n + 3)
  have e0:win S n = S n * 16777216 + S (n + 1) * 65536 + S (n + 2) * 256 + S (n + 3):=rfl
  omega
open Go Ev
def q:Nat→Int
  | 0=>2048
  | k + 1=>q k - q k / 8
theorem q_rg:∀ k:Fin 32,1≤q k.val∧q k.val≤2048:=by decide
def pr (kd s:Int):Int:=
  if kd = 1 then min (max ((2 * (s % 256) + 1) * 4096 / (2 * (s / 256) + 2 * (s % 256) + 2)) 1) 4095
  else if 32≤s then 4096 - q (s - 32).toNat else q s.toNat
def most (kd:Int):Int:=if kd = 1 then 65536 else 64
def vst (kd s:Int):Prop:=0≤s∧s < most kd
theorem pr_rg {kd s:Int} (hk:kd = 0∨kd = 1) (h:vst kd s):1≤pr kd s∧pr kd s≤4095:=by
  unfold vst most at h
  unfold pr
  by_cases h1:kd = 1
  · rw [if_pos h1]
    omega
  · rw [if_neg h1] at h ⊢
    split
    · have:=q_rg ⟨(s - 32).toNat,by omega⟩
      simp only at this
      omega
    · have:=q_rg ⟨s.toNat,by omega⟩
      simp only at this
      omega
def nx (kd s bit:Int):Int:=
  if kd = 1 then
    (if bit = 0 then (if s / 256 = 255 then 256 * 128 + s % 256 / 2 else 256 * (s / 256 + 1) + s % 256)
     else (if s % 256 = 255 then 256 * (s / 256 / 2) + 128 else 256 * (s / 256) + (s % 256 + 1)))
  else if bit = s / 32 then 32 * (s / 32) + min (s % 32 + 1) 31
  else if s % 32 = 0 then 32 * bit
  else 32 * (s / 32) + (s % 32 - (1 + s % 32 / 4))
theorem nx_rg {kd s bit:Int} (hk:kd = 0∨kd = 1) (h:vst kd s) (hb:bit = 0∨bit = 1):vst kd (nx kd s bit):=by
  unfold vst most at *
  unfold nx
  by_cases h1:kd = 1
  · rw [if_pos h1] at h ⊢
    rw [if_pos h1]
    split <;> split <;> omega
  · rw [if_neg h1] at h ⊢
    rw [if_neg h1]
    split
    · omega
    · split <;> omega
structure Iv where
  st:List Int
  lo:Int
  hi:Int
structure Iv.Ok (kd:Int) (x:Iv):Prop where
  k:kd = 0∨kd = 1
  r:Rg x.lo x.hi
  d:¬ same x.lo x.hi
  s:∀ s ∈ x.st,vst kd s
def Iv.mid (kd:Int) (x:Iv) (c:Int):Int:=Co.mid x.lo x.hi (pr kd (x.st.getD c.toNat 0))
def Iv.clo (kd:Int) (x:Iv) (c b:Int):Int:=if b = 1 then x.lo else x.mid kd c + 1
def Iv.chi (kd:Int) (x:Iv) (c b:Int):Int:=if b = 1 then x.mid kd c else x.hi
def Iv.many (kd:Int) (x:Iv) (c b:Int):Nat:=(nrm 5 (x.clo kd c b) (x.chi kd c b)).1
def Iv.next (kd:Int) (x:Iv) (c b:Int):Iv:=
  ⟨x.st.set c.toNat (nx kd (x.st.getD c.toNat 0) b),(nrm 5 (x.clo kd c b) (x.chi kd c b)).2.1,(nrm 5 (x.clo kd c b) (x.chi kd c b)).2.2⟩
theorem Iv.Ok.get {kd:Int} {x:Iv} (h:x.Ok kd) {c:Int} (h0:0≤c) (h1:c < x.st.length):vst kd (x.st.getD c.toNat 0):=h.s _ (getD_mem (by omega) 0)
theorem Iv.Ok.mid_in {kd:Int} {x:Iv} (h:x.Ok kd) {c:Int} (h0:0≤c) (h1:c < x.st.length):x.lo≤x.mid kd c∧x.mid kd c < x.hi:=by
  obtain ⟨a,b⟩:=pr_rg h.k (h.get h0 h1)
  exact Co.mid_in (lt_of h.r h.d) a b
theorem Iv.Ok.cut {kd:Int} {x:Iv} (h:x.Ok kd) {c b:Int} (h0:0≤c) (h1:c < x.st.length):Rg (x.clo kd c b) (x.chi kd c b):=by
  have hm:=h.mid_in h0 h1
  obtain ⟨a,b,c⟩:=h.r
  unfold Iv.clo Iv.chi
  split <;> constructor <;> omega
theorem Iv.Ok.next {kd:Int} {x:Iv} (h:x.Ok kd) {c b:Int} (h0:0≤c) (h1:c < x.st.length) (hb:b = 0∨b = 1):(x.next kd c b).Ok kd:=by
  refine ⟨h.k,nrm_rg 5 (h.cut h0 h1),nrm_ends (h.cut h0 h1),fun s hs=> ?_⟩
  rcases List.mem_or_eq_of_mem_set hs with hs | rfl
  · exact h.s s hs
  · exact nx_rg h.k (h.get h0 h1) hb
def Evs (n:Nat) (l:List (Int×Int)):Prop:=∀ e ∈ l,0≤e.1∧e.1 < (n:Int)∧(e.2 = 0∨e.2 = 1)
def bitOf (kd:Int) (S:Nat→Int) (x:Iv) (n:Nat) (c:Int):Int:=if win S n≤x.mid kd c then 1 else 0
def strm (code:List Int) (n:Nat):Int:=code.getD n 0
theorem strm_byt {code:List Int} (h:∀ v ∈ code,0≤v∧v≤255):Byt (strm code):=by
  intro n
  unfold strm
  by_cases hn:n < code.length
  · exact h _ (getD_mem hn 0)
  · rw [List.getD_eq_getElem?_getD,List.getElem?_eq_none (by omega)]
    simp
def get (kd:Int) (code:List Int) (x:Iv) (k:Nat) (c:Int):Option (Int×Iv×Nat):=
  if code.length < k + x.many kd c (bitOf kd (strm code) x k c) then none
  else some (bitOf kd (strm code) x k c,x.next kd c (bitOf kd (strm code) x k c),k + x.many kd c (bitOf kd (strm code) x k c))
open Go Ev
theorem wrapU {x:Int} (h1:0≤x) (h2:x < 18446744073709551616):IntKind.u64.wrap x = x:=by
  simp [IntKind.wrap,IntKind.min,IntKind.max,IntKind.signed,IntKind.bits]
  omega
theorem nlU {x:Int} (h1:0≤x) (h2:x < 4294967296):iand .u64 (ishl .u64 x 8) 4294967295 = nl x:=by
  unfold ishl
  have hb:min (8:Int).toNat IntKind.u64.bits = 8:=by decide
  have e:x * 2 ^ 8 = x * 256:=rfl
  rw [hb,e,wrapU (by omega) (by omega)]
  unfold iand nl
  have e1:IntKind.u64.bits = 64:=rfl
  rw [e1,BitVec.toNat_and,ofInt_toNat (by omega) (by omega),ofInt_toNat (by omega) (by omega)]
  have h3:(x * 256).toNat&&& (4294967295:Int).toNat = (x * 256).toNat % 2 ^ 32:=Nat.and_two_pow_sub_one_eq_mod _ 32
  rw [h3,wrapU (by omega) (by omega)]
  omega
theorem tdiv_e {x k:Int} (h:0≤x):x.tdiv k = x / k:=Int.tdiv_eq_ediv_of_nonneg h
theorem tmod_e {x k:Int} (h:0≤x):x.tmod k = x % k:=Int.tmod_eq_emod_of_nonneg h
theorem next {fl:Nat} {kd s b:Int} (hk:kd = 0∨kd = 1) (h:vst kd s) (hb:b = 0∨b = 1) {K:Int→Option Ans}:F_coder_next fl kd s b K = K (nx kd s b):=by
  obtain ⟨h0,h1⟩:=h
  unfold F_coder_next nx
  rw [tdiv_e h0,tdiv_e h0,tmod_e h0,tmod_e h0]
  rcases hk with rfl | rfl
  · have h1:s < 64:=h1
    rw [cond_f (b:=(0:Int)==1) rfl,if_neg (by decide)]
    have a0:0≤s / 32:=by omega
    have a1:s / 32≤1:=by omega
    have b0:0≤s % 32:=by omega
    have b1:s % 32≤31:=by omega
    generalize s / 32 = m at *
    generalize s % 32 = k at *
    have t4:k.tdiv 4 = k / 4:=tdiv_e b0
    rw [w6 (x:=m),t4,w6 (x:=k + 1),w6 (x:=32 * m)]
    rw [Bm.cb,Bm.cb]
    by_cases c1:b = m
    · rw [if_pos c1,if_pos c1]
      by_cases c2:31 < k + 1
      · rw [dec_t c2,wrap64 (by omega) (by omega),Int.min_eq_right (by omega)]
      · rw [dec_f c2,wrap64 (by omega) (by omega),Int.min_eq_left (by omega)]
    · rw [if_neg c1,if_neg c1]
      by_cases c2:k = 0
      · rw [if_pos c2,if_pos c2,w6 (x:=32 * b),wrap64 (by omega) (by omega),c2,Int.add_zero]
      · rw [if_neg c2,if_neg c2,w6 (x:=k / 4),w6 (x:=1 + k / 4),w6 (x:=k - (1 + k / 4)),wrap64 (by omega) (by omega)]
  · have h1:s < 65536:=h1
    rw [cond_t (b:=(1:Int)==1) rfl,if_pos rfl]
    have a0:0≤s / 256:=by omega
    have a1:s / 256≤255:=by omega
    have b0:0≤s % 256:=by omega
    have b1:s % 256≤255:=by omega
    generalize s / 256 = m at *
    generalize s % 256 = k at *
    have t2:k.tdiv 2 = k / 2:=tdiv_e b0
    have t3:m.tdiv 2 = m / 2:=tdiv_e a0
    have w1:IntKind.i64.wrap m = m:=wrap64 (by omega) (by omega)
    have w2:IntKind.i64.wrap (m / 2) = m / 2:=wrap64 (by omega) (by omega)
    have w3:IntKind.i64.wrap (k / 2) = k / 2:=wrap64 (by omega) (by omega)
    rw [w1,t2,t3,w2,w3]
    rcases hb with rfl | rfl
    · rw [dec_t (p:=(0:Int)≤0∧(0:Int) < ((2:Nat):Int)) (by decide),dec_t (p:=(0:Int) = ((0:Nat):Int)) rfl,if_pos rfl,Bm.cb]
      by_cases c1:m = 255
      · rw [if_pos c1,if_pos c1]
        simp (disch:=decide) only [dec_t]
        rw [w6 (x:=m / 2 + 1),w6 (x:=256 * (m / 2 + 1)),wrap64 (by omega) (by omega)]
        congr 1
        omega
      · rw [if_neg c1,if_neg c1]
        simp (disch:=decide) only [dec_t]
        rw [w6 (x:=m + 1),w6 (x:=256 * (m + 1)),wrap64 (by omega) (by omega)]
    · rw [dec_t (p:=(0:Int)≤1∧(1:Int) < ((2:Nat):Int)) (by decide),dec_f (p:=(1:Int) = ((0:Nat):Int)) (by decide),dec_t (p:=(1:Int) = ((1:Nat):Int)) rfl,if_neg (by decide),Bm.cb]
      by_cases c1:k = 255
      · rw [if_pos c1,if_pos c1]
        simp (disch:=decide) only [dec_t,dec_f]
        rw [w6 (x:=k / 2 + 1),w6 (x:=256 * (m / 2)),wrap64 (by omega) (by omega)]
        congr 1
        omega
      · rw [if_neg c1,if_neg c1]
        simp (disch:=decide) only [dec_t,dec_f]
        rw [w6 (x:=k + 1),w6 (x:=256 * m),wrap64 (by omega) (by omega)]
open Go Ev
open Go Ev
open Go Ev
end Go.Proofs.YtmjeeaemmbkioaaGreat.Co
namespace Go.Proofs.YtmjeeaemmbkioaaGreat.Gen
open Go Ev Bm Co
def Sk (w h:Int) (sp:List Int):Prop:=sp = []∨(sp.length:Int) = w * h
section
variable (t ax ay base w h:Int) (ty:Bool) (p sp:List Int)
end
structure Reg (t ax ay kd base w h:Int) (p sp:List Int) (n:Nat):Prop where
  v:vr t ax ay kd = true
  p:Pix w h p
  s:Sk w h sp
  b0:0≤base
  b1:base + size t≤(n:Int)
theorem Evs.append {n:Nat} {a b:List (Int×Int)} (ha:Evs n a) (hb:Evs n b):Evs n (a++b):=fun e he=>by
  rcases List.mem_append.1 he with he | he
  · exact ha e he
  · exact hb e he
end Go.Proofs.YtmjeeaemmbkioaaGreat.Gen
namespace Go.Proofs.YtmjeeaemmbkioaaGreat.Tx
open Go Ev Bm Co
abbrev Bmp:Type:=Int×Int×List Int
abbrev Item:Type:=Int×Int×Int×Bool×Int×Int×Int×Int×List Int
def ov (o0 o1 o3 o4 o5 o7:Int):Bool:=decide ((o0 = 1∨o0 = 2∨o0 = 4∨o0 = 8)∧0≤o1∧o1≤3∧ -16≤o3∧o3≤16∧0≤o4∧o4≤4∧(o5 = 0∨o5 = 1)∧(o7 = 0∨o7 = 1))
def shp (b:Bmp):Bool:=valid b.1 b.2.1 b.2.2&&decide (1≤b.1∧b.1≤40∧1≤b.2.1∧b.2.1≤40)
def near (x m:Int):Prop:= -m≤x∧x≤m
instance (x m:Int):Decidable (near x m):=by unfold near; infer_instance
def Item.pix (i:Item):Bmp:=(i.2.2.2.2.2.2.1,i.2.2.2.2.2.2.2.1,i.2.2.2.2.2.2.2.2)
def itm (rf:Bool) (n:Int) (i:Item):Bool:=
  decide (0≤i.1∧i.1 < n∧near i.2.1 100000∧near i.2.2.1 100000)&&
    (if i.2.2.2.1 = true then rf&&decide (near i.2.2.2.2.1 200∧near i.2.2.2.2.2.1 200)
     else decide (i.2.2.2.2.1 = 0∧i.2.2.2.2.2.1 = 0∧i.2.2.2.2.2.2.1 = 0∧i.2.2.2.2.2.2.2.1 = 0∧(i.2.2.2.2.2.2.2.2.length:Int) = 0))
def shpI (i:Item):Bool:=!i.2.2.2.1 || shp i.pix
def bErr (o0 o1 o3 o4 o5 o7:Int) (symbols:List Bmp) (l:List Item):Int:=
  if ov o0 o1 o3 o4 o5 o7 = true then (if symbols.all shp = true then (if l.all shpI = true then 0 else 30) else 30) else 2
def rights (rf:Bool) (n:Int) (l:List Item):Bool:=decide (n≤60)&&decide ((l.length:Int)≤300)&&l.all (itm rf n)
section
variable {fl:Nat} (hfl:9223372036854775808≤fl)
include hfl
theorem has4 {x:Int} {K:Bool→Option Ans}:F_slices_Contains_int_int fl [1,2,4,8] x K = K (decide (x = 1∨x = 2∨x = 4∨x = 8)):=by
  obtain ⟨m,rfl⟩:∃ m,fl = m + 5:=⟨fl - 5,by omega⟩
  unfold F_slices_Contains_int_int Fg_slices_Contains_int_int F_slices_Index_int_int L_slices_Index_int_int_0
  by_cases h1:x = 1
  · subst h1; rfl
  by_cases h2:x = 2
  · subst h2; rfl
  by_cases h4:x = 4
  · subst h4; rfl
  by_cases h8:x = 8
  · subst h8; rfl
  rw [decide_eq_false (by omega)]
  have e:∀ (i:Nat) (c:List Int×Int×Int×Int→Option Ans) (b:(Int→Option Ans)×(Unit→Option Ans)),i < 4→S_slices_Index_int_int_0 (m + 5) ([1,2,4,8],x,4,(i:Int)) c b = c ([1,2,4,8],x,4,((i + 1:Nat):Int)):=by
    intro i c b hi
    obtain ⟨ret,b⟩:=b
    have hh:i = 0∨i = 1∨i = 2∨i = 3:=by omega
    simp only [S_slices_Index_int_int_0]
    rw [dec_t (by omega),dec_t (show _∧_ from ⟨by omega,by show (i:Int) < 4; omega⟩),Int.toNat_natCast]
    rcases hh with rfl | rfl | rfl | rfl
    · rw [cond_f (by simp [h1])]; rfl
    · rw [cond_f (by simp [h2])]; rfl
    · rw [cond_f (by simp [h4])]; rfl
    · rw [cond_f (by simp [h8])]; rfl
  refine iter_seq (step:=S_slices_Index_int_int_0 (m + 5)) (fun i:Nat=>([1,2,4,8],x,4,(i:Int))) 4 rfl (fun i hi c=>e i c _ hi) (fun c=> ?_) (by omega)
  simp only [S_slices_Index_int_int_0]
  rw [dec_f (by omega)]
  rfl
theorem tvalid {o0 o1 o3 o4 o5 o7:Int} {tu rf:Bool} {K:Bool→Option Ans}:F_text_Valid fl o0 o1 tu o3 o4 o5 rf o7 K = K (ov o0 o1 o3 o4 o5 o7):=by
  unfold F_text_Valid Fg_text_Valid
  rw [has4 hfl]
  unfold ov
  by_cases h0:o0 = 1∨o0 = 2∨o0 = 4∨o0 = 8
  rotate_left
  · rw [decide_eq_false h0,cond_false]
    congr 1
    symm
    exact decide_eq_false (fun h=>h0 h.1)
  rw [decide_eq_true h0,cond_true]
  by_cases h1:0≤o1
  rotate_left
  · rw [dec_f (by omega),decide_eq_false (by omega)]
  by_cases h2:o1≤3
  rotate_left
  · rw [dec_t (by omega),dec_f (by omega),decide_eq_false (by omega)]
  by_cases h3: -16≤o3
  rotate_left
  · rw [dec_t (by omega),dec_t (by omega),dec_f (by omega),decide_eq_false (by omega)]
  by_cases h4:o3≤16
  rotate_left
  · rw [dec_t (by omega),dec_t (by omega),dec_t (by omega),dec_f (by omega),decide_eq_false (by omega)]
  by_cases h5:0≤o4
  rotate_left
  · rw [dec_t (by omega),dec_t (by omega),dec_t (by omega),dec_t (by omega),dec_f (by omega),decide_eq_false (by omega)]
  by_cases h6:o4≤4
  rotate_left
  · rw [dec_t (by omega),dec_t (by omega),dec_t (by omega),dec_t (by omega),dec_t (by omega),dec_f (by omega),decide_eq_false (by omega)]
  rw [dec_t (by omega),dec_t (by omega),dec_t (by omega),dec_t (by omega),dec_t (by omega),dec_t (by omega)]
  simp only [cb]
  have e7:(o7==1) = decide (o7 = 1):=rfl
  rw [e7]
  repeat' split
  all_goals congr 1
  all_goals first | (rw [decide_eq_true (by omega)]) | (rw [decide_eq_false (by omega)]) | skip
  all_goals first | (rw [decide_eq_decide]; omega) | (symm; rw [decide_eq_true_iff]; omega) | (symm; rw [decide_eq_false_iff_not]; omega) | skip
theorem isShape_ok {w h:Int} {p:List Int} {K:Bool→Option Ans}:F_text_isShape fl w h p K = K (shp (w,h,p)):=by
  unfold F_text_isShape Fg_text_isShape shp
  dsimp only
  rw [valid_ok hfl]
  cases valid w h p with
  | false=>rfl
  | true=>
    rw [cond_true]
    by_cases h1:w≥1
    rotate_left
    · rw [dec_f h1,decide_eq_false (by omega)]; rfl
    rw [dec_t h1]
    by_cases h2:w≤40
    rotate_left
    · rw [dec_f h2,decide_eq_false (by omega)]; rfl
    rw [dec_t h2]
    by_cases h3:h≥1
    rotate_left
    · rw [dec_f h3,decide_eq_false (by omega)]; rfl
    rw [dec_t h3,Bool.true_and]
    congr 1
    exact decide_eq_decide.2 (by omega)
theorem bm_loop {l:List Bmp} (hl:l.length≤1000000000000000) {K:Bool→Option Ans}:F_slices_ContainsFunc_api_Bitmap_api_Bitmap_261 fl l K = K (!l.all shp):=by
  unfold F_slices_ContainsFunc_api_Bitmap_api_Bitmap_261 Fg_slices_ContainsFunc_api_Bitmap_api_Bitmap_261 F_slices_IndexFunc_api_Bitmap_api_Bitmap_261 Fg_slices_IndexFunc_api_Bitmap_api_Bitmap_261 L_slices_IndexFunc_api_Bitmap_api_Bitmap_261_0
  have st:∀ i:Nat,i < l.length→∀ c ret b,S_slices_IndexFunc_api_Bitmap_api_Bitmap_261_0 fl (l,(l.length:Int),(i:Int)) c (ret,b) = if shp (l.getD i (0,0,[])) = true then c (l,(l.length:Int),((i + 1:Nat):Int)) else ret (i:Int):=by
    intro i hi c ret b
    simp only [S_slices_IndexFunc_api_Bitmap_api_Bitmap_261_0,Sg_slices_IndexFunc_api_Bitmap_api_Bitmap_261_0,F_text_begun_1,Fg_text_begun_1]
    rw [dec_t (by omega),dec_t (by omega),Int.toNat_natCast,isShape_ok hfl]
    try dsimp only
    rw [show ((l.getD i (0,0,[])).fst,(l.getD i (0,0,[])).snd.fst,(l.getD i (0,0,[])).snd.snd) = l.getD i (0,0,[]) from rfl,wrap64 (by omega) (by omega)]
    cases shp (l.getD i (0,0,[])) <;> rfl
  rcases all_or_first shp (0,0,[]) l with ha | ⟨n,hn,hb,hi⟩
  · rw [ha]
    refine iter_to (step:=S_slices_IndexFunc_api_Bitmap_api_Bitmap_261_0 fl) (fun i:Nat=>(l,(l.length:Int),(i:Int))) l.length (fun i hi c=>by rw [st i hi,if_pos (all_getD ha _ hi)]) (fun c=> ?_) (by omega)
    simp only [S_slices_IndexFunc_api_Bitmap_api_Bitmap_261_0,Sg_slices_IndexFunc_api_Bitmap_api_Bitmap_261_0]
    rw [dec_f (by omega)]
    rfl
  · rw [not_all hn hb]
    refine iter_to (step:=S_slices_IndexFunc_api_Bitmap_api_Bitmap_261_0 fl) (fun i:Nat=>(l,(l.length:Int),(i:Int))) n (fun i hi' c=>by rw [st i (by omega),if_pos (hi i hi')]) (fun c=> ?_) (by omega)
    rw [st n hn,if_neg (by rw [hb]; simp)]
    show K (decide ((n:Int)≥0)) = K true
    rw [decide_eq_true (by omega)]
theorem it_loop {l:List Item} (hl:l.length≤1000000000000000) {K:Bool→Option Ans}:F_slices_ContainsFunc_api_Item_api_Item_177 fl l K = K (!l.all shpI):=by
  unfold F_slices_ContainsFunc_api_Item_api_Item_177 Fg_slices_ContainsFunc_api_Item_api_Item_177 F_slices_IndexFunc_api_Item_api_Item_177 Fg_slices_IndexFunc_api_Item_api_Item_177 L_slices_IndexFunc_api_Item_api_Item_177_0
  have st:∀ i:Nat,i < l.length→∀ c ret b,S_slices_IndexFunc_api_Item_api_Item_177_0 fl (l,(l.length:Int),(i:Int)) c (ret,b) = if shpI (l.getD i (0,0,0,false,0,0,0,0,[])) = true then c (l,(l.length:Int),((i + 1:Nat):Int)) else ret (i:Int):=by
    intro i hi c ret b
    simp only [S_slices_IndexFunc_api_Item_api_Item_177_0,Sg_slices_IndexFunc_api_Item_api_Item_177_0,F_text_begun_2,Fg_text_begun_2]
    rw [dec_t (by omega),dec_t (by omega),Int.toNat_natCast,isShape_ok hfl,wrap64 (by omega) (by omega)]
    generalize l.getD i (0,0,0,false,0,0,0,0,[]) = it
    unfold shpI Item.pix
    cases it.2.2.2.1 with
    | false=>rfl
    | true=>
      rw [cond_true]
      cases shp (it.2.2.2.2.2.2.1,it.2.2.2.2.2.2.2.1,it.2.2.2.2.2.2.2.2) <;> rfl
  rcases all_or_first shpI (0,0,0,false,0,0,0,0,[]) l with ha | ⟨n,hn,hb,hi⟩
  · rw [ha]
    refine iter_to (step:=S_slices_IndexFunc_api_Item_api_Item_177_0 fl) (fun i:Nat=>(l,(l.length:Int),(i:Int))) l.length (fun i hi c=>by rw [st i hi,if_pos (all_getD ha _ hi)]) (fun c=> ?_) (by omega)
    simp only [S_slices_IndexFunc_api_Item_api_Item_177_0,Sg_slices_IndexFunc_api_Item_api_Item_177_0]
    rw [dec_f (by omega)]
    rfl
  · rw [not_all hn hb]
    refine iter_to (step:=S_slices_IndexFunc_api_Item_api_Item_177_0 fl) (fun i:Nat=>(l,(l.length:Int),(i:Int))) n (fun i hi' c=>by rw [st i (by omega),if_pos (hi i hi')]) (fun c=> ?_) (by omega)
    rw [st n hn,if_neg (by rw [hb]; simp)]
    show K (decide ((n:Int)≥0)) = K true
    rw [decide_eq_true (by omega)]
theorem begun_ok {o0 o1 o3 o4 o5 o7:Int} {tu rf:Bool} {symbols:List Bmp} {l:List Item} (hs:symbols.length≤1000000000000000) (hl:l.length≤1000000000000000) {K:Int→Option Ans}:
    F_text_begun fl o0 o1 tu o3 o4 o5 rf o7 symbols l K = K (bErr o0 o1 o3 o4 o5 o7 symbols l):=by
  unfold F_text_begun Fg_text_begun bErr
  rw [tvalid hfl]
  cases ov o0 o1 o3 o4 o5 o7 with
  | false=>rfl
  | true=>
    rw [cond_f (b:=!true) rfl,bm_loop hfl hs]
    cases symbols.all shp with
    | false=>rfl
    | true=>
      rw [cond_f (b:=!true) rfl,it_loop hfl hl]
      cases l.all shpI <;> rfl
end
theorem near_ok {fl:Nat} {x m:Int} (h0:0≤m) (h1:m≤1000000) {K:Bool→Option Ans}:F_text_near fl x m K = K (decide (near x m)):=by
  unfold F_text_near near
  rw [w6 (x:=0 - m)]
  by_cases h:x≥0 - m
  · rw [dec_t h]
    congr 1
    exact decide_eq_decide.2 (by omega)
  · rw [dec_f h]
    congr 1
    symm
    exact decide_eq_false (by omega)
theorem rightItem_ok {fl:Nat} {o0 o1 o3 o4 o5 o7 n:Int} {tu rf:Bool} {i:Item} {K:Bool→Option Ans}:
    F_text_rightItem fl o0 o1 tu o3 o4 o5 rf o7 n i.1 i.2.1 i.2.2.1 i.2.2.2.1 i.2.2.2.2.1 i.2.2.2.2.2.1 i.2.2.2.2.2.2.1 i.2.2.2.2.2.2.2.1 i.2.2.2.2.2.2.2.2 K = K (itm rf n i):=by
  obtain ⟨a,s,t,r,dx,dy,w,h,p⟩:=i
  unfold F_text_rightItem Fg_text_rightItem itm
  dsimp only
  by_cases h1:a < 0
  · rw [dec_t h1,decide_eq_false (by omega)]; rfl
  rw [dec_f h1]
  by_cases h2:a≥n
  · rw [dec_t h2,decide_eq_false (by omega)]; rfl
  rw [dec_f h2,near_ok (by omega) (by omega)]
  by_cases h3:near s 100000
  rotate_left
  · rw [decide_eq_false h3,decide_eq_false (fun h=>h3 h.2.2.1)]; rfl
  rw [decide_eq_true h3,cond_f (b:=!true) rfl,near_ok (by omega) (by omega)]
  by_cases h4:near t 100000
  rotate_left
  · rw [decide_eq_false h4,decide_eq_false (fun h=>h4 h.2.2.2)]; rfl
  rw [decide_eq_true h4,cond_f (b:=!true) rfl,decide_eq_true (show 0≤a∧a < n∧near s 100000∧near t 100000 from ⟨by omega,by omega,h3,h4⟩),Bool.true_and]
  cases r with
  | false=>
    rw [cond_t (b:=!false) rfl,if_neg (by simp)]
    simp only [cb]
    have e:((p.length:Int)==0) = decide ((p.length:Int) = 0):=rfl
    rw [e]
    repeat' split
    all_goals congr 1
    · exact decide_eq_decide.2 (by omega)
    all_goals rw [decide_eq_false (by omega)]
  | true=>
    rw [cond_f (b:=!true) rfl,if_pos rfl]
    cases rf with
    | false=>rfl
    | true=>
      rw [cond_true,near_ok (by omega) (by omega)]
      by_cases h5:near dx 200
      · rw [decide_eq_true h5,cond_true,near_ok (by omega) (by omega),Bool.true_and]
        congr 1
        exact decide_eq_decide.2 ⟨fun h=>⟨h5,h⟩,fun h=>h.2⟩
      · rw [decide_eq_false h5,decide_eq_false (fun h=>h5 h.1)]; rfl
section
variable {fl:Nat} (hfl:9223372036854775808≤fl)
include hfl
theorem right_ok {o0 o1 o3 o4 o5 o7 n:Int} {tu rf:Bool} {l:List Item} {K:Bool→Option Ans}:F_text_right fl o0 o1 tu o3 o4 o5 rf o7 n l K = K (rights rf n l):=by
  unfold F_text_right Fg_text_right rights
  by_cases h1:n≤60
  rotate_left
  · rw [dec_f h1,decide_eq_false h1]; rfl
  rw [dec_t h1,decide_eq_true h1]
  by_cases h2:(l.length:Int)≤300
  rotate_left
  · rw [dec_f h2,decide_eq_false h2]; rfl
  rw [dec_t h2,decide_eq_true h2]
  unfold F_slices_ContainsFunc_api_Item_api_Item_766 Fg_slices_ContainsFunc_api_Item_api_Item_766 F_slices_IndexFunc_api_Item_api_Item_766 Fg_slices_IndexFunc_api_Item_api_Item_766 L_slices_IndexFunc_api_Item_api_Item_766_0
  have st:∀ i:Nat,i < l.length→∀ c ret b,S_slices_IndexFunc_api_Item_api_Item_766_0 fl (l,(l.length:Int),(i:Int),o0,o1,tu,o3,o4,o5,rf,o7,n) c (ret,b) = if itm rf n (l.getD i (0,0,0,false,0,0,0,0,[])) = true then c (l,(l.length:Int),((i + 1:Nat):Int),o0,o1,tu,o3,o4,o5,rf,o7,n) else ret ((i:Int),o0,o1,tu,o3,o4,o5,rf,o7,n):=by
    intro i hi c ret b
    simp only [S_slices_IndexFunc_api_Item_api_Item_766_0,Sg_slices_IndexFunc_api_Item_api_Item_766_0,F_text_right_1_e36,Fg_text_right_1_e36]
    rw [dec_t (by omega),dec_t (by omega),Int.toNat_natCast,rightItem_ok]
    try dsimp only
    rw [wrap64 (by omega) (by omega)]
    cases itm rf n (l.getD i (0,0,0,false,0,0,0,0,[])) <;> rfl
  rcases all_or_first (itm rf n) (0,0,0,false,0,0,0,0,[]) l with ha | ⟨j,hn,hb,hi⟩
  · rw [ha]
    refine iter_to (step:=S_slices_IndexFunc_api_Item_api_Item_766_0 fl) (fun i:Nat=>(l,(l.length:Int),(i:Int),o0,o1,tu,o3,o4,o5,rf,o7,n)) l.length (fun i hi c=>by rw [st i hi,if_pos (all_getD ha _ hi)]) (fun c=> ?_) (by omega)
    simp only [S_slices_IndexFunc_api_Item_api_Item_766_0,Sg_slices_IndexFunc_api_Item_api_Item_766_0]
    rw [dec_f (by omega)]
    rfl
  · rw [not_all hn hb]
    refine iter_to (step:=S_slices_IndexFunc_api_Item_api_Item_766_0 fl) (fun i:Nat=>(l,(l.length:Int),(i:Int),o0,o1,tu,o3,o4,o5,rf,o7,n)) j (fun i hi' c=>by rw [st i (by omega),if_pos (hi i hi')]) (fun c=> ?_) (by omega)
    rw [st j hn,if_neg (by rw [hb]; simp)]
    show K (!decide ((j:Int)≥0)) = K (true&&true&&false)
    rw [decide_eq_true (by omega)]
    rfl
end
end Go.Proofs.YtmjeeaemmbkioaaGreat.Tx
namespace Go.Proofs.YtmjeeaemmbkioaaGreat.Co
open Go Ev
def Bytes (l:List Int):Prop:=∀ v ∈ l,0≤v∧v≤255
theorem shlU {x b:Int} (h1:0≤x) (h2:x < 4294967296) (b1:0≤b) (b2:b≤255):ior .u64 (iand .u64 (ishl .u64 x 8) 4294967295) b = x % 16777216 * 256 + b:=by
  rw [nlU h1 h2]
  unfold ior nl
  have e1:IntKind.u64.bits = 64:=rfl
  rw [e1,BitVec.toNat_or,ofInt_toNat (by omega) (by omega),ofInt_toNat (by omega) (by omega)]
  have h3:(x % 16777216 * 256).toNat = (x % 16777216).toNat <<< 8:=by rw [Nat.shiftLeft_eq]; omega
  rw [h3, ← Nat.shiftLeft_add_eq_or_of_lt (by omega),Nat.shiftLeft_eq,wrapU (by omega) (by omega)]
  omega
def byd (code:List Int) (k:Nat):Int:=((4 + k - code.length:Nat):Int)
theorem strm_get {code:List Int} {n:Nat} (h:n < code.length):code.getD n 0 = strm code n:=rfl
theorem strm_out {code:List Int} {n:Nat} (h:¬ n < code.length):strm code n = 0:=by
  unfold strm
  rw [List.getD_eq_getElem?_getD,List.getElem?_eq_none (by omega)]
  rfl
theorem shift_ok {fl:Nat} {kd lo hi:Int} {code:List Int} (hb:Bytes code) (hl:code.length≤10000000) {k:Nat} (hk:k≤100000000) {e r:Bool} {st:List Int} {K:Int×Int×Int×Int×Int×Int×Bool×Bool×List Int×List Int→Option Ans}:
    F_coder_Decoder_shift_40a fl kd lo hi ((4 + k:Nat):Int) (win (strm code) k) (byd code k) e r st code K = K (kd,lo,hi,((4 + (k + 1):Nat):Int),win (strm code) (k + 1),byd code (k + 1),e,r,st,code):=by
  have hS:=strm_byt hb
  obtain ⟨w1,w2⟩:=win_rg hS k
  have hn:=win_next hS k
  unfold F_coder_Decoder_shift_40a
  rw [w6 (x:=((4 + k:Nat):Int) + 1)]
  by_cases h:4 + k < code.length
  · have hv:=hb _ (getD_mem h 0)
    have e4:strm code (4 + k) = strm code (k + 4):=by rw [Nat.add_comm]
    rw [dec_t (by omega),dec_t (by omega),Int.toNat_natCast,wrapU (by omega) (by omega),shlU w1 w2 hv.1 hv.2,strm_get h,e4, ← hn]
    congr 1
    unfold byd
    rw [show 4 + k - code.length = 4 + (k + 1) - code.length by omega]
    rfl
  · rw [dec_f (by omega),wrapU (by omega) (by omega),shlU w1 w2 (by omega) (by omega)]
    have h0:strm code (k + 4) = 0:=strm_out (by omega)
    rw [h0] at hn
    rw [← hn]
    congr 1
    unfold byd
    rw [wrap64 (by omega) (by omega),show ((4 + k - code.length:Nat):Int) + 1 = ((4 + (k + 1) - code.length:Nat):Int) by omega]
    rfl
end Go.Proofs.YtmjeeaemmbkioaaGreat.Co
namespace Go.Proofs.YtmjeeaemmbkioaaGreat.Dc
open Go Ev Bm Co
inductive Dec (α:Type) where
  | ret (a:α)
  | bad (e:Int)
  | get (c:Int) (k:Int→Dec α)
structure S where
  ok:Bool
  x:Iv
  k:Nat
def Dec.All {α:Type} (n:Nat) (P:α→Prop):Dec α→Prop
  | .ret a=>P a
  | .bad e=>e = 3
  | .get c k=>(0≤c∧c < (n:Int))∧∀ b,b = 0∨b = 1→(k b).All n P
theorem Dec.All.mono {α:Type} {n:Nat} {P Q:α→Prop} (h:∀ a,P a→Q a):∀ (d:Dec α),d.All n P→d.All n Q
  | .ret a,hd=>h a hd
  | .bad _,hd=>hd
  | .get c k,hd=>⟨hd.1,fun b hb=>Dec.All.mono h (k b) (hd.2 b hb)⟩
structure St (kx:Int) (code:List Int) (n:Nat) (s:S):Prop where
  ok:s.ok = true
  x:s.x.Ok kx
  sl:s.x.st.length = n
  k:s.k≤code.length
open Go Ev Bm Co
open Go Ev Bm Co
section
variable {fl:Nat} (hfl:9223372036854775808≤fl)
include hfl
end
theorem Evs.app {n:Nat} {a b:List (Int×Int)} (ha:Evs n a) (hb:Evs n b):Evs n (a++b):=fun e he=>by
  rcases List.mem_append.1 he with he | he
  · exact ha e he
  · exact hb e he
theorem Evs.one {n:Nat} {c b:Int} (h0:0≤c) (h1:c < (n:Int)) (hb:b = 0∨b = 1):Evs n [(c,b)]:=fun e he=>by
  rw [List.mem_singleton] at he
  subst he
  exact ⟨h0,h1,hb⟩
theorem Evs.nil (n:Nat):Evs n []:=fun e he=>by cases he
section
variable {fl:Nat} (hfl:9223372036854775808≤fl)
include hfl
end
end Go.Proofs.YtmjeeaemmbkioaaGreat.Dc
namespace Go.Proofs.YtmjeeaemmbkioaaGreat.Rf
open Go Ev Bm Co Gen Dc
def bs:List (Int×Int):=[(0,0),(-1,0),(1,0),(0, -1),(0,1)]
structure RR (t dx dy kd w h:Int) (p:List Int) (rw rh:Int) (rp:List Int):Prop where
  t:t = 0∨t = 1
  k:kd = 0∨kd = 1
  x: -200≤dx∧dx≤200
  y: -200≤dy∧dy≤200
  p:Pix w h p
  r:Pix rw rh rp
section
variable {fl:Nat} (hfl:9223372036854775808≤fl) {t dx dy kd w h:Int} {p:List Int} {rw rh:Int} {rp:List Int} {ty:Bool}
include hfl
end
section
variable (t dx dy base w h:Int) (p:List Int) (rw rh:Int) (rp:List Int)
end
section
variable {t dx dy base w h kd:Int} {p:List Int} {rw rh:Int} {rp:List Int} {n:Nat}
end
section
variable {fl:Nat} (hfl:9223372036854775808≤fl) {t dx dy base w h kd:Int} {p:List Int} {rw rh:Int} {rp:List Int}
include hfl
end
open Go Ev Bm Co Gen Dc
section
variable {t dx dy base w h kd:Int} {p:List Int} {rw rh:Int} {rp:List Int} {n:Nat}
end
end Go.Proofs.YtmjeeaemmbkioaaGreat.Rf
namespace Go.Proofs.YtmjeeaemmbkioaaGreat.Dc
open Go Ev Bm Co
structure Cd (code:List Int) (n:Nat):Prop where
  b:Bytes code
  l:code.length≤10000000
  n:n≤8192
section
variable {fl:Nat} (hfl:9223372036854775808≤fl) {kx:Int} {code:List Int} {n:Nat} (hc:Cd code n)
include hfl hc
end
end Go.Proofs.YtmjeeaemmbkioaaGreat.Dc
namespace Go.Proofs.YtmjeeaemmbkioaaGreat.Tx
open Go Ev Bm Co Gen Dc Rf
theorem floor_ok {fl:Nat} {a b:Int} (hb:b = 1∨b = 2∨b = 4∨b = 8) (h:near a 1000000) {K:Int→Option Ans}:F_text_floor fl a b K = K (a / b):=by
  obtain ⟨h1,h2⟩:=h
  unfold F_text_floor
  rw [dec_f (by omega),dec_f (by omega),cn]
  have key:∀ b:Int,0 < b→b≤8→ -1000000≤a.tdiv b∧a.tdiv b≤1000000:=by
    intro b hb0 hb8
    rcases Int.le_total 0 a with ha | ha
    · rw [Int.tdiv_eq_ediv_of_nonneg ha]
      have:=Int.ediv_le_self b ha
      have:=Int.ediv_nonneg ha (Int.le_of_lt hb0)
      omega
    · have e:a.tdiv b = -((-a) / b):=by
        rw [← Int.tdiv_eq_ediv_of_nonneg (by omega),Int.neg_tdiv,Int.neg_neg]
      have:=Int.ediv_le_self b (show 0≤ -a by omega)
      have:=Int.ediv_nonneg (show 0≤ -a by omega) (Int.le_of_lt hb0)
      omega
  have kb:=key b (by omega) (by omega)
  rw [w6 (x:=a.tdiv b),w6 (x:=a.tdiv b - 1)]
  rcases Int.le_total 0 a with ha | ha
  · have e:a.tdiv b = a / b:=Int.tdiv_eq_ediv_of_nonneg ha
    rw [e]
    split
    · rfl
    · rw [dec_f (by omega)]
  · have e:a.tdiv b = -((-a) / b):=by
      rw [← Int.tdiv_eq_ediv_of_nonneg (by omega),Int.neg_tdiv,Int.neg_neg]
    have e2:a.tmod b = -((-a) % b):=by
      rw [← Int.tmod_eq_emod_of_nonneg (by omega),Int.neg_tmod,Int.neg_neg]
    rw [e,e2]
    rcases hb with rfl | rfl | rfl | rfl
    all_goals
      split
      · congr 1; omega
      · by_cases h0:a < 0
        · rw [dec_t h0]; congr 1; omega
        · omega
theorem strip_ok {fl:Nat} {o0 o1 o3 o4 o5 o7:Int} {tu rf:Bool} (hb:o0 = 1∨o0 = 2∨o0 = 4∨o0 = 8) {a s t:Int} {r:Bool} {dx dy w h:Int} {p:List Int} (ht:near t 1000000) {K:Int→Option Ans}:
    F_text_strip fl o0 o1 tu o3 o4 o5 rf o7 a s t r dx dy w h p K = K (t / o0):=by
  unfold F_text_strip Fg_text_strip
  rw [floor_ok hb ht]
open Go Ev Bm Co
theorem rsize_ok {fl:Nat} {w h:Int} {K:Bool→Option Ans}:F_ref06_IsSize fl w h K = K (fit w h):=by
  unfold F_ref06_IsSize fit
  by_cases h1:w≥0
  rotate_left
  · rw [dec_f h1,decide_eq_false (by omega)]
  by_cases h2:w≤200
  rotate_left
  · rw [dec_t h1,dec_f h2,decide_eq_false (by omega)]
  by_cases h3:h≥0
  rotate_left
  · rw [dec_t h1,dec_t h2,dec_f h3,decide_eq_false (by omega)]
  by_cases h4:h≤200
  rotate_left
  · rw [dec_t h1,dec_t h2,dec_t h3,dec_f h4,decide_eq_false (by omega)]
  rw [dec_t h1,dec_t h2,dec_t h3,dec_t h4]
  obtain ⟨q1,q2⟩:=mul_le (a:=200) (b:=200) h1 h2 h3 h4
  rw [wrap64 (by omega) (by omega)]
  congr 1
  exact decide_eq_decide.2 (by omega)
section
variable {fl:Nat} (hfl:9223372036854775808≤fl)
include hfl
theorem rrow_ok {p:List Int} (hp:p.length≤1000000000000000) {K:Bool→Option Ans}:F_ref06_IsRow fl p K = K (p.all fun x=>decide (x≤1)):=by
  unfold F_ref06_IsRow L_ref06_IsRow_0
  rcases all_or_first (fun x:Int=>decide (x≤1)) 0 p with ha | ⟨n,hn,hb,hi⟩
  · rw [ha]
    refine iter_to (step:=S_ref06_IsRow_0 fl) (fun i:Nat=>(p,(p.length:Int),(i:Int))) p.length (fun i hi c=> ?_) (fun c=> ?_) (by omega)
    · have:=of_decide_eq_true (all_getD ha 0 hi)
      simp only [S_ref06_IsRow_0]
      rw [dec_t (by omega),dec_t (by omega),Int.toNat_natCast,dec_f (by omega),wrap64 (by omega) (by omega)]
      rfl
    · simp only [S_ref06_IsRow_0]
      rw [dec_f (by omega)]
  · rw [not_all hn hb]
    refine iter_to (step:=S_ref06_IsRow_0 fl) (fun i:Nat=>(p,(p.length:Int),(i:Int))) n (fun i hi' c=> ?_) (fun c=> ?_) (by omega)
    · have:=of_decide_eq_true (hi i hi')
      simp only [S_ref06_IsRow_0]
      rw [dec_t (by omega),dec_t (by omega),Int.toNat_natCast,dec_f (by omega),wrap64 (by omega) (by omega)]
      rfl
    · have:=of_decide_eq_false hb
      simp only [S_ref06_IsRow_0]
      rw [dec_t (by omega),dec_t (by omega),Int.toNat_natCast,dec_t (by omega)]
theorem rbitmap_ok {w h:Int} {p:List Int} {K:Bool→Option Ans}:F_ref06_IsBitmap fl w h p K = K (valid w h p):=by
  unfold F_ref06_IsBitmap Fg_ref06_IsBitmap valid
  rw [rsize_ok]
  cases hf:fit w h with
  | false=>rfl
  | true=>
    have hm:=fit_iff.1 hf
    rw [cond_true,fit_mul hf,Bool.true_and]
    by_cases hl:(p.length:Int) = w * h
    · rw [cond_t (by simp [hl]),rrow_ok hfl (by omega),decide_eq_true hl,Bool.true_and]
    · rw [cond_f (by simp [hl]),decide_eq_false hl,Bool.false_and]
theorem rshape_ok {w h:Int} {p:List Int} {K:Bool→Option Ans}:F_ref10_IsShape fl w h p K = K (shp (w,h,p)):=by
  unfold F_ref10_IsShape Fg_ref10_IsShape shp
  dsimp only
  rw [rbitmap_ok hfl]
  cases valid w h p with
  | false=>rfl
  | true=>
    rw [cond_true]
    by_cases h1:w≥1
    rotate_left
    · rw [dec_f h1,decide_eq_false (by omega)]; rfl
    rw [dec_t h1]
    by_cases h2:w≤40
    rotate_left
    · rw [dec_f h2,decide_eq_false (by omega)]; rfl
    rw [dec_t h2]
    by_cases h3:h≥1
    rotate_left
    · rw [dec_f h3,decide_eq_false (by omega)]; rfl
    rw [dec_t h3,Bool.true_and]
    congr 1
    exact decide_eq_decide.2 (by omega)
end
theorem rvalid {fl:Nat} {o0 o1 o3 o4 o5 o7:Int} {tu rf:Bool} {K:Bool→Option Ans}:F_ref10_Valid fl o0 o1 tu o3 o4 o5 rf o7 K = K (ov o0 o1 o3 o4 o5 o7):=by
  unfold F_ref10_Valid ov
  simp only [cn,cd]
  have rest:(if o1≥0 then if o1≤3 then if o3≥ -16 then if o3≤16 then if o4≥0 then if o4≤4 then if o5≥0 then if o5≤1 then if o7≥0 then K (decide (o7≤1)) else K false else K false else K false else K false else K false else K false else K false else K false else K false) = K (decide (0≤o1∧o1≤3∧ -16≤o3∧o3≤16∧0≤o4∧o4≤4∧(o5 = 0∨o5 = 1)∧(o7 = 0∨o7 = 1))):=by
    by_cases h1:o1≥0
    rotate_left
    · rw [if_neg h1,decide_eq_false (by omega)]
    by_cases h2:o1≤3
    rotate_left
    · rw [if_pos h1,if_neg h2,decide_eq_false (by omega)]
    by_cases h3:o3≥ -16
    rotate_left
    · rw [if_pos h1,if_pos h2,if_neg h3,decide_eq_false (by omega)]
    by_cases h4:o3≤16
    rotate_left
    · rw [if_pos h1,if_pos h2,if_pos h3,if_neg h4,decide_eq_false (by omega)]
    by_cases h5:o4≥0
    rotate_left
    · rw [if_pos h1,if_pos h2,if_pos h3,if_pos h4,if_neg h5,decide_eq_false (by omega)]
    by_cases h6:o4≤4
    rotate_left
    · rw [if_pos h1,if_pos h2,if_pos h3,if_pos h4,if_pos h5,if_neg h6,decide_eq_false (by omega)]
    by_cases h7:o5≥0
    rotate_left
    · rw [if_pos h1,if_pos h2,if_pos h3,if_pos h4,if_pos h5,if_pos h6,if_neg h7,decide_eq_false (by omega)]
    by_cases h8:o5≤1
    rotate_left
    · rw [if_pos h1,if_pos h2,if_pos h3,if_pos h4,if_pos h5,if_pos h6,if_pos h7,if_neg h8,decide_eq_false (by omega)]
    by_cases h9:o7≥0
    rotate_left
    · rw [if_pos h1,if_pos h2,if_pos h3,if_pos h4,if_pos h5,if_pos h6,if_pos h7,if_pos h8,if_neg h9,decide_eq_false (by omega)]
    rw [if_pos h1,if_pos h2,if_pos h3,if_pos h4,if_pos h5,if_pos h6,if_pos h7,if_pos h8,if_pos h9]
    exact congrArg K (decide_eq_decide.2 (by omega))
  rw [rest]
  by_cases a1:o0 = 1
  · rw [if_pos a1]
    exact congrArg K (decide_eq_decide.2 (by omega))
  by_cases a2:o0 = 2
  · rw [if_neg a1,if_pos a2]
    exact congrArg K (decide_eq_decide.2 (by omega))
  by_cases a3:o0 = 4
  · rw [if_neg a1,if_neg a2,if_pos a3]
    exact congrArg K (decide_eq_decide.2 (by omega))
  by_cases a4:o0 = 8
  · rw [if_neg a1,if_neg a2,if_neg a3,if_pos a4]
    exact congrArg K (decide_eq_decide.2 (by omega))
  rw [if_neg a1,if_neg a2,if_neg a3,if_neg a4]
  exact congrArg K (decide_eq_false (by omega)).symm
theorem shift_ok {fl:Nat} {x:Int} {K:Bool→Option Ans}:F_ref10_isShift fl x K = K (decide (near x 100000)):=by
  unfold F_ref10_isShift near
  by_cases h:x≥ -100000
  · rw [dec_t h]
    congr 1
    exact decide_eq_decide.2 (by omega)
  · rw [dec_f h]
    congr 1
    symm
    exact decide_eq_false (by omega)
theorem side_ok {fl:Nat} {x:Int} {K:Bool→Option Ans}:F_ref10_isSide fl x K = K (decide (near x 200)):=by
  unfold F_ref10_isSide near
  by_cases h:x≥ -200
  · rw [dec_t h]
    congr 1
    exact decide_eq_decide.2 (by omega)
  · rw [dec_f h]
    congr 1
    symm
    exact decide_eq_false (by omega)
theorem isItem_ok {fl:Nat} {o0 o1 o3 o4 o5 o7 n:Int} {tu rf:Bool} {i:Item} {K:Bool→Option Ans}:
    F_ref10_isItem fl o0 o1 tu o3 o4 o5 rf o7 n i.1 i.2.1 i.2.2.1 i.2.2.2.1 i.2.2.2.2.1 i.2.2.2.2.2.1 i.2.2.2.2.2.2.1 i.2.2.2.2.2.2.2.1 i.2.2.2.2.2.2.2.2 K = K (itm rf n i):=by
  obtain ⟨a,s,t,r,dx,dy,w,h,p⟩:=i
  unfold F_ref10_isItem Fg_ref10_isItem itm
  dsimp only
  by_cases h1:a < 0
  · rw [dec_t h1,decide_eq_false (by omega)]; rfl
  rw [dec_f h1]
  by_cases h2:a≥n
  · rw [dec_t h2,decide_eq_false (by omega)]; rfl
  rw [dec_f h2,shift_ok]
  by_cases h3:near s 100000
  rotate_left
  · rw [decide_eq_false h3,decide_eq_false (fun h=>h3 h.2.2.1)]; rfl
  rw [decide_eq_true h3,cond_f (b:=!true) rfl,shift_ok]
  by_cases h4:near t 100000
  rotate_left
  · rw [decide_eq_false h4,decide_eq_false (fun h=>h4 h.2.2.2)]; rfl
  rw [decide_eq_true h4,cond_f (b:=!true) rfl,decide_eq_true (show 0≤a∧a < n∧near s 100000∧near t 100000 from ⟨by omega,by omega,h3,h4⟩),Bool.true_and]
  cases r with
  | false=>
    rw [cond_false,if_neg (by simp)]
    simp only [cb]
    have e:((p.length:Int)==0) = decide ((p.length:Int) = 0):=rfl
    rw [e]
    repeat' split
    all_goals congr 1
    · exact decide_eq_decide.2 (by omega)
    all_goals rw [decide_eq_false (by omega)]
  | true=>
    rw [cond_true,if_pos rfl]
    cases rf with
    | false=>rfl
    | true=>
      rw [cond_true,side_ok]
      by_cases h5:near dx 200
      · rw [decide_eq_true h5,cond_true,side_ok,Bool.true_and]
        congr 1
        exact decide_eq_decide.2 ⟨fun h=>⟨h5,h⟩,fun h=>h.2⟩
      · rw [decide_eq_false h5,decide_eq_false (fun h=>h5 h.1)]; rfl
def rErr (o0 o1 o3 o4 o5 o7:Int) (rf:Bool) (symbols:List Bmp) (l:List Item) (right:Bool) (many:Int):Int:=
  if ov o0 o1 o3 o4 o5 o7 = true then (if (right&&symbols.all shp&&l.all shpI) = true then (if (decide ((symbols.length:Int)≤60)&&decide ((l.length:Int)≤300)&&l.all (itm rf many)) = true then 0 else 2) else 30) else 2
section
variable {fl:Nat} (hfl:9223372036854775808≤fl)
include hfl
theorem asked_ok {o0 o1 o3 o4 o5 o7 many:Int} {tu rf right:Bool} {symbols:List Bmp} {l:List Item} (hs:symbols.length≤1000000000000000) (hl:l.length≤1000000000000000) {K:Int→Option Ans}:
    F_ref10_asked fl o0 o1 tu o3 o4 o5 rf o7 symbols l right many K = K (rErr o0 o1 o3 o4 o5 o7 rf symbols l right many):=by
  unfold F_ref10_asked Fg_ref10_asked rErr
  rw [rvalid]
  cases ov o0 o1 o3 o4 o5 o7 with
  | false=>rfl
  | true=>
    rw [cond_f (b:=!true) rfl,if_pos rfl]
    unfold L_ref10_asked_0
    refine iter_seq (step:=S_ref10_asked_0 fl) (fun i:Nat=>(symbols,l,right&&(symbols.take i).all shp,many,symbols,(symbols.length:Int),(i:Int),o0,o1,tu,o3,o4,o5,rf,o7)) symbols.length (by simp) (fun i hi c=> ?_) (fun c=> ?_) (by omega)
    · simp only [S_ref10_asked_0,Sg_ref10_asked_0]
      rw [dec_t (by omega),dec_t (by omega),Int.toNat_natCast,wrap64 (by omega) (by omega),all_take_succ hi (0,0,[]), ← Bool.and_assoc]
      cases right&&(symbols.take i).all shp with
      | false=>rfl
      | true=>
        rw [cond_true,rshape_ok hfl,Bool.true_and]
        rfl
    simp only [S_ref10_asked_0,Sg_ref10_asked_0]
    rw [dec_f (by omega),List.take_length]
    try dsimp only
    unfold L_ref10_asked_2
    refine iter_seq (step:=S_ref10_asked_2 fl) (fun i:Nat=>(symbols,l,right&&symbols.all shp&&(l.take i).all shpI,many,l,(l.length:Int),(i:Int),o0,o1,tu,o3,o4,o5,rf,o7)) l.length (by simp) (fun i hi c=> ?_) (fun c=> ?_) (by omega)
    · simp only [S_ref10_asked_2,Sg_ref10_asked_2]
      rw [dec_t (by omega),dec_t (by omega),Int.toNat_natCast,wrap64 (by omega) (by omega),all_take_succ hi (0,0,0,false,0,0,0,0,[]), ← Bool.and_assoc]
      generalize l.getD i (0,0,0,false,0,0,0,0,[]) = it
      cases right&&symbols.all shp&&(l.take i).all shpI with
      | false=>rfl
      | true=>
        rw [cond_true,Bool.true_and]
        unfold shpI Item.pix
        cases it.2.2.2.1 with
        | false=>rfl
        | true=>
          rw [cond_f (b:=!true) rfl,rshape_ok hfl]
          rfl
    simp only [S_ref10_asked_2,Sg_ref10_asked_2]
    rw [dec_f (by omega),List.take_length]
    try dsimp only
    cases right&&symbols.all shp&&l.all shpI with
    | false=>rfl
    | true=>
      rw [cond_f (b:=!true) rfl,if_pos rfl]
      by_cases h1:(symbols.length:Int) > 60
      · rw [dec_t h1,decide_eq_false (show ¬ (symbols.length:Int)≤60 by omega)]; rfl
      rw [dec_f h1,decide_eq_true (show (symbols.length:Int)≤60 by omega)]
      by_cases h2:(l.length:Int) > 300
      · rw [dec_t h2,decide_eq_false (show ¬ (l.length:Int)≤300 by omega)]; rfl
      rw [dec_f h2,decide_eq_true (show (l.length:Int)≤300 by omega),Bool.true_and,Bool.true_and]
      unfold L_ref10_asked_4
      have st:∀ i:Nat,i < l.length→∀ c ret b,S_ref10_asked_4 fl (many,l,(l.length:Int),(i:Int),o0,o1,tu,o3,o4,o5,rf,o7) c (ret,b) = if itm rf many (l.getD i (0,0,0,false,0,0,0,0,[])) = true then c (many,l,(l.length:Int),((i + 1:Nat):Int),o0,o1,tu,o3,o4,o5,rf,o7) else ret 2:=by
        intro i hi c ret b
        simp only [S_ref10_asked_4,Sg_ref10_asked_4]
        rw [dec_t (by omega),dec_t (by omega),Int.toNat_natCast,isItem_ok]
        try dsimp only
        rw [wrap64 (by omega) (by omega)]
        cases itm rf many (l.getD i (0,0,0,false,0,0,0,0,[])) <;> rfl
      rcases all_or_first (itm rf many) (0,0,0,false,0,0,0,0,[]) l with ha | ⟨j,hn,hb,hi⟩
      · rw [ha,if_pos rfl]
        refine iter_to (step:=S_ref10_asked_4 fl) (fun i:Nat=>(many,l,(l.length:Int),(i:Int),o0,o1,tu,o3,o4,o5,rf,o7)) l.length (fun i hi c=>by rw [st i hi,if_pos (all_getD ha _ hi)]) (fun c=> ?_) (by omega)
        simp only [S_ref10_asked_4,Sg_ref10_asked_4]
        rw [dec_f (by omega)]
      · rw [not_all hn hb,if_neg (by simp)]
        refine iter_to (step:=S_ref10_asked_4 fl) (fun i:Nat=>(many,l,(l.length:Int),(i:Int),o0,o1,tu,o3,o4,o5,rf,o7)) j (fun i hi' c=>by rw [st i (by omega),if_pos (hi i hi')]) (fun c=> ?_) (by omega)
        rw [st j hn,if_neg (by rw [hb]; simp)]
end
theorem rErr_eq {o0 o1 o3 o4 o5 o7:Int} {rf:Bool} {symbols:List Bmp} {l:List Item} {many:Int}:rErr o0 o1 o3 o4 o5 o7 rf symbols l true many = if bErr o0 o1 o3 o4 o5 o7 symbols l = 0 then (if (decide ((symbols.length:Int)≤60)&&decide ((l.length:Int)≤300)&&l.all (itm rf many)) = true then 0 else 2) else bErr o0 o1 o3 o4 o5 o7 symbols l:=by
  unfold rErr bErr
  cases ov o0 o1 o3 o4 o5 o7 <;> cases symbols.all shp <;> cases l.all shpI <;> simp
end Go.Proofs.YtmjeeaemmbkioaaGreat.Tx
set_option maxHeartbeats 2000000
namespace Go.Proofs.YtmjeeaemmbkioaaGreat.Tx
open Go Ev Bm Co So
def ikey (o0:Int) (i:Item):Int:=i.2.2.1 / o0 * 1000000 + i.2.1
def VI (i:Item):Prop:=near i.2.1 100000∧near i.2.2.1 100000
theorem rstripO {fl:Nat} {o0 o1 o3 o4 o5 o7:Int} {tu rf:Bool} (hb:o0 = 1∨o0 = 2∨o0 = 4∨o0 = 8) {t:Int} (ht:near t 1000000) {K:Int→Option Ans}:F_ref10_Strip fl o0 o1 tu o3 o4 o5 rf o7 t K = K (t / o0):=by
  obtain ⟨t0,t1⟩:=ht
  unfold F_ref10_Strip
  rw [dec_f (by omega)]
  rcases Int.le_total 0 t with ha | ha
  · rw [Int.tdiv_eq_ediv_of_nonneg ha]
    rcases hb with rfl | rfl | rfl | rfl
    all_goals rw [w6 (x:=t / _),w6 (x:=t / _ * _),dec_f (by omega)]
  · have e:t.tdiv o0 = -((-t) / o0):=by
      rw [← Int.tdiv_eq_ediv_of_nonneg (by omega),Int.neg_tdiv,Int.neg_neg]
    rw [e]
    rcases hb with rfl | rfl | rfl | rfl
    all_goals
      rw [w6 (x:= -(-t / _)),w6 (x:= -(-t / _) * _),w6 (x:= -(-t / _) - 1),cd]
      split <;> (congr 1; omega)
theorem q_rg {o0 t:Int} (hb:o0 = 1∨o0 = 2∨o0 = 4∨o0 = 8) (ht:near t 100000): -100000≤t / o0∧t / o0≤100000:=by
  obtain ⟨t0,t1⟩:=ht
  rcases hb with rfl | rfl | rfl | rfl <;> omega
section
variable {fl:Nat} {o0 o1 o3 o4 o5 o7:Int} {tu rf:Bool}
theorem ocmp (hb:o0 = 1∨o0 = 2∨o0 = 4∨o0 = 8):Sx.Cmp fl o0 o1 tu o3 o4 o5 rf o7 (ikey o0) VI:=by
  intro x y ⟨hx1,hx2⟩ ⟨hy1,hy2⟩
  obtain ⟨a1,a2⟩:=q_rg hb hx2
  obtain ⟨b1,b2⟩:=q_rg hb hy2
  obtain ⟨c1,c2⟩:=hx1
  obtain ⟨d1,d2⟩:=hy1
  obtain ⟨x3,x4⟩:=hx2
  obtain ⟨y3,y4⟩:=hy2
  have key:∀ K:Int×Int×Int×Bool×Int×Int×Int×Bool×Int→Option Ans,F_text_Order_1_805 fl x.1 x.2.1 x.2.2.1 x.2.2.2.1 x.2.2.2.2.1 x.2.2.2.2.2.1 x.2.2.2.2.2.2.1 x.2.2.2.2.2.2.2.1 x.2.2.2.2.2.2.2.2 y.1 y.2.1 y.2.2.1 y.2.2.2.1 y.2.2.2.2.1 y.2.2.2.2.2.1 y.2.2.2.2.2.2.1 y.2.2.2.2.2.2.2.1 y.2.2.2.2.2.2.2.2 o0 o1 tu o3 o4 o5 rf o7 K = if x.2.2.1 / o0 - y.2.2.1 / o0 = 0 then K (x.2.1 - y.2.1,o0,o1,tu,o3,o4,o5,rf,o7) else K (x.2.2.1 / o0 - y.2.2.1 / o0,o0,o1,tu,o3,o4,o5,rf,o7):=fun K=>by
    unfold F_text_Order_1_805 Fg_text_Order_1_805
    rw [strip_ok hb ⟨by omega,by omega⟩]
    try dsimp only
    rw [strip_ok hb ⟨by omega,by omega⟩]
    try dsimp only
    rw [w6 (x:=x.2.2.1 / o0 - y.2.2.1 / o0),w6 (x:=x.2.1 - y.2.1)]
    by_cases h:x.2.2.1 / o0 - y.2.2.1 / o0 = 0
    · rw [if_pos h,cond_f (by simp [h])]
    · rw [if_neg h,cond_t (by simpa using h)]
  unfold ikey
  by_cases h:x.2.2.1 / o0 - y.2.2.1 / o0 = 0
  · exact ⟨x.2.1 - y.2.1,by omega,by omega,fun K=>by rw [key K,if_pos h]⟩
  · exact ⟨x.2.2.1 / o0 - y.2.2.1 / o0,by omega,by omega,fun K=>by rw [key K,if_neg h]⟩
theorem behind_ok (hb:o0 = 1∨o0 = 2∨o0 = 4∨o0 = 8) {x y:Item} (hx:VI x) (hy:VI y) {K:Bool→Option Ans}:
    F_ref10_behind fl o0 o1 tu o3 o4 o5 rf o7 x.1 x.2.1 x.2.2.1 x.2.2.2.1 x.2.2.2.2.1 x.2.2.2.2.2.1 x.2.2.2.2.2.2.1 x.2.2.2.2.2.2.2.1 x.2.2.2.2.2.2.2.2 y.1 y.2.1 y.2.2.1 y.2.2.2.1 y.2.2.2.2.1 y.2.2.2.2.2.1 y.2.2.2.2.2.2.1 y.2.2.2.2.2.2.2.1 y.2.2.2.2.2.2.2.2 K = K (decide (ikey o0 y < ikey o0 x)):=by
  obtain ⟨hx1,hx2⟩:=hx
  obtain ⟨hy1,hy2⟩:=hy
  obtain ⟨a1,a2⟩:=q_rg hb hx2
  obtain ⟨b1,b2⟩:=q_rg hb hy2
  obtain ⟨c1,c2⟩:=hx1
  obtain ⟨d1,d2⟩:=hy1
  obtain ⟨x3,x4⟩:=hx2
  obtain ⟨y3,y4⟩:=hy2
  unfold F_ref10_behind Fg_ref10_behind
  rw [rstripO hb ⟨by omega,by omega⟩]
  try dsimp only
  rw [rstripO hb ⟨by omega,by omega⟩]
  try dsimp only
  unfold ikey
  by_cases h:x.2.2.1 / o0 > y.2.2.1 / o0
  · rw [dec_t h,decide_eq_true (by omega)]
  · rw [dec_f h]
    by_cases h2:x.2.2.1 / o0 = y.2.2.1 / o0
    · rw [cond_t (by simp [h2]),h2]
      congr 1
      exact decide_eq_decide.2 (by omega)
    · rw [cond_f (by simpa using h2),decide_eq_false (by omega)]
end
end Go.Proofs.YtmjeeaemmbkioaaGreat.Tx
set_option maxHeartbeats 2000000
namespace Go.Proofs.YtmjeeaemmbkioaaGreat.Tx
open Go Ev Bm Co So
section
variable {fl:Nat} (hfl:9223372036854775808≤fl) {o0 o1 o3 o4 o5 o7:Int} {tu rf:Bool}
include hfl
theorem at_ok (hb:o0 = 1∨o0 = 2∨o0 = 4∨o0 = 8) {out:List Item} {x:Item} (hV:∀ y ∈ out,VI y) (hx:VI x) (hl:out.length≤1000) {l:List Item} {n k:Int}:
    ∃ r:Nat,r≤out.length∧(∀ t,r≤t→t < out.length→ikey o0 x < ikey o0 (out.getD t (0,0,0,false,0,0,0,0,[])))∧(∀ t,r = t + 1→¬ ikey o0 x < ikey o0 (out.getD t (0,0,0,false,0,0,0,0,[])))∧
    ∀ b,L_ref10_Order_2 fl ((out.length:Int),l,n,k,o0,o1,tu,o3,o4,o5,rf,o7,out,x.1,x.2.1,x.2.2.1,x.2.2.2.1,x.2.2.2.2.1,x.2.2.2.2.2.1,x.2.2.2.2.2.2.1,x.2.2.2.2.2.2.2.1,x.2.2.2.2.2.2.2.2) b = b ((r:Int),l,n,k,o0,o1,tu,o3,o4,o5,rf,o7,out,x.1,x.2.1,x.2.2.1,x.2.2.2.1,x.2.2.2.2.1,x.2.2.2.2.2.1,x.2.2.2.2.2.2.1,x.2.2.2.2.2.2.2.1,x.2.2.2.2.2.2.2.2):=by
  unfold L_ref10_Order_2
  obtain ⟨r,r1,r2,r3,r4⟩:=down (step:=S_ref10_Order_2 fl) (st:=fun i:Nat=>((i:Int),l,n,k,o0,o1,tu,o3,o4,o5,rf,o7,out,x.1,x.2.1,x.2.2.1,x.2.2.2.1,x.2.2.2.2.1,x.2.2.2.2.2.1,x.2.2.2.2.2.2.1,x.2.2.2.2.2.2.2.1,x.2.2.2.2.2.2.2.2)) (fin:=fun i:Nat=>((i:Int),l,n,k,o0,o1,tu,o3,o4,o5,rf,o7,out,x.1,x.2.1,x.2.2.1,x.2.2.2.1,x.2.2.2.2.1,x.2.2.2.2.2.1,x.2.2.2.2.2.2.1,x.2.2.2.2.2.2.2.1,x.2.2.2.2.2.2.2.2))
    (p:=fun t=>ikey o0 x < ikey o0 (out.getD t (0,0,0,false,0,0,0,0,[]))) (n:=out.length)
    (fun i c b hi=>by
      have hv:VI (out.getD i (0,0,0,false,0,0,0,0,[])):=by
        rw [getD_lt (by omega)]
        exact hV _ (List.getElem_mem _)
      simp only [S_ref10_Order_2,Sg_ref10_Order_2]
      rw [dec_t (by omega),w6 (x:=((i + 1:Nat):Int) - 1),show ((i + 1:Nat):Int) - 1 = ((i:Nat):Int) by omega,dec_t (by omega),Int.toNat_natCast,behind_ok hb hv hx]
      try dsimp only
      by_cases h:ikey o0 x < ikey o0 (out.getD i (0,0,0,false,0,0,0,0,[]))
      · rw [dec_t h,if_pos h]
      · rw [dec_f h,if_neg h])
    (fun c b=>by
      simp only [S_ref10_Order_2,Sg_ref10_Order_2]
      rw [dec_f (by simp)])
    out.length (Nat.le_refl _)
  exact ⟨r,r1,r2,r3,fun b=>r4 fl b (by omega)⟩
theorem rord_loop (hb:o0 = 1∨o0 = 2∨o0 = 4∨o0 = 8) {l:List Item} (hV:∀ y ∈ l,VI y) (hl:l.length≤1000):∀ (R C out:List Item),l = C++R→Srt (ikey o0) out→Stb (ikey o0) out C→
    ∃ D,Srt (ikey o0) D∧Stb (ikey o0) D l∧∀ (f:Nat) kk,R.length + 1≤f→iter (S_ref10_Order_0 fl) f (l,(l.length:Int),(C.length:Int),o0,o1,tu,o3,o4,o5,rf,o7,out) kk = kk D
  | [],C,out,h,h1,h2=>by
    refine ⟨out,h1,by rw [h,List.append_nil]; exact h2,fun f kk hf=> ?_⟩
    obtain ⟨f,rfl⟩:∃ g,f = g + 1:=⟨f - 1,by omega⟩
    simp only [iter,S_ref10_Order_0,Sg_ref10_Order_0]
    rw [dec_f (by rw [h]; simp)]
  | x::R,C,out,h,h1,h2=>by
    have hx:VI x:=hV x (by rw [h]; simp)
    have hlC:C.length + (R.length + 1) = l.length:=by rw [h]; simp
    have hlo:out.length = C.length:=h2.len
    have hVo:∀ y ∈ out,VI y:=fun y hy=>hV y (by rw [h]; exact List.mem_append_left _ (h2.1.mem_iff.1 hy))
    obtain ⟨r,r1,r2,r3,r4⟩:=at_ok (fl:=fl) (o1:=o1) (o3:=o3) (o4:=o4) (o5:=o5) (o7:=o7) (tu:=tu) (rf:=rf) hfl hb hVo hx (by omega) (l:=l) (n:=(l.length:Int)) (k:=(C.length:Int))
    obtain ⟨s1,s2⟩:=ins_at h1 r1 r2 r3
    obtain ⟨D,d1,d2,d3⟩:=rord_loop hb hV hl R (C++ [x]) _ (by rw [h]; simp) s1 (s2.trans (h2.app (Stb.refl _)))
    refine ⟨D,d1,d2,fun f kk hf=> ?_⟩
    obtain ⟨f,rfl⟩:∃ g,f = g + 1:=⟨f - 1,by omega⟩
    have hg:l.getD C.length (0,0,0,false,0,0,0,0,[]) = x:=by rw [h]; exact Sx.get_mid _ _ _ _
    have t1:(List.take r out).length = r:=by rw [List.length_take]; omega
    have t2:(List.drop r out).length = out.length - r:=by rw [List.length_drop]
    simp only [iter,S_ref10_Order_0,Sg_ref10_Order_0,Int.toNat_natCast,hg]
    rw [dec_t (by omega),dec_t (by omega),r4]
    try dsimp only
    rw [dec_t (by simp only [loOf,hiOf]; omega),dec_t (by simp only [loOf,hiOf]; omega)]
    have e1:List.take (hiOf (some (r:Int)) (out.length:Int) - loOf none).toNat (List.drop (loOf none).toNat out) = List.take r out:=by simp [loOf,hiOf]
    have e2:List.take (hiOf none (out.length:Int) - loOf (some (r:Int))).toNat (List.drop (loOf (some (r:Int))).toNat out) = List.drop r out:=by
      show List.take ((out.length:Int) - (r:Int)).toNat (List.drop ((r:Int)).toNat out) = List.drop r out
      rw [Int.toNat_natCast]
      exact List.take_of_length_le (by rw [List.length_drop]; omega)
    simp only [both_same,e1,e2]
    rw [dec_t (by rw [t1]; omega),dec_t (by simp only [List.nil_append,t1]; omega),dec_t (by simp only [List.nil_append,List.length_append,List.length_cons,List.length_nil,t1,t2]; omega),w6 (x:=(C.length:Int) + 1)]
    have:=d3 f kk (by simp only [List.length_cons] at hf; omega)
    rw [show ((C++ [x]).length:Int) = (C.length:Int) + 1 by simp] at this
    rw [← this]
    simp only [List.nil_append,List.append_assoc,List.cons_append]
end
open Go Ev Bm
section
variable {fl:Nat} (hfl:9223372036854775808≤fl)
include hfl
theorem sameB {w h:Int} {p:List Int} (hl:p.length≤1000000000000000) {K:Bool→Option Ans}:F_ref06_SameBitmap fl w h p w h p K = K true:=by
  unfold F_ref06_SameBitmap
  rw [cond_f (by simp),cond_f (by simp),cond_f (by simp)]
  unfold L_ref06_SameBitmap_0
  refine iter_seq (step:=S_ref06_SameBitmap_0 fl) (fun i:Nat=>((p.length:Int),(i:Int),w,h,p,w,h,p)) p.length rfl (fun i hi c=> ?_) (fun c=> ?_) (by omega)
  · simp only [S_ref06_SameBitmap_0]
    rw [dec_t (by omega),dec_t (by omega),dec_t (by omega),cond_f (by simp),wrap64 (by omega) (by omega)]
    rfl
  · simp only [S_ref06_SameBitmap_0]
    rw [dec_f (by omega)]
theorem sameI {l:List (Int×Int×Int×Bool×Int×Int×Int×Int×List Int)} (hl:l.length≤1000000000000000) (hp:∀ i ∈ l,i.2.2.2.2.2.2.2.2.length≤1000000000000000) {K:Bool→Option Ans}:F_ref10_SameItems fl l l K = K true:=by
  unfold F_ref10_SameItems Fg_ref10_SameItems
  rw [cond_f (by simp)]
  unfold L_ref10_SameItems_0
  refine iter_seq (step:=S_ref10_SameItems_0 fl) (fun i:Nat=>(l,l,(l.length:Int),(i:Int))) l.length rfl (fun i hi c=> ?_) (fun c=> ?_) (by omega)
  · have hm:=hp _ (getD_mem hi (0,0,0,false,0,0,0,0,[]))
    simp only [S_ref10_SameItems_0,Sg_ref10_SameItems_0]
    rw [dec_t (by omega),dec_t (by omega),dec_t (by omega),Int.toNat_natCast]
    unfold F_ref10_SameItem Fg_ref10_SameItem
    rw [cond_t (by simp),cond_t (by simp),cond_t (by simp),cond_t (by simp),cond_t (by simp),cond_t (by simp),sameB hfl hm]
    try dsimp only
    rw [cond_f (b:=!true) rfl,wrap64 (by omega) (by omega)]
    rfl
  · simp only [S_ref10_SameItems_0,Sg_ref10_SameItems_0]
    rw [dec_f (by omega)]
theorem awake {K:Bool→Option Ans}:F_law10_Awake fl K = K true:=rfl
end
end Go.Proofs.YtmjeeaemmbkioaaGreat.Tx
set_option maxHeartbeats 2000000
namespace Go.Proofs.YtmjeeaemmbkioaaGreat.PureTextOrder
open Go Ev Bm Gen Tx So
theorem cloneB {fl:Nat} {p:List Int} (hp:p.length≤140737488351232) {K:List Int→Option Ans}:F_slices_Clone_byte_byte fl p K = K p:=by
  unfold F_slices_Clone_byte_byte
  rw [dec_t (p:=(0 + p.length) * 1≤140737488355328∧0 + p.length≤140737488355328) (by omega),List.nil_append]
  by_cases h:(p.length:Int) = 0
  · have:p = []:=List.eq_nil_of_length_eq_zero (by omega)
    subst this
    rw [dec_t h,both_same]
  · rw [dec_f h]
theorem cloneI {fl:Nat} {p:List Tx.Item} (hp:p.length≤1000000) {K:List Tx.Item→Option Ans}:F_slices_Clone_api_Item_api_Item fl p K = K p:=by
  unfold F_slices_Clone_api_Item_api_Item
  rw [dec_t (p:=(0 + p.length) * 88≤140737488355328∧0 + p.length≤140737488355328) (by omega),List.nil_append]
  by_cases h:(p.length:Int) = 0
  · have:p = []:=List.eq_nil_of_length_eq_zero (by omega)
    subst this
    rw [dec_t h,both_same]
  · rw [dec_f h]
theorem all_perm {α:Type} {c d:List α} {p:α→Bool} (h:c.Perm d):c.all p = d.all p:=by
  rw [Bool.eq_iff_iff,List.all_eq_true,List.all_eq_true]
  exact ⟨fun k x hx=>k x (h.mem_iff.2 hx),fun k x hx=>k x (h.mem_iff.1 hx)⟩
theorem set_self {α:Type} {l:List α} {i:Nat} {d:α} (hi:i < l.length):l.set i (l.getD i d) = l:=by
  rw [getD_lt hi]
  exact List.set_getElem_self hi
def oErr (o0 o1 o3 o4 o5 o7:Int) (rf:Bool) (l:List Tx.Item):Int:=if bErr o0 o1 o3 o4 o5 o7 [] l = 0 then (if rights rf 60 l = true then 0 else 2) else bErr o0 o1 o3 o4 o5 o7 [] l
theorem oErr_perm {o0 o1 o3 o4 o5 o7:Int} {rf:Bool} {c d:List Tx.Item} (h:c.Perm d):oErr o0 o1 o3 o4 o5 o7 rf c = oErr o0 o1 o3 o4 o5 o7 rf d:=by
  unfold oErr bErr rights
  rw [all_perm (p:=shpI) h,all_perm (p:=itm rf 60) h,h.length_eq]
theorem VI_of {rf:Bool} {l:List Tx.Item} (h:rights rf 60 l = true):∀ i ∈ l,VI i:=by
  intro i hi
  unfold rights at h
  simp only [Bool.and_eq_true,List.all_eq_true] at h
  have:=h.2 i hi
  unfold itm at this
  simp only [Bool.and_eq_true,decide_eq_true_eq] at this
  exact ⟨this.1.2.2.1,this.1.2.2.2⟩
theorem o0_of {o0 o1 o3 o4 o5 o7:Int} {l:List Tx.Item} (h:bErr o0 o1 o3 o4 o5 o7 [] l = 0):o0 = 1∨o0 = 2∨o0 = 4∨o0 = 8:=by
  unfold bErr at h
  by_cases ho:ov o0 o1 o3 o4 o5 o7 = true
  · unfold ov at ho
    simp only [Bool.and_eq_true,decide_eq_true_eq] at ho
    omega
  · rw [if_neg ho] at h
    omega
section
variable {fl:Nat} (hfl:9223372036854775808≤fl) {o0 o1 o3 o4 o5 o7:Int} {tu rf:Bool}
include hfl
theorem tord {l:List Tx.Item} (hl:l.length≤1000) (hp:∀ i ∈ l,i.2.2.2.2.2.2.2.2.length≤140737488351232):
    ∃ C,(oErr o0 o1 o3 o4 o5 o7 rf l ≠ 0→C = [])∧(oErr o0 o1 o3 o4 o5 o7 rf l = 0→Srt (ikey o0) C∧Stb (ikey o0) C l)∧∀ K,F_text_Order fl o0 o1 tu o3 o4 o5 rf o7 l K = K (oErr o0 o1 o3 o4 o5 o7 rf l,C):=by
  unfold F_text_Order Fg_text_Order oErr
  by_cases he:bErr o0 o1 o3 o4 o5 o7 [] l = 0
  rotate_left
  · refine ⟨[],fun _=>rfl,fun h=> ?_,fun K=> ?_⟩
    · rw [if_neg he] at h
      exact absurd h he
    · rw [begun_ok hfl (by simp) (by omega)]
      try dsimp only
      rw [cond_t (by simpa using he),if_neg he]
  by_cases hr:rights rf 60 l = true
  rotate_left
  · refine ⟨[],fun _=>rfl,fun h=> ?_,fun K=> ?_⟩
    · rw [if_pos he,if_neg hr] at h
      omega
    · rw [begun_ok hfl (by simp) (by omega)]
      try dsimp only
      rw [cond_f (by simp [he]),right_ok hfl]
      try dsimp only
      rw [cond_t (by simpa using hr),if_pos he,if_neg hr]
  have hb:=o0_of he
  obtain ⟨C,c1,c2,c3⟩:=Sx.sort_ok hfl (ocmp (fl:=fl) (o1:=o1) (o3:=o3) (o4:=o4) (o5:=o5) (o7:=o7) (tu:=tu) (rf:=rf) hb) (VI_of hr) (by omega)
  refine ⟨C,fun h=>absurd (by rw [if_pos he,if_pos hr]) h,fun _=>⟨c1,c2⟩,fun K=> ?_⟩
  rw [begun_ok hfl (by simp) (by omega)]
  try dsimp only
  rw [cond_f (by simp [he]),right_ok hfl]
  try dsimp only
  rw [cond_f (by simp [hr]),cloneI (by omega)]
  try dsimp only
  have hloop:∀ b,L_text_Order_0 fl ((l.length:Int),0,o0,o1,tu,o3,o4,o5,rf,o7,l) b = b (o0,o1,tu,o3,o4,o5,rf,o7,l):=fun b=>by
    unfold L_text_Order_0
    refine iter_seq (step:=S_text_Order_0 fl) (fun i:Nat=>((l.length:Int),(i:Int),o0,o1,tu,o3,o4,o5,rf,o7,l)) l.length rfl (fun i hi c=> ?_) (fun c=> ?_) (by omega)
    · simp only [S_text_Order_0,Sg_text_Order_0,Int.toNat_natCast]
      rw [dec_t (by omega),dec_t (by omega),cloneB (by rw [getD_lt hi]; exact hp _ (List.getElem_mem _))]
      try dsimp only
      rw [dec_t (by omega),wrap64 (by omega) (by omega),set_self hi]
      rfl
    · simp only [S_text_Order_0,Sg_text_Order_0]
      rw [dec_f (by omega)]
  rw [hloop]
  try dsimp only
  rw [c3]
  try dsimp only
  rw [if_pos he,if_pos hr]
theorem rord {l:List Tx.Item} (hl:l.length≤1000):
    ∃ C,(oErr o0 o1 o3 o4 o5 o7 rf l ≠ 0→C = [])∧(oErr o0 o1 o3 o4 o5 o7 rf l = 0→Srt (ikey o0) C∧Stb (ikey o0) C l)∧∀ K,F_ref10_Order fl o0 o1 tu o3 o4 o5 rf o7 l K = K (oErr o0 o1 o3 o4 o5 o7 rf l,C):=by
  have hR:rErr o0 o1 o3 o4 o5 o7 rf [] l true 60 = oErr o0 o1 o3 o4 o5 o7 rf l:=by
    rw [rErr_eq]
    unfold oErr rights
    rw [show decide ((([]:List Tx.Bmp).length:Int)≤60) = decide ((60:Int)≤60) from rfl]
  unfold F_ref10_Order Fg_ref10_Order
  by_cases he:oErr o0 o1 o3 o4 o5 o7 rf l = 0
  rotate_left
  · refine ⟨[],fun _=>rfl,fun h=>absurd h he,fun K=> ?_⟩
    rw [asked_ok hfl (by simp) (by omega),hR]
    try dsimp only
    rw [cond_t (by simpa using he)]
  have he':=he
  unfold oErr at he'
  have hbe:bErr o0 o1 o3 o4 o5 o7 [] l = 0:=by
    split at he'
    · assumption
    · contradiction
  rw [if_pos hbe] at he'
  have hr:rights rf 60 l = true:=by
    split at he'
    · assumption
    · omega
  obtain ⟨D,d1,d2,d3⟩:=rord_loop (fl:=fl) (o1:=o1) (o3:=o3) (o4:=o4) (o5:=o5) (o7:=o7) (tu:=tu) (rf:=rf) hfl (o0_of hbe) (VI_of hr) hl l [] [] rfl List.Pairwise.nil (Stb.refl _)
  refine ⟨D,fun h=>absurd he h,fun _=>⟨d1,d2⟩,fun K=> ?_⟩
  rw [asked_ok hfl (by simp) (by omega),hR]
  try dsimp only
  rw [cond_f (by simp [he])]
  unfold L_ref10_Order_0
  have:=d3 fl (fun b0=>K (0,b0)) (by omega)
  rw [he]
  exact this
end
theorem pure_fl {fl:Nat} (hfl:9223372036854775808≤fl) (o0 o1:Int) (tu:Bool) (o3 o4 o5:Int) (rf:Bool) (o7:Int) (l:List Tx.Item) (K:Bool→Option Ans) (hp:∀ i ∈ l,i.2.2.2.2.2.2.2.2.length≤140737488351232):
    F_law10_TextOrder fl o0 o1 tu o3 o4 o5 rf o7 l K = K true:=by
  unfold F_law10_TextOrder Fg_law10_TextOrder F_law10_long
  rw [dec_f (by simp)]
  try dsimp only
  by_cases h2:(l.length:Int) > 600
  · rw [decide_eq_true h2,cond_true,awake hfl]
  rw [decide_eq_false h2,cond_false]
  obtain ⟨C,c1,c2,c3⟩:=tord (o0:=o0) (o1:=o1) (o3:=o3) (o4:=o4) (o5:=o5) (o7:=o7) (tu:=tu) (rf:=rf) hfl (l:=l) (by omega) hp
  obtain ⟨D,d1,d2,d3⟩:=rord (o0:=o0) (o1:=o1) (o3:=o3) (o4:=o4) (o5:=o5) (o7:=o7) (tu:=tu) (rf:=rf) hfl (l:=l) (by omega)
  have hCD:C = D:=by
    by_cases h:oErr o0 o1 o3 o4 o5 o7 rf l = 0
    · obtain ⟨a1,a2⟩:=c2 h
      obtain ⟨b1,b2⟩:=d2 h
      exact srt_unique a1 b1 (a2.trans b2.symm)
    · rw [c1 h,d1 h]
  subst hCD
  have hC:C.length≤600∧∀ i ∈ C,i.2.2.2.2.2.2.2.2.length≤140737488351232:=by
    by_cases h:oErr o0 o1 o3 o4 o5 o7 rf l = 0
    · obtain ⟨a1,a2⟩:=c2 h
      exact ⟨by rw [a2.len]; omega,fun i hi=>hp i (a2.1.mem_iff.1 hi)⟩
    · rw [c1 h]
      exact ⟨by simp,fun i hi=>by simp at hi⟩
  obtain ⟨E,e1,e2,e3⟩:=tord (o0:=o0) (o1:=o1) (o3:=o3) (o4:=o4) (o5:=o5) (o7:=o7) (tu:=tu) (rf:=rf) hfl (l:=C) (by omega) hC.2
  rw [c3]
  try dsimp only
  rw [d3]
  try dsimp only
  rw [cond_f (by simp),sameI hfl (by omega) (fun i hi=>by have:=hC.2 i hi; omega)]
  try dsimp only
  rw [cond_f (b:=!true) rfl,e3]
  try dsimp only
  by_cases h:oErr o0 o1 o3 o4 o5 o7 rf l = 0
  · obtain ⟨a1,a2⟩:=c2 h
    have hE:oErr o0 o1 o3 o4 o5 o7 rf C = 0:=by rw [oErr_perm a2.1,h]
    obtain ⟨b1,b2⟩:=e2 hE
    have:E = C:=srt_same a1 b1 b2
    subst this
    rw [cond_f (by simp [h]),cond_t (by simp [hE]),sameI hfl (by omega) (fun i hi=>by have:=hC.2 i hi; omega)]
    try dsimp only
    rw [cond_true,awake hfl]
  · rw [cond_t (by simpa using h),awake hfl]
theorem pure (o0 o1:Int) (tu:Bool) (o3 o4 o5:Int) (rf:Bool) (o7:Int) (l:List Tx.Item) (K:Bool→Option Ans)
    (g0:given (.pair (.int .i64) (.pair (.int .i64) (.pair .bool (.pair (.int .i64) (.pair (.int .i64) (.pair (.int .i64) (.pair .bool (.int .i64)))))))) (o0,o1,tu,o3,o4,o5,rf,o7))
    (g2:given (.sl (.pair (.int .i64) (.pair (.int .i64) (.pair (.int .i64) (.pair .bool (.pair (.int .i64) (.pair (.int .i64) (.pair (.int .i64) (.pair (.int .i64) (.sl (.int .u8))))))))))) l):
    F_law10_TextOrder fuel o0 o1 tu o3 o4 o5 rf o7 l K = K true:=by
  obtain ⟨_,h2⟩:=g2
  refine pure_fl (by rw [fuel_eq]; omega) o0 o1 tu o3 o4 o5 rf o7 l K (fun i hi=> ?_)
  obtain ⟨_,_,_,_,_,_,_,_,h3,_⟩:=h2 i hi
  have h3:i.2.2.2.2.2.2.2.2.length * 1≤140737488351232:=h3
  omega
end Go.Proofs.YtmjeeaemmbkioaaGreat.PureTextOrder
