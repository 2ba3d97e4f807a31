/- Laws of the typed texts that SymbolGoes reaches, in plain Lean. No condition but what each theorem names. -/
import Derived.Test.YtohnjbmiaegofaaGreatFsSymbolGoes8
import Derived.Test.YtohnjbmiaegofaaGreatPsSymbolGoes2
import Derived.Test.YtohnjbmiaegofaaGreatFsSymbolGoes7
import Derived.Test.YtohnjbmiaegofaaGreatPsSymbolGoes1
import Derived.Test.YtohnjbmiaegofaaGreatFsSymbolGoes3
import Derived.Test.YtohnjbmiaegofaaGreatFsSymbolGoes5
import Derived.Test.YtohnjbmiaegofaaGreatEvS
set_option linter.unusedVariables false
set_option linter.unusedSimpArgs false
set_option linter.unusedSectionVars false
namespace Go.Proofs.YtohnjbmiaegofaaGreat.Sy
open Go Ev So
section
variable {fl:Nat} {bl:List (Int×(Int×(List Int)))} {key:Int→Int} {V:Int→Prop}
def Cmp (fl:Nat) (bl:List (Int×(Int×(List Int)))) (key:Int→Int) (V:Int→Prop):Prop:=∀ x y:Int,V x→V y→∃ d:Int,(d < 0↔key x < key y)∧(0 < d↔key y < key x)∧∀ K:Int×(List (Int×(Int×(List Int))))→OA,an fl x y bl K = K (d,bl)
theorem ins_loop (hc:Cmp fl bl key V) {x:Int} (hx:V x) {P Q:List Int} {b i:Int}:∀ (n:Nat) (A B:List Int),A.length = n→Srt key (A++B)→(∀ y ∈ B,key x < key y)→(∀ y ∈ A,V y)→(P++((A++(x::B))++Q)).length≤10000000000000→
  ∃ C,Srt key C∧Stb key C ((A++B)++ [x])∧∀ (f:Nat) kk,n + 1≤f→iter (f6 fl) f ((P.length:Int),b,i,((P.length + A.length:Nat):Int),P++((A++(x::B))++Q),bl) kk = kk ((P.length:Int),b,i,P++(C++Q),bl)
 | 0,A,B,h1,h2,h3,h4,h5=>by
  have:A = []:=List.eq_nil_of_length_eq_zero h1
  subst this
  obtain ⟨c1,c2⟩:=insert_front (key:=key) (a:=[]) (b:=B) (x:=x) h2 (by simp) h3
  refine ⟨x::B,c1,c2,fun f kk hf=> ?_⟩
  obtain ⟨f,rfl⟩:∃ g,f = g + 1:=⟨f - 1,by omega⟩
  simp only [iter,f6,nH]
  rw [dec_f (by simp)]
  rfl
 | n + 1,A,B,h1,h2,h3,h4,h5=>by
  obtain ⟨A',y,rfl⟩:∃ A' y,A = A'++ [y]:=by
   refine ⟨A.dropLast,A.getLast (by intro h; rw [h] at h1; simp at h1), ?_⟩
   exact (List.dropLast_concat_getLast _).symm
  have hy:V y:=h4 y (by simp)
  have hlen:=h5
  simp only [List.length_append,List.length_cons,List.length_nil] at hlen h1
  have hd:P++(((A'++ [y])++(x::B))++Q) = (P++A')++y::x::(B++Q):=by simp
  have lp:(P++A').length = P.length + A'.length:=List.length_append
  have g1:((P++A')++y::x::(B++Q)).getD (P.length + A'.length) 0 = y:=by rw [← lp]; exact get_mid _ _ _ _
  have g2:((P++A')++y::x::(B++Q)).getD (P.length + A'.length + 1) 0 = x:=by rw [← lp]; exact two_get _ _ _ _ _
  have g3:(((P++A')++y::x::(B++Q)).set (P.length + A'.length + 1) y).set (P.length + A'.length) x = (P++A')++x::y::(B++Q):=by rw [← lp]; exact two_set2 _ _ _ _
  have ej:((P.length + (A'++ [y]).length:Nat):Int) = ((P.length + A'.length + 1:Nat):Int):=by rw [List.length_append]; simp only [List.length_cons,List.length_nil]; omega
  have ej1:IntKind.i64.wrap (((P.length + A'.length + 1:Nat):Int) - 1) = ((P.length + A'.length:Nat):Int):=by rw [wrap64 q0 q0]; omega
  have hstep:∀ c kk,f6 fl ((P.length:Int),b,i,((P.length + (A'++ [y]).length:Nat):Int),P++(((A'++ [y])++(x::B))++Q),bl) c kk = if key x < key y then c ((P.length:Int),b,i,((P.length + A'.length:Nat):Int),(P++A')++x::y::(B++Q),bl) else kk ((P.length:Int),b,i,P++(((A'++ [y])++(x::B))++Q),bl):=by
   intro c kk
   rw [hd,ej]
   obtain ⟨d,d1,d2,d3⟩:=hc x y hx hy
   simp only [f6,nH,both_same,ej1,Int.toNat_natCast,g1,g2,g3]
   rw [dec_t q0,dec_t (by simp only [List.length_append,List.length_cons]; omega),dec_t (by simp only [List.length_append,List.length_cons]; omega),d3]
   dsimp only
   by_cases hlt:key x < key y
   ·rw [if_pos hlt,dec_t q0,dec_t (by simp only [List.length_append,List.length_cons]; omega),dec_t (by simp only [List.length_append,List.length_cons]; omega),dec_t (by simp only [List.length_append,List.length_cons]; omega),dec_t (by simp only [List.length_set,List.length_append,List.length_cons]; omega)]
   ·rw [if_neg hlt,dec_f q0]
  by_cases hlt:key x < key y
  ·have h2':Srt key (A'++(y::B)):=by simpa using h2
   obtain ⟨C,c1,c2,c3⟩:=ins_loop hc hx (P:=P) (Q:=Q) (b:=b) (i:=i) n A' (y::B) q0 h2' (fun z hz=>by
    rcases List.mem_cons.1 hz with rfl | hz
    ·exact hlt
    ·exact h3 z hz) (fun z hz=>h4 z (by simp [hz])) (by simp only [List.length_append,List.length_cons]; omega)
   refine ⟨C,c1,by simpa using c2,fun f kk hf=> ?_⟩
   obtain ⟨f,rfl⟩:∃ g,f = g + 1:=⟨f - 1,by omega⟩
   simp only [iter]
   rw [hstep,if_pos hlt]
   have:=c3 f kk q0
   rw [show P++((A'++(x::y::B))++Q) = (P++A')++x::y::(B++Q) by simp] at this
   exact this
  ·obtain ⟨p1,p2,p3⟩:=srt_app.1 h2
   obtain ⟨q1,q2,q3⟩:=srt_app.1 p1
   obtain ⟨c1,c2⟩:=insert_front (key:=key) (a:=A'++ [y]) (b:=B) (x:=x) h2 (fun z hz=>by
    rcases List.mem_append.1 hz with hz | hz
    ·have:=q3 z hz y (by simp)
     omega
    ·rw [List.mem_singleton] at hz
     subst hz
     omega) h3
   refine ⟨_,c1,c2,fun f kk hf=> ?_⟩
   obtain ⟨f,rfl⟩:∃ g,f = g + 1:=⟨f - 1,by omega⟩
   simp only [iter]
   rw [hstep,if_neg hlt]
theorem isort_loop (hfl:9223372036854775808≤fl) (hc:Cmp fl bl key V) {P Q:List Int}:∀ (R C:List Int),Srt key C→(∀ y ∈ C,V y)→(∀ y ∈ R,V y)→(P++(C++(R++Q))).length≤10000000000000→
  ∃ D,Srt key D∧Stb key D (C++R)∧∀ (f:Nat) kk,R.length + 1≤f→iter (ff fl) f ((P.length:Int),((P.length + C.length + R.length:Nat):Int),((P.length + C.length:Nat):Int),P++(C++(R++Q)),bl) kk = kk (P++(D++Q),bl)
 | [],C,h1,h2,h3,h4=>by
  refine ⟨C,h1,by rw [List.append_nil]; exact Stb.refl _,fun f kk hf=> ?_⟩
  obtain ⟨f,rfl⟩:∃ g,f = g + 1:=⟨f - 1,by omega⟩
  simp only [iter,ff,kl]
  rw [dec_f (by simp)]
  rfl
 | x::R,C,h1,h2,h3,h4=>by
  have hlen:=h4
  simp only [List.length_append,List.length_cons] at hlen
  obtain ⟨C',c1,c2,c3⟩:=ins_loop hc (h3 x (by simp)) (P:=P) (Q:=R++Q) (b:=((P.length + C.length + (x::R).length:Nat):Int)) (i:=((P.length + C.length:Nat):Int)) C.length C [] rfl (by rw [List.append_nil]; exact h1) (by simp) h2 (by simp only [List.length_append,List.length_cons,List.length_nil]; omega)
  rw [List.append_nil] at c2
  have lc:C'.length = C.length + 1:=by rw [c2.len]; simp
  have hV:∀ y ∈ C',V y:=fun y hy=>by
   rcases List.mem_append.1 (c2.1.mem_iff.1 hy) with hy | hy
   ·exact h2 y hy
   ·rw [List.mem_singleton] at hy
    subst hy
    exact h3 _ (by simp)
  obtain ⟨D,d1,d2,d3⟩:=isort_loop hfl hc (P:=P) (Q:=Q) R C' c1 hV (fun y hy=>h3 y (by simp [hy])) (by simp only [List.length_append]; omega)
  refine ⟨D,d1,d2.trans ?_,fun f kk hf=> ?_⟩
  ·have:=c2.app (Stb.refl R)
   simpa using this
  ·obtain ⟨f,rfl⟩:∃ g,f = g + 1:=⟨f - 1,by simp at hf; omega⟩
   simp only [iter,ff,kl]
   rw [dec_t (by simp only [List.length_cons]; omega)]
   unfold AN
   have e1:P++(C++((x::R)++Q)) = P++((C++ [x])++(R++Q)):=by simp
   rw [e1,c3 fl _ q0]
   dsimp only
   have:=d3 f kk (by simp at hf; omega)
   rw [w6 (x:=((P.length + C.length:Nat):Int) + 1),show ((P.length + C.length:Nat):Int) + 1 = ((P.length + C'.length:Nat):Int) by omega,show P.length + C.length + (x::R).length = P.length + C'.length + R.length by simp only [List.length_cons]; omega]
   exact this
theorem isort (hfl:9223372036854775808≤fl) (hc:Cmp fl bl key V) {P A Q:List Int} (hV:∀ y ∈ A,V y) (hl:(P++(A++Q)).length≤10000000000000):
  ∃ D,Srt key D∧Stb key D A∧∀ K,bV fl (P.length:Int) ((P.length + A.length:Nat):Int) (P++(A++Q)) bl K = K (P++(D++Q),bl):=by
 unfold bV xS CA
 have hlen:=hl
 simp only [List.length_append] at hlen
 cases A with
 | nil=>
  refine ⟨[],List.Pairwise.nil,Stb.refl _,fun K=> ?_⟩
  obtain ⟨f,hf⟩:∃ g,fl = g + 1:=⟨fl - 1,by omega⟩
  conv=>lhs; arg 2; rw [hf]
  simp only [iter,ff,kl]
  rw [wrap64 q0 q0,dec_f (by simp; omega)]
 | cons x R=>
  obtain ⟨D,d1,d2,d3⟩:=isort_loop hfl hc (P:=P) (Q:=Q) R [x] (srt_single x) (fun y hy=>by rw [List.mem_singleton] at hy; subst hy; exact hV _ (by simp)) (fun y hy=>hV y (by simp [hy])) (by simp only [List.length_append,List.length_cons,List.length_nil] at hlen ⊢; omega)
  refine ⟨D,d1,d2,fun K=> ?_⟩
  simp only [List.length_cons] at hlen ⊢
  rw [w6 (x:=(P.length:Int) + 1)]
  have:=d3 fl (fun v=>match v with | (b0,b1)=>K (b0,b1)) q0
  rw [show ((P.length + [x].length:Nat):Int) = (P.length:Int) + 1 by simp,show P.length + [x].length + R.length = P.length + (R.length + 1) by simp; omega] at this
  exact this
theorem fwd_loop {x:Int}:∀ (Y:List Int) (P R:List Int) (e f:Nat),e = P.length + Y.length + 1→(P++x::(Y++R)).length≤10000000000000→Y.length + 1≤f→∀ kk,iter (fy fl) f ((e:Int),(P.length:Int),P++x::(Y++R),bl) kk = kk (P++(Y++x::R),bl)
 | [],P,R,e,f,h1,h2,h3,kk=>by
  obtain ⟨f,rfl⟩:∃ g,f = g + 1:=⟨f - 1,by omega⟩
  simp only [List.length_append,List.length_cons,List.length_nil] at h1 h2
  simp only [iter,fy]
  rw [wrap64 q0 q0,dec_f q0]
  rfl
 | y::Y,P,R,e,f,h1,h2,h3,kk=>by
  obtain ⟨f,rfl⟩:∃ g,f = g + 1:=⟨f - 1,by omega⟩
  have hlen:=h2
  simp only [List.length_append,List.length_cons] at hlen h1 h3
  have hd:P++x::((y::Y)++R) = P++x::y::(Y++R):=by simp
  have g1:(P++x::y::(Y++R)).getD P.length 0 = x:=get_mid _ _ _ _
  have g2:(P++x::y::(Y++R)).getD (P.length + 1) 0 = y:=two_get _ _ _ _ _
  have g3:((P++x::y::(Y++R)).set P.length y).set (P.length + 1) x = P++y::x::(Y++R):=two_set _ _ _ _
  have e1:IntKind.i64.wrap ((P.length:Int) + 1) = ((P.length + 1:Nat):Int):=by rw [wrap64 q0 q0]; omega
  rw [hd]
  simp only [iter,fy,both_same,e1,Int.toNat_natCast,g1,g2,g3]
  rw [w6 (x:=(e:Int) - 1),dec_t q0,dec_t (by simp only [List.length_append,List.length_cons]; omega),dec_t (by simp only [List.length_append,List.length_cons]; omega),dec_t (by simp only [List.length_append,List.length_cons]; omega),dec_t (by simp only [List.length_set,List.length_append,List.length_cons]; omega)]
  have:=fwd_loop (x:=x) Y (P++ [y]) R e f (by simp; omega) (by simp only [List.length_append,List.length_cons,List.length_nil]; omega) q0 kk
  rw [show ((P++ [y]).length:Nat) = P.length + 1 by simp] at this
  simpa using this
theorem bwd_loop {x:Int}:∀ (n:Nat) (Z P R:List Int) (f:Nat),Z.length = n→(P++(Z++x::R)).length≤10000000000000→n + 1≤f→∀ kk,iter (fS fl) f ((P.length:Int),((P.length + Z.length:Nat):Int),P++(Z++x::R),bl) kk = kk (P++(x::(Z++R)),bl)
 | 0,Z,P,R,f,h1,h2,h3,kk=>by
  have:Z = []:=List.eq_nil_of_length_eq_zero h1
  subst this
  obtain ⟨f,rfl⟩:∃ g,f = g + 1:=⟨f - 1,by omega⟩
  simp only [iter,fS]
  rw [dec_f (by simp)]
  rfl
 | n + 1,Z,P,R,f,h1,h2,h3,kk=>by
  obtain ⟨Z',y,rfl⟩:∃ A' y,Z = A'++ [y]:=by
   refine ⟨Z.dropLast,Z.getLast (by intro h; rw [h] at h1; simp at h1), ?_⟩
   exact (List.dropLast_concat_getLast _).symm
  obtain ⟨f,rfl⟩:∃ g,f = g + 1:=⟨f - 1,by omega⟩
  have hlen:=h2
  simp only [List.length_append,List.length_cons,List.length_nil] at hlen h1
  have hd:P++((Z'++ [y])++x::R) = (P++Z')++y::x::R:=by simp
  have lp:(P++Z').length = P.length + Z'.length:=List.length_append
  have g1:((P++Z')++y::x::R).getD (P.length + Z'.length) 0 = y:=by rw [← lp]; exact get_mid _ _ _ _
  have g2:((P++Z')++y::x::R).getD (P.length + Z'.length + 1) 0 = x:=by rw [← lp]; exact two_get _ _ _ _ _
  have g3:(((P++Z')++y::x::R).set (P.length + Z'.length + 1) y).set (P.length + Z'.length) x = (P++Z')++x::y::R:=by rw [← lp]; exact two_set2 _ _ _ _
  have ej:((P.length + (Z'++ [y]).length:Nat):Int) = ((P.length + Z'.length + 1:Nat):Int):=by rw [List.length_append]; simp only [List.length_cons,List.length_nil]; omega
  have ej1:IntKind.i64.wrap (((P.length + Z'.length + 1:Nat):Int) - 1) = ((P.length + Z'.length:Nat):Int):=by rw [wrap64 q0 q0]; omega
  rw [hd,ej]
  simp only [iter,fS,both_same,ej1,Int.toNat_natCast,g1,g2,g3]
  rw [dec_t q0,dec_t (by simp only [List.length_append,List.length_cons]; omega),dec_t (by simp only [List.length_append,List.length_cons]; omega),dec_t (by simp only [List.length_append,List.length_cons]; omega),dec_t (by simp only [List.length_set,List.length_append,List.length_cons]; omega)]
  have:=bwd_loop (x:=x) n Z' P (y::R) f q0 (by simp only [List.length_append,List.length_cons]; omega) q0 kk
  rw [show P++(Z'++x::y::R) = (P++Z')++x::y::R by simp] at this
  rw [this]
  simp
end
open Go Ev So
theorem app_get {α:Type} {A B:List α} {i:Nat} (d:α):(A++B).getD i d = if i < A.length then A.getD i d else B.getD (i - A.length) d:=by
 split
 ·rw [getD_lt (by simp; omega),getD_lt (by assumption),List.getElem_append_left]
 ·rename_i h
  by_cases h2:i - A.length < B.length
  ·rw [getD_lt (by simp; omega),getD_lt h2,List.getElem_append_right q0]
  ·rw [List.getD_eq_getElem?_getD,List.getD_eq_getElem?_getD,List.getElem?_eq_none (by simp; omega),List.getElem?_eq_none q0]
theorem getD_memD {α:Type} {l:List α} {i:Nat} (h:i < l.length) (d:α):l.getD i d ∈ l:=getD_mem h d
theorem mem_getD {α:Type} {l:List α} {x:α} (d:α) (h:x ∈ l):∃ i,i < l.length∧l.getD i d = x:=by
 obtain ⟨i,hi,e⟩:=List.mem_iff_getElem.1 h
 exact ⟨i,hi,by rw [getD_lt hi,e]⟩
theorem take_getD {α:Type} {l:List α} {n i:Nat} (h:i < n) (d:α):(l.take n).getD i d = l.getD i d:=by
 rw [List.getD_eq_getElem?_getD,List.getD_eq_getElem?_getD,List.getElem?_take,if_pos h]
theorem drop_getD {α:Type} {l:List α} {n i:Nat} (d:α):(l.drop n).getD i d = l.getD (n + i) d:=by
 rw [List.getD_eq_getElem?_getD,List.getD_eq_getElem?_getD,List.getElem?_drop]
section
variable {fl:Nat} {bl:List (Int×(Int×(List Int)))} {key:Int→Int} {V:Int→Prop}
def MergeOk (fl:Nat) (bl:List (Int×(Int×(List Int)))) (key:Int→Int) (V:Int→Prop) (F:(Int→Int→Int→List Int→List (Int×(Int×(List Int)))→(List Int×(List (Int×(Int×(List Int))))→OA)→OA)) (n:Nat):Prop:=∀ (P A B Q:List Int),0 < A.length→0 < B.length→A.length + B.length≤n→Srt key A→Srt key B→(∀ y ∈ A,V y)→(∀ y ∈ B,V y)→(P++(A++(B++Q))).length≤10000000000000→
 ∃ C,Srt key C∧Stb key C (A++B)∧∀ K,F (P.length:Int) ((P.length + A.length:Nat):Int) ((P.length + A.length + B.length:Nat):Int) (P++(A++(B++Q))) bl K = K (P++(C++Q),bl)
theorem merge_if {F:(Int→Int→Int→List Int→List (Int×(Int×(List Int)))→(List Int×(List (Int×(Int×(List Int))))→OA)→OA)} {n:Nat} (hF:MergeOk fl bl key V F n) {P A B Q:List Int} (hn:A.length + B.length≤n) (hA:Srt key A) (hB:Srt key B) (vA:∀ y ∈ A,V y) (vB:∀ y ∈ B,V y) (hl:(P++(A++(B++Q))).length≤10000000000000):
  ∃ C,Srt key C∧Stb key C (A++B)∧∀ K:List Int×(List (Int×(Int×(List Int))))→OA,(if 0 < A.length∧0 < B.length then F (P.length:Int) ((P.length + A.length:Nat):Int) ((P.length + A.length + B.length:Nat):Int) (P++(A++(B++Q))) bl K else K (P++(A++(B++Q)),bl)) = K (P++(C++Q),bl):=by
 by_cases h:0 < A.length∧0 < B.length
 ·obtain ⟨C,c1,c2,c3⟩:=hF P A B Q h.1 h.2 hn hA hB vA vB hl
  exact ⟨C,c1,c2,fun K=>by rw [if_pos h]; exact c3 K⟩
 ·refine ⟨A++B, ?_,Stb.refl _,fun K=>by rw [if_neg h,List.append_assoc]⟩
  rcases Nat.eq_zero_or_pos A.length with h0 | h0
  ·have:A = []:=List.eq_nil_of_length_eq_zero h0
   subst this
   exact hB
  ·have:B = []:=List.eq_nil_of_length_eq_zero q0
   subst this
   rw [List.append_nil]
   exact hA
theorem one_left (hfl:9223372036854775808≤fl) (hc:Cmp fl bl key V) {x:Int} (hx:V x) {P B Q:List Int} (hB:Srt key B) (vB:∀ y ∈ B,V y) (hl:(P++(x::(B++Q))).length≤10000000000000) {F:(Int→Int→Int→List Int→List (Int×(Int×(List Int)))→(List Int×(List (Int×(Int×(List Int))))→OA)→OA)}:
  ∃ C,Srt key C∧Stb key C ([x]++B)∧∀ K,dn F fl (P.length:Int) ((P.length + 1:Nat):Int) ((P.length + 1 + B.length:Nat):Int) (P++(x::(B++Q))) bl K = K (P++(C++Q),bl):=by
 have hlen:=hl
 simp only [List.length_append,List.length_cons] at hlen
 have gx:(P++(x::(B++Q))).getD P.length 0 = x:=get_mid _ _ _ _
 have gb:∀ t,P.length + 1≤t→t < P.length + 1 + B.length→(P++(x::(B++Q))).getD t 0 = B.getD (t - (P.length + 1)) 0:=fun t h1 h2=>by
  have:P++(x::(B++Q)) = (P++ [x])++(B++Q):=by simp
  rw [this,app_get,if_neg (by simp; omega),app_get,if_pos (by simp; omega)]
  simp
 have lp:P.length + 1 = (P++ [x]).length:=by simp
 obtain ⟨r,r1,r2,r3,r4,r5⟩:=bs (step:=fU fl) (st:=fun i j=>((P.length:Int),(i:Int),(j:Int),P++(x::(B++Q)),bl)) (fin:=fun r=>((P.length:Int),(r:Int),P++(x::(B++Q)),bl)) (p:=fun t=>key (B.getD (t - (P.length + 1)) 0) < key x) (lo:=P.length + 1) (hi:=P.length + 1 + B.length)
  (fun t u h1 h2 h3 hp=>by
   have:=srt_get hB 0 (i:=t - (P.length + 1)) (j:=u - (P.length + 1)) q0 q0
   omega)
  (fun i j c b h1 h2 h3=>by
   have hh:=half_ok (i:=i) (j:=j) q0
   have hm:(i + j) / 2 < P.length + 1 + B.length:=by omega
   have hm2:P.length + 1≤(i + j) / 2:=by omega
   have vm:V (B.getD ((i + j) / 2 - (P.length + 1)) 0):=vB _ (getD_memD q0 0)
   have hg:=gb ((i + j) / 2) hm2 hm
   obtain ⟨d,d1,d2,d3⟩:=hc _ _ vm hx
   simp only [fU,both_same,hh,Int.toNat_natCast,gx,hg]
   rw [dec_t q0,dec_t (by simp only [List.length_append,List.length_cons]; omega),dec_t (by simp only [List.length_append,List.length_cons]; omega),d3]
   dsimp only
   by_cases hlt:key (B.getD ((i + j) / 2 - (P.length + 1)) 0) < key x
   ·rw [if_pos hlt,dec_t q0,wrap64 q0 q0]
    rfl
   ·rw [if_neg hlt,dec_f q0])
  (fun i c b h1 h2=>by
   simp only [fU]
   rw [dec_f q0])
  B.length (P.length + 1) (P.length + 1 + B.length) q0 q0 q0 q0 q0 q0
 have hsp:B = B.take (r - (P.length + 1))++B.drop (r - (P.length + 1)):=(List.take_append_drop _ _).symm
 generalize hB1:B.take (r - (P.length + 1)) = B1 at hsp
 generalize hB2:B.drop (r - (P.length + 1)) = B2 at hsp
 have l1:B1.length = r - (P.length + 1):=by rw [← hB1,List.length_take]; omega
 obtain ⟨c1,c2⟩:=insert_back (key:=key) (a:=B1) (b:=B2) (x:=x) (by rw [← hsp]; exact hB) (fun y hy=>by
  obtain ⟨i,hi,rfl⟩:=mem_getD 0 hy
  have:=r3 (P.length + 1 + i) q0 q0
  rw [← hB1,take_getD q0]
  simpa [show P.length + 1 + i - (P.length + 1) = i by omega] using this) (fun y hy=>by
  obtain ⟨i,hi,rfl⟩:=mem_getD 0 hy
  have hl2:B2.length = B.length - (r - (P.length + 1)):=by rw [← hB2,List.length_drop]
  have:=r4 (r + i) q0 q0
  rw [← hB2,drop_getD]
  rw [show r + i - (P.length + 1) = r - (P.length + 1) + i by omega] at this
  omega)
 refine ⟨B1++(x::B2),c1,by rw [hsp]; exact c2,fun K=> ?_⟩
 unfold dn uu
 rw [w6 (x:=((P.length + 1:Nat):Int) - (P.length:Int)),cond_t (by simp; omega)]
 have hr:=r5 fl (fun v=>match v with | (b0_0,b0_1,b0_2,b0_3)=>(lb fl (b0_1,b0_0,b0_2,b0_3) (fun (b2_0,b2_1)=>K (b2_0,b2_1)))) q0
 refine Eq.trans hr ?_
 dsimp only
 unfold lb
 have e1:P++(x::(B++Q)) = P++x::(B1++(B2++Q)):=by rw [hsp]; simp
 rw [e1,fwd_loop B1 P (B2++Q) r fl q0 (by rw [← e1]; exact hl) q0]
 simp
theorem one_right (hfl:9223372036854775808≤fl) (hc:Cmp fl bl key V) {x:Int} (hx:V x) {P A Q:List Int} (hA1:2≤A.length) (hA:Srt key A) (vA:∀ y ∈ A,V y) (hl:(P++(A++(x::Q))).length≤10000000000000) {F:(Int→Int→Int→List Int→List (Int×(Int×(List Int)))→(List Int×(List (Int×(Int×(List Int))))→OA)→OA)}:
  ∃ C,Srt key C∧Stb key C (A++ [x])∧∀ K,dn F fl (P.length:Int) ((P.length + A.length:Nat):Int) ((P.length + A.length + 1:Nat):Int) (P++(A++(x::Q))) bl K = K (P++(C++Q),bl):=by
 have hlen:=hl
 simp only [List.length_append,List.length_cons] at hlen
 have gx:(P++(A++(x::Q))).getD (P.length + A.length) 0 = x:=by
  have:P++(A++(x::Q)) = (P++A)++x::Q:=by simp
  rw [this,show P.length + A.length = (P++A).length by simp]
  exact get_mid _ _ _ _
 have ga:∀ t,P.length≤t→t < P.length + A.length→(P++(A++(x::Q))).getD t 0 = A.getD (t - P.length) 0:=fun t h1 h2=>by
  rw [app_get,if_neg q0,app_get,if_pos q0]
 obtain ⟨r,r1,r2,r3,r4,r5⟩:=bs (step:=ft fl) (st:=fun i j=>(((P.length + A.length:Nat):Int),(i:Int),(j:Int),P++(A++(x::Q)),bl)) (fin:=fun r=>(((P.length + A.length:Nat):Int),(r:Int),P++(A++(x::Q)),bl)) (p:=fun t=>key (A.getD (t - P.length) 0)≤key x) (lo:=P.length) (hi:=P.length + A.length)
  (fun t u h1 h2 h3 hp=>by
   have:=srt_get hA 0 (i:=t - P.length) (j:=u - P.length) q0 q0
   omega)
  (fun i j c b h1 h2 h3=>by
   have hh:=half_ok (i:=i) (j:=j) q0
   have hm:(i + j) / 2 < P.length + A.length:=by omega
   have hm2:P.length≤(i + j) / 2:=by omega
   have vm:V (A.getD ((i + j) / 2 - P.length) 0):=vA _ (getD_memD q0 0)
   have hg:=ga ((i + j) / 2) hm2 hm
   obtain ⟨d,d1,d2,d3⟩:=hc _ _ hx vm
   simp only [ft,both_same,hh,Int.toNat_natCast,gx,hg]
   rw [dec_t q0,dec_t (by simp only [List.length_append,List.length_cons]; omega),dec_t (by simp only [List.length_append,List.length_cons]; omega),d3]
   dsimp only
   by_cases hlt:key (A.getD ((i + j) / 2 - P.length) 0)≤key x
   ·rw [if_pos hlt,decide_eq_false q0,cond_t (b:=!false) rfl,wrap64 q0 q0]
    rfl
   ·rw [if_neg hlt,decide_eq_true q0,cond_f (b:=!true) rfl])
  (fun i c b h1 h2=>by
   simp only [ft]
   rw [dec_f q0])
  A.length P.length (P.length + A.length) q0 q0 q0 q0 q0 q0
 have hsp:A = A.take (r - P.length)++A.drop (r - P.length):=(List.take_append_drop _ _).symm
 generalize hA1':A.take (r - P.length) = A1 at hsp
 generalize hA2':A.drop (r - P.length) = A2 at hsp
 have l1:A1.length = r - P.length:=by rw [← hA1',List.length_take]; omega
 have l2:A2.length = A.length - (r - P.length):=by rw [← hA2',List.length_drop]
 obtain ⟨c1,c2⟩:=insert_front (key:=key) (a:=A1) (b:=A2) (x:=x) (by rw [← hsp]; exact hA) (fun y hy=>by
  obtain ⟨i,hi,rfl⟩:=mem_getD 0 hy
  have:=r3 (P.length + i) q0 q0
  rw [← hA1',take_getD q0]
  simpa [show P.length + i - P.length = i by omega] using this) (fun y hy=>by
  obtain ⟨i,hi,rfl⟩:=mem_getD 0 hy
  have:=r4 (r + i) q0 q0
  rw [← hA2',drop_getD]
  rw [show r + i - P.length = r - P.length + i by omega] at this
  omega)
 refine ⟨A1++(x::A2),c1,by rw [hsp]; exact c2,fun K=> ?_⟩
 unfold dn ui
 rw [w6 (x:=((P.length + A.length:Nat):Int) - (P.length:Int)),cond_f (by simp; omega),w6 (x:=((P.length + A.length + 1:Nat):Int) - ((P.length + A.length:Nat):Int)),cond_t (by simp; omega)]
 have hr:=r5 fl (fun v=>match v with | (b4_0,b4_1,b4_2,b4_3)=>(nB fl (b4_1,b4_0,b4_2,b4_3) (fun (b6_0,b6_1)=>K (b6_0,b6_1)))) q0
 refine Eq.trans hr ?_
 dsimp only
 unfold nB
 have e1:P++(A++(x::Q)) = (P++A1)++(A2++x::Q):=by rw [hsp]; simp
 have hb:=bwd_loop (fl:=fl) (bl:=bl) (x:=x) A2.length A2 (P++A1) Q fl rfl (by rw [← e1]; exact hl) q0 (fun v=>match v with | (b6_0,b6_1)=>K (b6_0,b6_1))
 have lp:(P++A1).length = r:=by rw [List.length_append]; omega
 rw [lp,show r + A2.length = P.length + A.length by omega] at hb
 rw [e1]
 refine Eq.trans hb ?_
 simp
end
open Go Ev So
theorem cdi {p:Prop} [Decidable p] {α:Sort _} {x y:α}:(bif decide p then x else y) = if p then x else y:=by
 by_cases h:p
 ·rw [if_pos h,decide_eq_true h]; rfl
 ·rw [if_neg h,decide_eq_false h]; rfl
section
variable {fl:Nat} {bl:List (Int×(Int×(List Int)))} {key:Int→Int} {V:Int→Prop}
noncomputable def SF (F:(Int→Int→Int→List Int→List (Int×(Int×(List Int)))→(List Int×(List (Int×(Int×(List Int))))→OA)→OA)) (fl:Nat) (a st m mid e b:Nat) (D:List Int) (bl:List (Int×(Int×(List Int)))) (K:List Int×(List (Int×(Int×(List Int))))→OA):OA:=
 if st < m∧m < e then
  bT fl (st:Int) (m:Int) (e:Int) D bl (fun (w0,w1)=>
   if a < st∧st < mid then F (a:Int) (st:Int) (mid:Int) w0 w1 (fun (y0,y1)=>if mid < e∧e < b then F (mid:Int) (e:Int) (b:Int) y0 y1 (fun (z0,z1)=>K (z0,z1)) else K (y0,y1))
   else if mid < e∧e < b then F (mid:Int) (e:Int) (b:Int) w0 w1 (fun (z0,z1)=>K (z0,z1)) else K (w0,w1))
 else
  if a < st∧st < mid then F (a:Int) (st:Int) (mid:Int) D bl (fun (y0,y1)=>if mid < e∧e < b then F (mid:Int) (e:Int) (b:Int) y0 y1 (fun (z0,z1)=>K (z0,z1)) else K (y0,y1))
  else if mid < e∧e < b then F (mid:Int) (e:Int) (b:Int) D bl (fun (z0,z1)=>K (z0,z1)) else K (D,bl)
theorem tail_ok (hfl:9223372036854775808≤fl) {F:(Int→Int→Int→List Int→List (Int×(Int×(List Int)))→(List Int×(List (Int×(Int×(List Int))))→OA)→OA)} {n:Nat} (hF:MergeOk fl bl key V F n) {P A B Q:List Int} {st mid e lo hi:Nat} (hA:Srt key A) (hB:Srt key B) (vA:∀ y ∈ A,V y) (vB:∀ y ∈ B,V y) (hl:(P++(A++(B++Q))).length≤10000000000000)
  (k1:P.length≤st) (k2:st≤P.length + A.length) (k3:st≤mid) (k4:e + st = mid + P.length + A.length) (k5:e≤P.length + A.length + B.length) (k6:mid - P.length≤n) (k7:P.length + A.length + B.length - mid≤n) (k8:mid≤P.length + A.length + B.length)
  (k9:lo = P.length∨lo + B.length = mid) (k10:hi = P.length + A.length∨hi = mid)
  (r3:∀ c,lo≤c→c < st→key (A.getD (c - P.length) 0)≤key (B.getD (mid - 1 - c) 0)) (r4:∀ c,st≤c→c < hi→key (B.getD (mid - 1 - c) 0) < key (A.getD (c - P.length) 0)):
  ∃ C,Srt key C∧Stb key C (A++B)∧∀ K,SF F fl P.length st (P.length + A.length) mid e (P.length + A.length + B.length) (P++(A++(B++Q))) bl K = K (P++(C++Q),bl):=by
 have hlen:=hl
 simp only [List.length_append] at hlen
 have sA:A = A.take (st - P.length)++A.drop (st - P.length):=(List.take_append_drop _ _).symm
 have sB:B = B.take (mid - st)++B.drop (mid - st):=(List.take_append_drop _ _).symm
 have gA1:∀ i,i < st - P.length→(A.take (st - P.length)).getD i 0 = A.getD i 0:=fun i hi=>take_getD hi 0
 have gX:∀ i,(A.drop (st - P.length)).getD i 0 = A.getD (st - P.length + i) 0:=fun i=>drop_getD 0
 have gY:∀ i,i < mid - st→(B.take (mid - st)).getD i 0 = B.getD i 0:=fun i hi=>take_getD hi 0
 have gB2:∀ i,(B.drop (mid - st)).getD i 0 = B.getD (mid - st + i) 0:=fun i=>drop_getD 0
 have lA1:(A.take (st - P.length)).length = st - P.length:=by rw [List.length_take]; omega
 have lX:(A.drop (st - P.length)).length = P.length + A.length - st:=by rw [List.length_drop]; omega
 have lY:(B.take (mid - st)).length = mid - st:=by rw [List.length_take]; omega
 have lB2:(B.drop (mid - st)).length = B.length - (mid - st):=by rw [List.length_drop]
 generalize A.take (st - P.length) = A1 at *
 generalize A.drop (st - P.length) = X at *
 generalize B.take (mid - st) = Y at *
 generalize B.drop (mid - st) = B2 at *
 have hxy:∀ u ∈ Y,∀ w ∈ X,key u < key w:=by
  intro u hu w hw
  obtain ⟨j,hj,rfl⟩:=mem_getD 0 hu
  obtain ⟨i,hi',rfl⟩:=mem_getD 0 hw
  rw [gY j q0,gX]
  have a1:=srt_get hB 0 (i:=j) (j:=mid - 1 - st) q0 q0
  have a2:=r4 st q0 q0
  have a3:=srt_get hA 0 (i:=st - P.length) (j:=st - P.length + i) q0 q0
  omega
 have hab:∀ u ∈ A1,∀ w ∈ B2,key u≤key w:=by
  intro u hu w hw
  obtain ⟨i,hi',rfl⟩:=mem_getD 0 hu
  obtain ⟨j,hj,rfl⟩:=mem_getD 0 hw
  rw [gA1 i q0,gB2]
  have a1:=srt_get hA 0 (i:=i) (j:=st - 1 - P.length) q0 q0
  have a2:=r3 (st - 1) q0 q0
  rw [show mid - 1 - (st - 1) = mid - st by omega] at a2
  have a3:=srt_get hB 0 (i:=mid - st) (j:=mid - st + j) q0 q0
  omega
 have hA':Srt key (A1++X):=by rw [← sA]; exact hA
 have hB':Srt key (Y++B2):=by rw [← sB]; exact hB
 obtain ⟨p1,p2,p3⟩:=srt_app.1 hA'
 obtain ⟨q1,q2,q3⟩:=srt_app.1 hB'
 have vA1:∀ y ∈ A1,V y:=fun y hy=>vA y (by rw [sA]; exact List.mem_append_left _ hy)
 have vX:∀ y ∈ X,V y:=fun y hy=>vA y (by rw [sA]; exact List.mem_append_right _ hy)
 have vY:∀ y ∈ Y,V y:=fun y hy=>vB y (by rw [sB]; exact List.mem_append_left _ hy)
 have vB2:∀ y ∈ B2,V y:=fun y hy=>vB y (by rw [sB]; exact List.mem_append_right _ hy)
 obtain ⟨C1,c1,c2,c3⟩:=merge_if hF (P:=P) (A:=A1) (B:=Y) (Q:=X++(B2++Q)) q0 p1 q1 vA1 vY (by simp only [List.length_append]; omega)
 have lC1:C1.length = A1.length + Y.length:=by rw [c2.len,List.length_append]
 obtain ⟨C2,d1,d2,d3⟩:=merge_if hF (P:=P++C1) (A:=X) (B:=B2) (Q:=Q) q0 p2 q2 vX vB2 (by simp only [List.length_append]; omega)
 obtain ⟨e1,e2⟩:=halves hA' hB' hxy hab c1 d1 c2 d2
 refine ⟨C1++C2,e1,by rw [← sA, ← sB] at e2; exact e2,fun K=> ?_⟩
 have lPC:(P++C1).length = mid:=by rw [List.length_append]; omega
 have h2:∀ K:List Int×(List (Int×(Int×(List Int))))→OA,(if mid < e∧e < P.length + A.length + B.length then F (mid:Int) (e:Int) ((P.length + A.length + B.length:Nat):Int) (P++(C1++(X++(B2++Q)))) bl K else K (P++(C1++(X++(B2++Q))),bl)) = K (P++((C1++C2)++Q),bl):=by
  intro K
  have:=d3 K
  rw [lPC,show mid + X.length = e by omega,show e + B2.length = P.length + A.length + B.length by omega,List.append_assoc] at this
  rw [show ((C1++C2)++Q) = C1++(C2++Q) by simp]
  rw [show P++(C1++(C2++Q)) = (P++C1)++(C2++Q) by simp, ← this]
  by_cases hh:mid < e∧e < P.length + A.length + B.length
  ·rw [if_pos hh,if_pos q0]
  ·rw [if_neg hh,if_neg q0]
 have h1:∀ K:List Int×(List (Int×(Int×(List Int))))→OA,(if P.length < st∧st < mid then F (P.length:Int) (st:Int) (mid:Int) (P++(A1++(Y++(X++(B2++Q))))) bl K else K (P++(A1++(Y++(X++(B2++Q)))),bl)) = K (P++(C1++(X++(B2++Q))),bl):=by
  intro K
  have:=c3 K
  rw [show P.length + A1.length = st by omega,show st + Y.length = mid by omega] at this
  rw [← this]
  by_cases hh:P.length < st∧st < mid
  ·rw [if_pos hh,if_pos q0]
  ·rw [if_neg hh,if_neg q0]
 have hJ:(if P.length < st∧st < mid then F (P.length:Int) (st:Int) (mid:Int) (P++(A1++(Y++(X++(B2++Q))))) bl (fun (y0,y1)=>if mid < e∧e < P.length + A.length + B.length then F (mid:Int) (e:Int) ((P.length + A.length + B.length:Nat):Int) y0 y1 (fun (z0,z1)=>K (z0,z1)) else K (y0,y1))
   else if mid < e∧e < P.length + A.length + B.length then F (mid:Int) (e:Int) ((P.length + A.length + B.length:Nat):Int) (P++(A1++(Y++(X++(B2++Q))))) bl (fun (z0,z1)=>K (z0,z1)) else K (P++(A1++(Y++(X++(B2++Q)))),bl)) = K (P++((C1++C2)++Q),bl):=by
  have e1:=h1 (fun v=>if mid < e∧e < P.length + A.length + B.length then F (mid:Int) (e:Int) ((P.length + A.length + B.length:Nat):Int) v.1 v.2 K else K v)
  exact e1.trans (h2 K)
 unfold SF
 by_cases hr:st < P.length + A.length∧P.length + A.length < e
 ·rw [if_pos hr]
  have hro:=fun K=>rot_ok (fl:=fl) (bl:=bl) (K:=K) hfl (X:=X) (Y:=Y) (P:=P++A1) (Q:=B2++Q) q0 q0 (by simp only [List.length_append]; omega)
  have lp1:(P++A1).length = st:=by rw [List.length_append]; omega
  rw [lp1,show st + X.length = P.length + A.length by omega,show P.length + A.length + Y.length = e by omega] at hro
  have ed:P++(A++(B++Q)) = (P++A1)++(X++(Y++(B2++Q))):=by rw [sA,sB]; simp
  rw [ed,hro]
  dsimp only
  rw [show (P++A1)++(Y++(X++(B2++Q))) = P++(A1++(Y++(X++(B2++Q)))) by simp]
  exact hJ
 ·rw [if_neg hr]
  have ed:P++(A++(B++Q)) = P++(A1++(Y++(X++(B2++Q)))):=by
   rw [sA,sB]
   rcases Nat.lt_or_ge st (P.length + A.length) with h' | h'
   ·have:Y = []:=List.eq_nil_of_length_eq_zero q0
    subst this
    simp
   ·have:X = []:=List.eq_nil_of_length_eq_zero q0
    subst this
    simp
  rw [ed]
  exact hJ
theorem srch (hfl:9223372036854775808≤fl) (hc:Cmp fl bl key V) {P A B Q:List Int} {mid lo hi:Nat} (hA:Srt key A) (hB:Srt key B) (vA:∀ y ∈ A,V y) (vB:∀ y ∈ B,V y) (hl:(P++(A++(B++Q))).length≤10000000000000)
  (k1:P.length≤lo) (k2:hi≤P.length + A.length) (k3:hi≤mid) (k4:lo≤hi) (k5:mid≤lo + B.length):
  ∃ st,lo≤st∧st≤hi∧(∀ c,lo≤c→c < st→key (A.getD (c - P.length) 0)≤key (B.getD (mid - 1 - c) 0))∧(∀ c,st≤c→c < hi→key (B.getD (mid - 1 - c) 0) < key (A.getD (c - P.length) 0))∧
   ∀ (x0 x1 x2 x3 x4:Int) (T:Int×Int×Int×Int×Int×Int×List Int×(List (Int×(Int×(List Int))))→OA),gj fl (x0,x1,x2,x3,x4,(lo:Int),(hi:Int),((mid + (P.length + A.length):Nat):Int) - 1,P++(A++(B++Q)),bl) T = T (x0,x1,x2,x3,x4,(st:Int),P++(A++(B++Q)),bl):=by
 have hlen:=hl
 simp only [List.length_append] at hlen
 have ga:∀ t,P.length≤t→t < P.length + A.length→(P++(A++(B++Q))).getD t 0 = A.getD (t - P.length) 0:=fun t h1 h2=>by
  rw [app_get,if_neg q0,app_get,if_pos q0]
 have gb:∀ t,P.length + A.length≤t→t < P.length + A.length + B.length→(P++(A++(B++Q))).getD t 0 = B.getD (t - (P.length + A.length)) 0:=fun t h1 h2=>by
  rw [app_get,if_neg q0,app_get,if_neg q0,app_get,if_pos q0]
  congr 1
  omega
 have main:=fun (x0 x1 x2 x3 x4:Int)=>bs (step:=eT fl) (st:=fun i j=>(x0,x1,x2,x3,x4,(i:Int),(j:Int),((mid + (P.length + A.length):Nat):Int) - 1,P++(A++(B++Q)),bl)) (fin:=fun r=>(x0,x1,x2,x3,x4,(r:Int),P++(A++(B++Q)),bl)) (p:=fun t=>key (A.getD (t - P.length) 0)≤key (B.getD (mid - 1 - t) 0)) (lo:=lo) (hi:=hi)
  (fun t u h1 h2 h3 hp=>by
   have a1:=srt_get hA 0 (i:=t - P.length) (j:=u - P.length) q0 q0
   have a2:=srt_get hB 0 (i:=mid - 1 - u) (j:=mid - 1 - t) q0 q0
   omega)
  (fun i j c b h1 h2 h3=>by
   have hh:=half_ok (i:=i) (j:=j) q0
   have hm:(i + j) / 2 < hi:=by omega
   have hm2:lo≤(i + j) / 2:=by omega
   have hg:=ga ((i + j) / 2) q0 q0
   have hg2:=gb (mid - 1 - (i + j) / 2 + (P.length + A.length)) q0 q0
   rw [show mid - 1 - (i + j) / 2 + (P.length + A.length) - (P.length + A.length) = mid - 1 - (i + j) / 2 by omega] at hg2
   have ep:IntKind.i64.wrap (((mid + (P.length + A.length):Nat):Int) - 1 - (((i + j) / 2:Nat):Int)) = ((mid - 1 - (i + j) / 2 + (P.length + A.length):Nat):Int):=by rw [wrap64 q0 q0]; omega
   have v1:V (A.getD ((i + j) / 2 - P.length) 0):=vA _ (getD_memD q0 0)
   have v2:V (B.getD (mid - 1 - (i + j) / 2) 0):=vB _ (getD_memD q0 0)
   obtain ⟨d,d1,d2,d3⟩:=hc _ _ v2 v1
   simp only [eT,both_same,hh,ep,Int.toNat_natCast,hg,hg2]
   rw [dec_t q0,dec_t (by simp only [List.length_append]; omega),dec_t (by simp only [List.length_append]; omega),d3]
   dsimp only
   by_cases hlt:key (A.getD ((i + j) / 2 - P.length) 0)≤key (B.getD (mid - 1 - (i + j) / 2) 0)
   ·rw [if_pos hlt,decide_eq_false q0,cond_t (b:=!false) rfl,w6 (x:=(((i + j) / 2:Nat):Int) + 1)]
    rfl
   ·rw [if_neg hlt,decide_eq_true q0,cond_f (b:=!true) rfl])
  (fun i c b h1 h2=>by
   simp only [eT]
   rw [dec_f q0])
  (hi - lo) lo hi q0 q0 q0 q0 q0 q0
 obtain ⟨r,r1,r2,r3,r4,_⟩:=main 0 0 0 0 0
 refine ⟨r,r1,r2,r3,fun c h1 h2=>by have:=r4 c h1 h2; omega,fun x0 x1 x2 x3 x4 T=> ?_⟩
 obtain ⟨r',q1,q2,q3,q4,q5⟩:=main x0 x1 x2 x3 x4
 have:r' = r:=by
  rcases Nat.lt_trichotomy r r' with h | h | h
  ·exact absurd (q3 r r1 h) (r4 r (Nat.le_refl _) q0)
  ·exact h.symm
  ·exact absurd (r3 r' q1 h) (q4 r' (Nat.le_refl _) q0)
 subst this
 unfold gj
 exact q5 fl T (by omega)
theorem merge_ok (hfl:9223372036854775808≤fl) (hc:Cmp fl bl key V):∀ n,MergeOk fl bl key V (fO fl n) n
 | 0=>fun P A B Q h1 h2 h3=>by omega
 | n + 1=>fun P A B Q h1 h2 h3 hA hB vA vB hl=>by
  have ih:=merge_ok hfl hc n
  have hlen:=hl
  simp only [List.length_append] at hlen
  show ∃ C,Srt key C∧Stb key C (A++B)∧∀ K,dn (fO fl n) fl (P.length:Int) ((P.length + A.length:Nat):Int) ((P.length + A.length + B.length:Nat):Int) (P++(A++(B++Q))) bl K = K (P++(C++Q),bl)
  by_cases hA1:A.length = 1
  ·obtain ⟨x,rfl⟩:∃ x,A = [x]:=List.length_eq_one_iff.1 hA1
   exact one_left hfl hc (vA x (by simp)) hB vB hl
  by_cases hB1:B.length = 1
  ·obtain ⟨x,rfl⟩:∃ x,B = [x]:=List.length_eq_one_iff.1 hB1
   exact one_right hfl hc (vB x (by simp)) q0 hA vA hl
  have hmid:=half_ok (i:=P.length) (j:=P.length + A.length + B.length) q0
  generalize hM:(P.length + (P.length + A.length + B.length)) / 2 = mid at hmid
  by_cases hgt:P.length + A.length > mid
  ·obtain ⟨st,r1,r2,r3,r4,r5⟩:=srch (mid:=mid) (lo:=mid - B.length) (hi:=mid) hfl hc hA hB vA vB hl q0 q0 q0 q0 q0
   obtain ⟨C,c1,c2,c3⟩:=tail_ok (lo:=mid - B.length) (hi:=mid) (st:=st) (mid:=mid) (e:=mid + (P.length + A.length) - st) hfl ih hA hB vA vB hl q0 q0 q0 q0 q0 q0 q0 q0 q0 q0 r3 r4
   refine ⟨C,c1,c2,fun K=> ?_⟩
   unfold dn
   rw [w6 (x:=((P.length + A.length:Nat):Int) - (P.length:Int)),cond_f (by simp; omega),w6 (x:=((P.length + A.length + B.length:Nat):Int) - ((P.length + A.length:Nat):Int)),cond_f (by simp; omega),hmid,dec_t q0,w6 (x:=(mid:Int) + ((P.length + A.length:Nat):Int)),w6 (x:=(mid:Int) + ((P.length + A.length:Nat):Int) - ((P.length + A.length + B.length:Nat):Int)),w6 (x:=(mid:Int) + ((P.length + A.length:Nat):Int) - 1)]
   rw [show (mid:Int) + ((P.length + A.length:Nat):Int) - ((P.length + A.length + B.length:Nat):Int) = ((mid - B.length:Nat):Int) by omega,show (mid:Int) + ((P.length + A.length:Nat):Int) = ((mid + (P.length + A.length):Nat):Int) by omega]
   rw [r5]
   dsimp only
   rw [w6 (x:=((mid + (P.length + A.length):Nat):Int) - (st:Int)),show ((mid + (P.length + A.length):Nat):Int) - (st:Int) = ((mid + (P.length + A.length) - st:Nat):Int) by omega]
   refine Eq.trans ?_ (c3 K)
   unfold SF
   simp only [cdi,Int.ofNat_lt]
   generalize mid + (P.length + A.length) - st = e
   by_cases g1:st < P.length + A.length <;> by_cases g2:P.length + A.length < e <;> by_cases g3:P.length < st <;> by_cases g4:st < mid <;> by_cases g5:mid < e <;> by_cases g6:e < P.length + A.length + B.length <;> simp only [g1,g2,g3,g4,g5,g6,if_true,if_false,and_true,and_false,true_and,false_and,and_self]
  ·obtain ⟨st,r1,r2,r3,r4,r5⟩:=srch (mid:=mid) (lo:=P.length) (hi:=P.length + A.length) hfl hc hA hB vA vB hl q0 q0 q0 q0 q0
   obtain ⟨C,c1,c2,c3⟩:=tail_ok (lo:=P.length) (hi:=P.length + A.length) (st:=st) (mid:=mid) (e:=mid + (P.length + A.length) - st) hfl ih hA hB vA vB hl q0 q0 q0 q0 q0 q0 q0 q0 q0 q0 r3 r4
   refine ⟨C,c1,c2,fun K=> ?_⟩
   unfold dn
   rw [w6 (x:=((P.length + A.length:Nat):Int) - (P.length:Int)),cond_f (by simp; omega),w6 (x:=((P.length + A.length + B.length:Nat):Int) - ((P.length + A.length:Nat):Int)),cond_f (by simp; omega),hmid,dec_f q0,w6 (x:=(mid:Int) + ((P.length + A.length:Nat):Int)),w6 (x:=(mid:Int) + ((P.length + A.length:Nat):Int) - 1)]
   rw [show (mid:Int) + ((P.length + A.length:Nat):Int) = ((mid + (P.length + A.length):Nat):Int) by omega]
   rw [r5]
   dsimp only
   rw [w6 (x:=((mid + (P.length + A.length):Nat):Int) - (st:Int)),show ((mid + (P.length + A.length):Nat):Int) - (st:Int) = ((mid + (P.length + A.length) - st:Nat):Int) by omega]
   refine Eq.trans ?_ (c3 K)
   unfold SF
   simp only [cdi,Int.ofNat_lt]
   generalize mid + (P.length + A.length) - st = e
   by_cases g1:st < P.length + A.length <;> by_cases g2:P.length + A.length < e <;> by_cases g3:P.length < st <;> by_cases g4:st < mid <;> by_cases g5:mid < e <;> by_cases g6:e < P.length + A.length + B.length <;> simp only [g1,g2,g3,g4,g5,g6,if_true,if_false,and_true,and_false,true_and,false_and,and_self]
end
open Go Ev So
inductive Ch (key:Int→Int) (bs:Nat):List Int→Prop where
 | last {D:List Int}:D.length≤bs→Srt key D→Ch key bs D
 | cons {A D:List Int}:A.length = bs→Srt key A→Ch key bs D→Ch key bs (A++D)
section
variable {fl:Nat} {bl:List (Int×(Int×(List Int)))} {key:Int→Int} {V:Int→Prop}
theorem Ch.srt {bs:Nat} {D:List Int} (h:Ch key bs D) (hb:0 < bs) (hl:D.length≤bs):Srt key D:=by
 cases h with
 | last _ h=>exact h
 | cons h1 h2 h3=>
  rename_i A D
  rw [List.length_append] at hl
  have:D = []:=List.eq_nil_of_length_eq_zero q0
  subst this
  rw [List.append_nil]
  exact h2
theorem Ch.two {bs:Nat} {D:List Int} (h:Ch key bs D) (hb:0 < bs) (hl:bs < D.length):∃ A B R,D = A++(B++R)∧A.length = bs∧Srt key A∧Srt key B∧0 < B.length∧B.length≤bs∧Ch key bs R∧(B.length < bs→R = []):=by
 cases h with
 | last h1 _=>omega
 | cons h1 h2 h3=>
  rename_i A D
  rw [List.length_append] at hl
  cases h3 with
  | last h4 h5=>exact ⟨A,D,[],by simp,h1,h2,h5,by omega,h4,.last (by simp) List.Pairwise.nil,fun _=>rfl⟩
  | cons h4 h5 h6=>
   rename_i B R
   exact ⟨A,B,R,rfl,h1,h2,h5,by omega,by omega,h6,fun h=>by omega⟩
theorem blocks (hfl:9223372036854775808≤fl) (hc:Cmp fl bl key V):∀ (m:Nat) (P D:List Int),D.length≤m→(∀ y ∈ D,V y)→(P++D).length≤5000000000000→
  ∃ D',Ch key 20 D'∧Stb key D' D∧∀ (f:Nat) (T:Int×Int×List Int×(List (Int×(Int×(List Int))))→OA),m + 1≤f→
   iter (fu fl) f (((P.length + D.length:Nat):Int),20,(P.length:Int),((P.length + 20:Nat):Int),P++D,bl) (fun (b0,b1,b2,b3,b4)=>bV fl b2 b0 b3 b4 (fun (y0,y1)=>T (b0,b1,y0,y1))) = T (((P.length + D.length:Nat):Int),20,P++D',bl):=by
 intro m
 induction m with
 | zero=>
  intro P D hm hV hl
  have:D = []:=List.eq_nil_of_length_eq_zero q0
  subst this
  obtain ⟨C,c1,c2,c3⟩:=isort hfl hc (P:=P) (A:=[]) (Q:=[]) (by simp) (by simp at hl ⊢; omega)
  have hC:C = []:=List.eq_nil_of_length_eq_zero (by have:=c2.len; simpa using this)
  subst hC
  refine ⟨[],.last (by simp) List.Pairwise.nil,Stb.refl _,fun f T hf=> ?_⟩
  obtain ⟨f,rfl⟩:∃ g,f = g + 1:=⟨f - 1,by omega⟩
  simp only [iter,fu,jD]
  rw [dec_f (by simp; omega)]
  have:=c3 (fun v=>T (((P.length + ([]:List Int).length:Nat):Int),20,v.1,v.2))
  simp only [List.append_nil] at this ⊢
  exact this
 | succ m ih=>
  intro P D hm hV hl
  have hlen:=hl
  simp only [List.length_append] at hlen
  by_cases h20:20≤D.length
  ·have hsp:D = D.take 20++D.drop 20:=(List.take_append_drop _ _).symm
   have lA:(D.take 20).length = 20:=by rw [List.length_take]; omega
   have lR:(D.drop 20).length = D.length - 20:=by rw [List.length_drop]
   generalize D.take 20 = A at *
   generalize D.drop 20 = R at *
   subst hsp
   obtain ⟨C,c1,c2,c3⟩:=isort hfl hc (P:=P) (A:=A) (Q:=R) (fun y hy=>hV y (by simp [hy])) (by simp only [List.length_append]; omega)
   have lC:C.length = 20:=by rw [c2.len,lA]
   obtain ⟨R',d1,d2,d3⟩:=ih (P++C) R q0 (fun y hy=>hV y (by simp [hy])) (by simp only [List.length_append]; omega)
   refine ⟨C++R',.cons lC c1 d1,c2.app d2,fun f T hf=> ?_⟩
   obtain ⟨f,rfl⟩:∃ g,f = g + 1:=⟨f - 1,by omega⟩
   simp only [iter,fu,jD]
   rw [dec_t (by simp only [List.length_append]; omega),show ((P.length + 20:Nat):Int) = ((P.length + A.length:Nat):Int) by omega,c3]
   dsimp only
   have:=d3 f T q0
   simp only [List.length_append] at this ⊢
   rw [wrap64 q0 q0]
   rw [show P.length + C.length + R.length = P.length + (A.length + R.length) by omega,show ((P.length + C.length:Nat):Int) = ((P.length + A.length:Nat):Int) by omega,show ((P.length + C.length + 20:Nat):Int) = ((P.length + A.length:Nat):Int) + 20 by omega,List.append_assoc,List.append_assoc] at this
   exact this
  ·obtain ⟨C,c1,c2,c3⟩:=isort hfl hc (P:=P) (A:=D) (Q:=[]) hV (by simpa using Nat.le_trans hl q0)
   refine ⟨C,.last (by rw [c2.len]; omega) c1,c2,fun f T hf=> ?_⟩
   obtain ⟨f,rfl⟩:∃ g,f = g + 1:=⟨f - 1,by omega⟩
   simp only [iter,fu,jD]
   rw [dec_f q0]
   have:=c3 (fun v=>T (((P.length + D.length:Nat):Int),20,v.1,v.2))
   simp only [List.append_nil] at this
   exact this
theorem pass (hfl:9223372036854775808≤fl) (hc:Cmp fl bl key V) {bs:Nat} (hb:0 < bs) (hb2:bs≤5000000000000):∀ (m:Nat) (P D:List Int),D.length≤m→Ch key bs D→(∀ y ∈ D,V y)→(P++D).length≤5000000000000→
  ∃ D',Ch key (2 * bs) D'∧Stb key D' D∧∀ (f:Nat) (c:Int×Int×List Int×(List (Int×(Int×(List Int))))→OA),m + 1≤f→
   iter (ee fl) f (((P.length + D.length:Nat):Int),(bs:Int),(P.length:Int),((P.length + 2 * bs:Nat):Int),P++D,bl) (fun (b4_0,b4_1,b4_2,b4_3,b4_4)=>
    bif decide (IntKind.i64.wrap (b4_2 + b4_1) < b4_0) then
     bS fl b4_2 (IntKind.i64.wrap (b4_2 + b4_1)) b4_0 b4_3 b4_4 (fun (y8_0,y8_1)=>c (b4_0,IntKind.i64.wrap (b4_1 * 2),y8_0,y8_1))
    else c (b4_0,IntKind.i64.wrap (b4_1 * 2),b4_3,b4_4)) = c (((P.length + D.length:Nat):Int),((2 * bs:Nat):Int),P++D',bl):=by
 have hM:=merge_ok hfl hc fl
 intro m
 induction m with
 | zero=>
  intro P D hm hD hV hl
  have:D = []:=List.eq_nil_of_length_eq_zero q0
  subst this
  have hlen:=hl
  simp only [List.length_append,List.length_nil] at hlen
  refine ⟨[],.last (by simp) List.Pairwise.nil,Stb.refl _,fun f c hf=> ?_⟩
  obtain ⟨f,rfl⟩:∃ g,f = g + 1:=⟨f - 1,by omega⟩
  simp only [iter,ee,iU]
  rw [dec_f (by simp; omega)]
  rw [w6 (x:=(P.length:Int) + (bs:Int)),dec_f (by simp; omega),w6 (x:=(bs:Int) * 2),show (bs:Int) * 2 = ((2 * bs:Nat):Int) by omega]
 | succ m ih=>
  intro P D hm hD hV hl
  have hlen:=hl
  simp only [List.length_append] at hlen
  by_cases h2:2 * bs≤D.length
  ·obtain ⟨A,B,R,rfl,a1,a2,a3,a4,a5,a6,a7⟩:=hD.two hb q0
   have lB:B.length = bs:=by
    rcases Nat.lt_or_ge B.length bs with h | h
    ·have:=a7 h
     subst this
     simp only [List.length_append,List.length_nil] at h2
     omega
    ·omega
   simp only [List.length_append] at hlen hm h2
   obtain ⟨C,c1,c2,c3⟩:=hM P A B R q0 a4 q0 a2 a3 (fun y hy=>hV y (by simp [hy])) (fun y hy=>hV y (by simp [hy])) (by simp only [List.length_append]; omega)
   have lC:C.length = 2 * bs:=by rw [c2.len,List.length_append]; omega
   obtain ⟨R',d1,d2,d3⟩:=ih (P++C) R q0 a6 (fun y hy=>hV y (by simp [hy])) (by simp only [List.length_append]; omega)
   refine ⟨C++R',.cons lC c1 d1,by have:=c2.app d2; simpa using this,fun f c hf=> ?_⟩
   obtain ⟨f,rfl⟩:∃ g,f = g + 1:=⟨f - 1,by omega⟩
   simp only [iter,ee,iU]
   rw [dec_t (by simp only [List.length_append]; omega),w6 (x:=(P.length:Int) + (bs:Int)),show (P.length:Int) + (bs:Int) = ((P.length + A.length:Nat):Int) by omega,show ((P.length + 2 * bs:Nat):Int) = ((P.length + A.length + B.length:Nat):Int) by omega]
   have c3':=fun K=>c3 K
   unfold bS at *
   rw [c3]
   dsimp only
   have:=d3 f c q0
   simp only [List.length_append] at this ⊢
   rw [w6 (x:=2 * (bs:Int)),wrap64 q0 q0]
   rw [show P.length + C.length + R.length = P.length + (A.length + (B.length + R.length)) by omega,show ((P.length + C.length:Nat):Int) = ((P.length + A.length + B.length:Nat):Int) by omega,show ((P.length + C.length + 2 * bs:Nat):Int) = ((P.length + A.length + B.length:Nat):Int) + 2 * (bs:Int) by omega,List.append_assoc,List.append_assoc] at this
   exact this
  ·have hend:∀ (f:Nat) b,iter (ee fl) (f + 1) (((P.length + D.length:Nat):Int),(bs:Int),(P.length:Int),((P.length + 2 * bs:Nat):Int),P++D,bl) b = b (((P.length + D.length:Nat):Int),(bs:Int),(P.length:Int),P++D,bl):=by
    intro f b
    simp only [iter,ee,iU]
    rw [dec_f q0]
   by_cases h1:bs < D.length
   ·obtain ⟨A,B,R,rfl,a1,a2,a3,a4,a5,a6,a7⟩:=hD.two hb h1
    simp only [List.length_append] at hlen hm h2 h1
    have hR:R = []:=a7 q0
    subst hR
    simp only [List.length_nil] at hlen hm h2 h1
    obtain ⟨C,c1,c2,c3⟩:=hM P A B [] q0 a4 q0 a2 a3 (fun y hy=>hV y (by simp [hy])) (fun y hy=>hV y (by simp [hy])) (by simp only [List.length_append,List.length_nil]; omega)
    have lC:C.length = A.length + B.length:=by rw [c2.len,List.length_append]
    refine ⟨C,.last q0 c1,by rw [List.append_nil]; exact c2,fun f c hf=> ?_⟩
    obtain ⟨f,rfl⟩:∃ g,f = g + 1:=⟨f - 1,by omega⟩
    rw [hend]
    dsimp only
    unfold bS
    rw [w6 (x:=(P.length:Int) + (bs:Int)),dec_t (by simp only [List.length_append,List.length_nil]; omega),w6 (x:=(bs:Int) * 2),show (bs:Int) * 2 = ((2 * bs:Nat):Int) by omega,show (P.length:Int) + (bs:Int) = ((P.length + A.length:Nat):Int) by omega]
    have:=c3 (fun v=>c (((P.length + A.length + B.length:Nat):Int),((2 * bs:Nat):Int),v.1,v.2))
    simp only [List.append_nil,List.length_append,List.length_nil,Nat.add_zero, ← Nat.add_assoc] at this ⊢
    exact this
   ·have hs:=hD.srt hb q0
    refine ⟨D,.last q0 hs,Stb.refl _,fun f c hf=> ?_⟩
    obtain ⟨f,rfl⟩:∃ g,f = g + 1:=⟨f - 1,by omega⟩
    rw [hend]
    dsimp only
    rw [w6 (x:=(P.length:Int) + (bs:Int)),dec_f q0,w6 (x:=(bs:Int) * 2),show (bs:Int) * 2 = ((2 * bs:Nat):Int) by omega]
theorem passes (hfl:9223372036854775808≤fl) (hc:Cmp fl bl key V):∀ (m bs:Nat) (D:List Int),0 < bs→bs≤5000000000000→D.length≤bs + m→Ch key bs D→(∀ y ∈ D,V y)→D.length≤4000000000000→
  ∃ D',Srt key D'∧Stb key D' D∧∀ (f:Nat) (T:List Int×(List (Int×(Int×(List Int))))→OA),m + 1≤f→iter (cq fl) f ((D.length:Int),(bs:Int),D,bl) T = T (D',bl):=by
 intro m
 induction m with
 | zero=>
  intro bs D hb hb2 hm hD hV hl
  refine ⟨D,hD.srt hb q0,Stb.refl _,fun f T hf=> ?_⟩
  obtain ⟨f,rfl⟩:∃ g,f = g + 1:=⟨f - 1,by omega⟩
  simp only [iter,cq,eK]
  rw [dec_f q0]
 | succ m ih=>
  intro bs D hb hb2 hm hD hV hl
  by_cases h:bs < D.length
  ·obtain ⟨C,c1,c2,c3⟩:=pass hfl hc hb q0 D.length [] D (Nat.le_refl _) hD hV (by simp; omega)
   have lC:=c2.len
   by_cases hbig:2 * bs≤5000000000000
   ·obtain ⟨E,e1,e2,e3⟩:=ih (2 * bs) C q0 hbig q0 c1 (fun y hy=>hV y (c2.1.mem_iff.1 hy)) q0
    refine ⟨E,e1,e2.trans c2,fun f T hf=> ?_⟩
    obtain ⟨f,rfl⟩:∃ g,f = g + 1:=⟨f - 1,by omega⟩
    simp only [iter,cq,eK]
    unfold pY
    have h4:=c3 fl (fun v=>iter (cq fl) f v T) q0
    simp only [List.length_nil,Nat.zero_add,List.nil_append] at h4
    rw [dec_t q0,w6 (x:=2 * (bs:Int)),show 2 * (bs:Int) = ((2 * bs:Nat):Int) by omega]
    refine Eq.trans h4 ?_
    have:=e3 f T q0
    rw [lC] at this
    exact this
   ·-- so great a block holds all
    refine ⟨C,c1.srt q0 q0,c2,fun f T hf=> ?_⟩
    obtain ⟨f,rfl⟩:∃ g,f = g + 1:=⟨f - 1,by omega⟩
    simp only [iter,cq,eK]
    unfold pY
    have h4:=c3 fl (fun v=>iter (cq fl) f v T) q0
    simp only [List.length_nil,Nat.zero_add,List.nil_append] at h4
    rw [dec_t q0,w6 (x:=2 * (bs:Int)),show 2 * (bs:Int) = ((2 * bs:Nat):Int) by omega]
    refine Eq.trans h4 ?_
    obtain ⟨f,rfl⟩:∃ g,f = g + 1:=⟨f - 1,by omega⟩
    simp only [iter,cq,eK]
    rw [dec_f q0]
  ·refine ⟨D,hD.srt hb q0,Stb.refl _,fun f T hf=> ?_⟩
   obtain ⟨f,rfl⟩:∃ g,f = g + 1:=⟨f - 1,by omega⟩
   simp only [iter,cq,eK]
   rw [dec_f q0]
theorem sort_ok (hfl:9223372036854775808≤fl) (hc:Cmp fl bl key V) {D:List Int} (hV:∀ y ∈ D,V y) (hl:D.length≤4000000000000):∃ C,Srt key C∧Stb key C D∧∀ K,eq fl D bl K = K (C,bl):=by
 obtain ⟨B,b1,b2,b3⟩:=blocks hfl hc D.length [] D (Nat.le_refl _) hV (by simp; omega)
 have lB:=b2.len
 obtain ⟨C,c1,c2,c3⟩:=passes hfl hc B.length 20 B q0 q0 q0 b1 (fun y hy=>hV y (b2.1.mem_iff.1 hy)) q0
 refine ⟨C,c1,c2.trans b2,fun K=> ?_⟩
 unfold eq pN jY sf An
 have h0:=b3 fl (fun v=>qQ fl v (fun (b2_0,b2_1)=>K (b2_0,b2_1))) q0
 simp only [List.length_nil,Nat.zero_add,List.nil_append] at h0
 refine Eq.trans h0 ?_
 unfold qQ
 have:=c3 fl (fun (b2_0,b2_1)=>K (b2_0,b2_1)) q0
 rw [lB] at this
 exact this
end
end Go.Proofs.YtohnjbmiaegofaaGreat.Sy
set_option maxHeartbeats 1000000
namespace Go.Proofs.YtohnjbmiaegofaaGreat.Di
open Go Ev Bm So
def Hs (l:List Bmp) (i:Nat):Int:=(l.getD i (0,0,[])).2.1
def Ws (l:List Bmp) (i:Nat):Int:=(l.getD i (0,0,[])).1
def oRes (l:List Bmp):Int×List Int:=if l.all shp = true then (0,ordI l.length (Hs l) (Ws l) 40 40) else (30,[])
theorem rg_of {l:List Bmp} (h:l.all shp = true) (i:Nat) (hi:i < l.length):1≤Hs l i∧Hs l i≤40∧1≤Ws l i∧Ws l i≤40:=by
 obtain ⟨a,b,c,d⟩:=shp_rg (all_getD (d:=(0,0,[])) h hi)
 exact ⟨c,d,a,b⟩
section
variable {fl:Nat} (hfl:9223372036854775808≤fl)
include hfl
theorem has_order {l:List Bmp} (hl:l.length≤1000000000000000) {K:Bool→OA}:dR fl l K = K (!l.all shp):=by
 unfold dR qx kn yv Be
 have st:∀ i:Nat,i < l.length→∀ c ret b,eH fl (l,(l.length:Int),(i:Int)) c (ret,b) = if shp (l.getD i (0,0,[])) = true then c (l,(l.length:Int),((i + 1:Nat):Int)) else ret (i:Int):=by
  intro i hi c ret b
  simp only [eH,lQ,fV,xY]
  rw [dec_t q0,dec_t q0,Int.toNat_natCast,isShape_ok hfl]
  try dsimp only
  rw [show ((l.getD i (0,0,[])).fst,(l.getD i (0,0,[])).snd.fst,(l.getD i (0,0,[])).snd.snd) = l.getD i (0,0,[]) from rfl,wrap64 q0 q0]
  cases shp (l.getD i (0,0,[])) <;> rfl
 rcases all_or_first shp (0,0,[]) l with ha | ⟨n,hn,hb,hi⟩
 ·rw [ha]
  refine iter_to (step:=eH fl) (fun i:Nat=>(l,(l.length:Int),(i:Int))) l.length (fun i hi c=>by rw [st i hi,if_pos (all_getD ha _ hi)]) (fun c=> ?_) q0
  simp only [eH,lQ]
  rw [dec_f q0]
  rfl
 ·rw [not_all hn hb]
  refine iter_to (step:=eH fl) (fun i:Nat=>(l,(l.length:Int),(i:Int))) n (fun i hi' c=>by rw [st i q0,if_pos (hi i hi')]) (fun c=> ?_) q0
  rw [st n hn,if_neg (by rw [hb]; simp)]
  show K (decide ((n:Int)≥0)) = K true
  rw [decide_eq_true q0]
omit hfl in
theorem scmp {l:List Bmp} (h:l.all shp = true):Sy.Cmp fl l (keyI (Hs l) (Ws l)) (fun x=>0≤x∧x < (l.length:Int)):=by
 intro x y ⟨x0,x1⟩ ⟨y0,y1⟩
 have hx:=rg_of h x.toNat q0
 have hy:=rg_of h y.toNat q0
 have key:∀ K:Int×List Bmp→OA,an fl x y l K = if Hs l x.toNat = Hs l y.toNat then K (Ws l x.toNat - Ws l y.toNat,l) else K (Hs l x.toNat - Hs l y.toNat,l):=fun K=>by
  have e1:(l.getD x.toNat (0,0,[])).snd.fst = Hs l x.toNat:=rfl
  have e2:(l.getD y.toNat (0,0,[])).snd.fst = Hs l y.toNat:=rfl
  have e3:(l.getD x.toNat (0,0,[])).fst = Ws l x.toNat:=rfl
  have e4:(l.getD y.toNat (0,0,[])).fst = Ws l y.toNat:=rfl
  unfold an
  rw [e1,e2,e3,e4,dec_t ⟨x0,x1⟩,dec_t ⟨y0,y1⟩,cn,dec_t ⟨x0,x1⟩,dec_t ⟨y0,y1⟩,dec_t ⟨x0,x1⟩,dec_t ⟨y0,y1⟩,w6 (x:=Hs l x.toNat - Hs l y.toNat),w6 (x:=Ws l x.toNat - Ws l y.toNat)]
 unfold keyI
 by_cases hh:Hs l x.toNat = Hs l y.toNat
 ·exact ⟨Ws l x.toNat - Ws l y.toNat,by omega,by omega,fun K=>by rw [key K,if_pos hh]⟩
 ·exact ⟨Hs l x.toNat - Hs l y.toNat,by omega,by omega,fun K=>by rw [key K,if_neg hh]⟩
theorem sord {l:List Bmp} (hl:l.length≤3600000000000) {K:Int×List Int→OA}:bb fl l K = K (oRes l):=by
 unfold bb tJ oRes
 rw [has_order hfl q0]
 cases h:l.all shp with
 | false=>rfl
 | true=>
 rw [cond_f (b:=!true) rfl,if_pos rfl]
 have hloop:∀ b,pC fl ((l.length:Int),0,l,[]) b = b (l,ints l.length):=fun b=>by
  unfold pC
  refine iter_seq (step:=gS fl) (fun i:Nat=>((l.length:Int),(i:Int),l,ints i)) l.length rfl (fun i hi c=> ?_) (fun c=> ?_) q0
  ·simp only [gS,mo]
   rw [dec_t q0,dec_t (by rw [ints_len]; simp only [List.length_cons,List.length_nil]; omega),wrap64 q0 q0,ints_succ]
   rfl
  ·simp only [gS,mo]
   rw [dec_f q0]
 rw [hloop]
 try dsimp only
 obtain ⟨C,c1,c2,c3⟩:=Sy.sort_ok hfl (scmp (fl:=fl) h) (D:=ints l.length) (fun x hx=>ints_mem hx) (by rw [ints_len]; omega)
 rw [c3]
 try dsimp only
 rw [ordI_eq (rg_of h) c1 c2]
end
end Go.Proofs.YtohnjbmiaegofaaGreat.Di
set_option maxHeartbeats 1000000
namespace Go.Proofs.YtohnjbmiaegofaaGreat.Di
open Go Ev Bm Co Gen So
def exG (m:Nat):List Bool:=(List.range m).map fun k:Nat=>((k:Int).tmod 3 != 1)
theorem exG_succ (m:Nat):exG (m + 1) = exG m++ [((m:Int).tmod 3 != 1)]:=by
 unfold exG
 rw [List.range_succ,List.map_append]
 rfl
theorem exG_len (m:Nat):(exG m).length = m:=by simp [exG]
def frG (o:Nat) (k:Nat):Int:=if (k:Int).tmod 4 - 1≥(o:Int) + (k:Int) then -1 else (k:Int).tmod 4 - 1
def shG (li:List Bmp) (C:List Int) (o:Nat) (k:Nat):Sh:=(li.getD (C.getD k 0).toNat (0,0,[]),frG o k)
def shsG (li:List Bmp) (C:List Int) (o:Nat) (m:Nat):List Sh:=(List.range m).map (shG li C o)
theorem shsG_succ (li:List Bmp) (C:List Int) (o:Nat) (m:Nat):shsG li C o (m + 1) = shsG li C o m++ [shG li C o m]:=by
 unfold shsG
 rw [List.range_succ,List.map_append]
 rfl
theorem shsG_len (li:List Bmp) (C:List Int) (o m:Nat):(shsG li C o m).length = m:=by simp [shsG]
theorem shsG_get {li:List Bmp} {C:List Int} {o m i:Nat} (h:i < m):(shsG li C o m).getD i dS = shG li C o i:=by
 unfold shsG
 rw [List.getD_eq_getElem?_getD,List.getElem?_map,List.getElem?_range h]
 rfl
theorem tm4 (k:Nat):0≤(k:Int).tmod 4∧(k:Int).tmod 4≤3:=by
 rw [Int.tmod_eq_emod_of_nonneg q0]
 omega
theorem frG_rg (o k:Nat): -1≤frG o k∧frG o k < (o:Int) + (k:Int):=by
 have:=tm4 k
 unfold frG
 split <;> omega
theorem ordI_in {li:List Bmp} (h:li.all shp = true):(ordI li.length (Hs li) (Ws li) 40 40).length = li.length∧(∀ x ∈ ordI li.length (Hs li) (Ws li) 40 40,0≤x∧x < (li.length:Int))∧Srt (keyI (Hs li) (Ws li)) (ordI li.length (Hs li) (Ws li) 40 40):=by
 have hs:=ordI_stb (rg_of h)
 refine ⟨by rw [hs.len,ints_len],fun x hx=>ints_mem (hs.1.mem_iff.1 hx),ordI_srt⟩
theorem rs_ord {li:List Bmp} (h:li.all shp = true) {old:List Bmp} (hl:old.length + li.length≤60):rsErr old (shsG li (ordI li.length (Hs li) (Ws li) 40 40) old.length li.length) = 0:=by
 obtain ⟨c1,c2,c3⟩:=ordI_in h
 generalize ordI li.length (Hs li) (Ws li) 40 40 = C at c1 c2 c3
 have hin:∀ k,k < li.length→(C.getD k 0).toNat < li.length:=fun k hk=>by
  have:=c2 _ (getD_mem (show k < C.length by omega) 0)
  omega
 have hb:∀ k,k < li.length→shp (li.getD (C.getD k 0).toNat (0,0,[])) = true:=fun k hk=>List.all_eq_true.1 h _ (getD_mem (hin k hk) _)
 unfold rsErr
 have h1:(shsG li C old.length li.length).all shpS = true:=by
  rw [List.all_eq_true]
  intro s hs
  unfold shsG at hs
  obtain ⟨k,hk,rfl⟩:=List.mem_map.1 hs
  exact hb k (List.mem_range.1 hk)
 have h2:(List.range (shsG li C old.length li.length).length).all (fun i=>decide (okAt old.length (shsG li C old.length li.length) i)) = true:=range_all (fun i hi=>decide_eq_true (by
  rw [shsG_len] at hi
  have hf:=frG_rg old.length i
  refine okAt_mk ?_ ?_ ?_
  ·rw [shsG_get hi]
   exact hf.1
  ·rw [shsG_get hi]
   exact hf.2
  ·by_cases h0:i = 0
   ·exact .inl h0
   ·right
    rw [shsG_get hi,shsG_get (show i - 1 < li.length by omega)]
    have hs:=srt_get c3 0 (i:=i - 1) (j:=i) q0 q0
    have a:=shp_rg (hb (i - 1) q0)
    have b:=shp_rg (hb i hi)
    unfold keyI Hs Ws at hs
    show (li.getD (C.getD (i - 1) 0).toNat (0,0,[])).2.1≤(li.getD (C.getD i 0).toNat (0,0,[])).2.1
    omega))
 rw [if_pos h1,if_pos h2,if_neg (by rw [shsG_len]; omega)]
theorem exN_mem {all:List Bmp} {ex:List Bool}:∀ n,n≤all.length→∀ b ∈ exN all ex n,b ∈ all
 | 0,_,b,hb=>by cases hb
 | n + 1,hn,b,hb=>by
  unfold exN at hb
  rcases List.mem_append.1 hb with hb | hb
  ·exact exN_mem n q0 b hb
  ·split at hb
   ·rw [List.mem_singleton] at hb
    subst hb
    exact getD_mem q0 _
   ·cases hb
section
variable {fl:Nat} (hfl:9223372036854775808≤fl)
include hfl
theorem same_fl {l:List Bool} (hl:l.length≤1000000000000000) {K:Bool→OA}:aO fl l l K = K true:=by
 unfold aO
 rw [cond_f (by simp)]
 unfold AJ
 refine iter_to (step:=fx fl) (fun i:Nat=>(l,l,(i:Int))) l.length (fun i hi c=> ?_) (fun c=> ?_) q0
 ·simp only [fx,both_same]
  rw [dec_t q0,dec_t q0,dec_t q0,cond_f (by simp),wrap64 q0 q0]
  rfl
 ·simp only [fx]
  rw [dec_f q0]
theorem same_md {kd:Int} {l:List Int} (hl:l.length≤1000000000000000) {K:Bool→OA}:aM fl kd l kd l K = K true:=by
 unfold aM
 rw [cond_f (by simp),cond_f (by simp)]
 unfold Cx
 refine iter_to (step:=fF fl) (fun i:Nat=>((i:Int),kd,l,kd,l)) l.length (fun i hi c=> ?_) (fun c=> ?_) q0
 ·simp only [fF,both_same]
  rw [dec_t q0,dec_t q0,dec_t q0,cond_f (by simp),wrap64 q0 q0]
  rfl
 ·simp only [fF]
  rw [dec_f q0]
end
end Go.Proofs.YtohnjbmiaegofaaGreat.Di
set_option maxHeartbeats 2000000
namespace Go.Proofs.YtohnjbmiaegofaaGreat.PureSymbolGoes
open Go Ev Bm Co Gen So Di
def KInv (t kd tm kk:Int) (st:List Int):Prop:=st = []∨(vM kk st = true∧kk = kd∧(st.length:Int) = nk t tm)
def inn (li:List Bmp) (n:Int):Nat→Int
 | 0=>n
 | j + 1=>IntKind.i64.wrap (IntKind.i64.wrap (inn li n j + 1) + (((li.getD j (0,0,[])).snd.snd.length:Nat):Int))
def outn (l:List (List Bmp)):Nat→Int
 | 0=>0
 | i + 1=>inn (l.getD i []) (outn l i) (l.getD i []).length
theorem set_last {α:Type} (A:List α) (X Y:α):(A++ [X]).set A.length Y = A++ [Y]:=by simp
theorem get_last {α:Type} (A:List α) (X d:α):(A++ [X]).getD A.length d = X:=by simp
section
variable {fl:Nat} (hfl:9223372036854775808≤fl) {t ax ay kd tm:Int} {l:List (List Bmp)} {keep:List Bool}
include hfl
theorem count_ok {ty:Bool} (hll:∀ li ∈ l,li.length≤3600000000000) (hl:l.length≤1000000000000000) {b}:tE fl (l,keep,0,0,t,ax,ay,ty,kd,tm) b = b (l,keep,outn l l.length,t,ax,ay,ty,kd,tm):=by
 unfold tE
 refine iter_to (step:=gu fl) (fun i:Nat=>(l,keep,outn l i,(i:Int),t,ax,ay,ty,kd,tm)) l.length (fun i hi c=> ?_) (fun c=> ?_) q0
 ·have hli:=hll _ (getD_mem hi [])
  simp only [gu,nm]
  rw [dec_t q0]
  unfold zi
  refine iter_to (step:=iE fl) (fun j:Nat=>(l,keep,inn (l.getD i []) (outn l i) j,(i:Int),(j:Int),t,ax,ay,ty,kd,tm)) (l.getD i []).length (fun j hj c=> ?_) (fun c=> ?_) q0
  ·simp only [iE,oL,Int.toNat_natCast]
   rw [dec_t q0,dec_t q0,dec_t q0,dec_t q0,w6 (x:=(j:Int) + 1)]
   rfl
  ·simp only [iE,oL,Int.toNat_natCast]
   rw [dec_t q0,dec_f q0,w6 (x:=(i:Int) + 1)]
   rfl
 ·simp only [gu,nm]
  rw [dec_f q0]
theorem exs_ok {ty:Bool} {i kk:Int} {old:List Bmp} {C st:List Int} (h:old.length + C.length≤60) {b}:
  sQ fl (l,keep,i,0,t,ax,ay,ty,kd,tm,kk,old,C,[],[],st) b = b (l,keep,i,t,ax,ay,ty,kd,tm,kk,old,C,[],exG (old.length + C.length),st):=by
 unfold sQ
 refine iter_to (step:=iD fl) (fun k:Nat=>(l,keep,i,(k:Int),t,ax,ay,ty,kd,tm,kk,old,C,[],exG k,st)) (old.length + C.length) (fun k hk c=> ?_) (fun c=> ?_) q0
 ·simp only [iD,ml]
  rw [w6 (x:=(old.length:Int) + (C.length:Int)),dec_t q0,dec_t (by rw [exG_len]; simp only [List.length_cons,List.length_nil]; omega),wrap64 q0 q0,exG_succ]
  rfl
 ·simp only [iD,ml]
  rw [w6 (x:=(old.length:Int) + (C.length:Int)),dec_f q0]
theorem shs_ok {ty:Bool} {i:Nat} (hi:i < l.length) {kk:Int} {old:List Bmp} {C st:List Int} {ex:List Bool} (h:old.length + C.length≤60) (hC:∀ x ∈ C,0≤x∧x < ((l.getD i []).length:Int)) {b}:
  uq fl (l,keep,(i:Int),0,t,ax,ay,ty,kd,tm,kk,old,C,[],ex,st) b = b (l,keep,(i:Int),t,ax,ay,ty,kd,tm,kk,old,shsG (l.getD i []) C old.length C.length,ex,st):=by
 unfold uq
 refine iter_to (step:=gD fl) (fun k:Nat=>(l,keep,(i:Int),(k:Int),t,ax,ay,ty,kd,tm,kk,old,C,shsG (l.getD i []) C old.length k,ex,st)) C.length (fun k hk c=> ?_) (fun c=> ?_) q0
 ·have hc:=hC _ (getD_mem hk 0)
  have h4:=tm4 k
  have hsl:=shsG_len (l.getD i []) C old.length k
  simp only [gD,lL,Int.toNat_natCast]
  rw [dec_t q0,dec_t q0,dec_t q0,dec_t hc,dec_t (by rw [hsl]; omega),w6 (x:=(k:Int).tmod 4 - 1),w6 (x:=(old.length:Int) + (k:Int)),w6 (x:=(k:Int) + 1),shsG_succ]
  generalize shsG (l.getD i []) C old.length k = A at hsl ⊢
  have e0:((List.getD (l.getD i []) (Int.toNat (C.getD k 0)) (0,0,[])).fst,(List.getD (l.getD i []) (Int.toNat (C.getD k 0)) (0,0,[])).snd.fst,(List.getD (l.getD i []) (Int.toNat (C.getD k 0)) (0,0,[])).snd.snd) = List.getD (l.getD i []) (Int.toNat (C.getD k 0)) (0,0,[]):=rfl
  by_cases hge:(k:Int).tmod 4 - 1≥(old.length:Int) + (k:Int)
  ·rw [dec_t hge,dec_t (by rw [List.length_append,List.length_singleton]; omega),e0]
   have e1:(A++ [(List.getD (l.getD i []) (Int.toNat (C.getD k 0)) (0,0,[]),(k:Int).tmod 4 - 1)]).getD k ((0,0,[]),0) = (List.getD (l.getD i []) (Int.toNat (C.getD k 0)) (0,0,[]),(k:Int).tmod 4 - 1):=by
    rw [← hsl]
    exact get_last A _ _
   rw [e1]
   have e2:∀ Y:Sh,(A++ [((List.getD (l.getD i []) (Int.toNat (C.getD k 0)) (0,0,[]),(k:Int).tmod 4 - 1):Sh)]).set k Y = A++ [Y]:=fun Y=>by
    rw [← hsl]
    exact set_last A _ _
   rw [e2]
   have e3:shG (l.getD i []) C old.length k = (List.getD (l.getD i []) (Int.toNat (C.getD k 0)) (0,0,[]), -1):=by
    unfold shG frG
    rw [if_pos hge]
   rw [e3]
   rfl
  ·rw [dec_f hge,e0]
   have e3:shG (l.getD i []) C old.length k = (List.getD (l.getD i []) (Int.toNat (C.getD k 0)) (0,0,[]),(k:Int).tmod 4 - 1):=by
    unfold shG frG
    rw [if_neg hge]
   rw [e3]
   rfl
 ·simp only [gD,lL]
  rw [dec_f q0]
theorem go_ok (hv:dv t ax ay false kd tm = true) {i:Nat} (hi:i < l.length) (hl:l.length≤6) (hz:∀ b ∈ l.getD i [],∀ v ∈ b.2.2,0≤v) (hs:(l.getD i []).all shp = true) {kk:Int} {st:List Int} (hk:KInv t kd tm kk st) {old:List Bmp} (hA:AllOk old) (h:old.length + (l.getD i []).length≤60):
  ∃ st' old',KInv t kd tm kd st'∧AllOk old'∧old'.length≤60∧∀ (ret:Bool→OA) (c:(List (List (Int×(Int×(List Int)))))×(List Bool)×Int×Int×Int×Int×Bool×Int×Int×Int×(List (Int×(Int×(List Int))))×(List Int)→OA),
   (aW fl t ax ay false kd tm kk st old (shsG (l.getD i []) (ordI (l.getD i []).length (Hs (l.getD i [])) (Ws (l.getD i [])) 40 40) old.length (ordI (l.getD i []).length (Hs (l.getD i [])) (Ws (l.getD i [])) 40 40).length) (exG (old.length + (ordI (l.getD i []).length (Hs (l.getD i [])) (Ws (l.getD i [])) 40 40).length))
    (fun (y22_0,y22_1,y22_2,y22_3)=>
     bif y22_1 != 0 then ret Bool.false
     else
      (aQ fl t ax ay false kd tm kk st old ((shsG (l.getD i []) (ordI (l.getD i []).length (Hs (l.getD i [])) (Ws (l.getD i [])) 40 40) old.length (ordI (l.getD i []).length (Hs (l.getD i [])) (Ws (l.getD i [])) 40 40).length).length:Int) y22_2
       (fun (y27_0,y27_1,y27_2,y27_3,y27_4)=>
        bif y27_1 != 0 then ret Bool.false
        else
         (aV fl y27_2 (shsG (l.getD i []) (ordI (l.getD i []).length (Hs (l.getD i [])) (Ws (l.getD i [])) 40 40) old.length (ordI (l.getD i []).length (Hs (l.getD i [])) (Ws (l.getD i [])) 40 40).length)
          (fun y32=>
           bif !y32 then ret Bool.false
           else
            (aO fl y27_3 (exG (old.length + (ordI (l.getD i []).length (Hs (l.getD i [])) (Ws (l.getD i [])) 40 40).length))
             (fun y37=>
              bif !y37 then ret Bool.false
              else
               (aM fl y27_0 y27_4 y22_0 y22_3
                (fun y42=>
                 bif !y42 then ret Bool.false
                 else
                  (aU fl old y27_2 y27_3
                   (fun (y47_0,y47_1)=>
                    bif y47_0 != 0 then ret Bool.false
                    else c (l,keep,IntKind.i64.wrap ((i:Int) + 1),t,ax,ay,false,kd,tm,y22_0,y47_1,y22_3)))))))))))))
   = c (l,keep,((i + 1:Nat):Int),t,ax,ay,false,kd,tm,kd,old',st'):=by
 obtain ⟨c1,c2,c3⟩:=ordI_in hs
 have hr:=rs_ord hs (old:=old) h
 rw [← c1] at hr
 rw [c1]
 rw [c1] at hr
 generalize hC:ordI (l.getD i []).length (Hs (l.getD i [])) (Ws (l.getD i [])) 40 40 = C at *
 obtain ⟨L,hL⟩:∃ L,L = shsG (l.getD i []) C old.length (l.getD i []).length:=⟨_,rfl⟩
 rw [← hL] at hr ⊢
 have hLl:L.length = (l.getD i []).length:=by rw [hL,shsG_len]
 obtain ⟨E,hE⟩:∃ E,E = exG (old.length + (l.getD i []).length):=⟨_,rfl⟩
 rw [← hE]
 have hEl:E.length = old.length + L.length:=by rw [hE,exG_len,hLl]
 have hall:old.all shp = true:=List.all_eq_true.2 fun b hb=>(hA b hb).1
 have hb:bgErr t ax ay false kd tm kk st old = 0:=by
  unfold bgErr
  rw [if_pos hv,if_pos (show st = []∨(vM kk st = true∧kk = kd∧(st.length:Int) = nk t tm) from hk),if_pos hall]
 have he:encE t ax ay false kd tm kk st old L E = 0:=by
  unfold encE
  rw [if_pos hb,if_pos hr,if_pos hEl]
 have hzo:∀ b ∈ old,∀ v ∈ b.2.2,0≤v:=fun b hb=>(hA b hb).2
 have hzl:∀ s ∈ L,∀ v ∈ s.1.2.2,0≤v:=by
  intro s hs'
  rw [hL] at hs'
  unfold shsG at hs'
  obtain ⟨k,hk',rfl⟩:=List.mem_map.1 hs'
  have hk':=List.mem_range.1 hk'
  have:=c2 _ (getD_mem (show k < C.length by omega) 0)
  exact hz _ (getD_mem (show (C.getD k 0).toNat < (l.getD i []).length by omega) _)
 obtain ⟨k1,k2,k3,k4⟩:=code_ok he hzo hzl
 have R:=round he hzo hzl
 have hx:xErr old L E = 0:=by
  unfold xErr
  rw [if_pos hall,if_pos hr,if_pos hEl]
 have hxr:xRes old L E = (0,exN (old++L.map (·.1)) E E.length):=by
  unfold xRes
  rw [if_pos hx]
 have hAL:AllOk (old++L.map (·.1)):=by
  intro b hb'
  rcases List.mem_append.1 hb' with hb' | hb'
  ·exact hA b hb'
  ·obtain ⟨s,hs',rfl⟩:=List.mem_map.1 hb'
   exact ⟨List.all_eq_true.1 (rs_parts hr).1 s hs',hzl s hs'⟩
 have hen:=enc_fine he
 refine ⟨(encR t ax ay false kd tm kk st old L E).2.2.2,exN (old++L.map (·.1)) E E.length,.inr ⟨k3,rfl,k4⟩,fun b hb'=>hAL b (exN_mem E.length (by rw [List.length_append,List.length_map]; omega) b hb'),by have:=exN_len (old++L.map (·.1)) E E.length; omega,fun ret c=> ?_⟩
 rw [senc hfl q0 q0 hzo hzl,hen]
 try dsimp only
 generalize encR t ax ay false kd tm kk st old L E = Q at *
 rw [cond_f (b:=(0:Int) != 0) rfl,sdec hfl q0 hzo k1 k2,R]
 try dsimp only
 rw [cond_f (b:=(0:Int) != 0) rfl,same_sh hfl q0]
 try dsimp only
 rw [cond_f (b:=!true) rfl,same_fl hfl q0]
 try dsimp only
 rw [cond_f (b:=!true) rfl,same_md hfl (by have:=lay_rg t tm (n:=0) (by omega); unfold nk at k4; omega)]
 try dsimp only
 rw [cond_f (b:=!true) rfl,sexp hfl q0 q0,hxr]
 try dsimp only
 rw [cond_f (b:=(0:Int) != 0) rfl,wrap64 q0 q0]
 rfl
theorem pure_fl (ty:Bool) (hl:l.length≤1000000000000000) (hll:∀ li ∈ l,li.length≤3600000000000) (hz:∀ li ∈ l,∀ b ∈ li,∀ v ∈ b.2.2,0≤v) (K:Bool→OA):
  iN fl t ax ay ty kd tm l keep K = K true:=by
 unfold iN vS
 rw [count_ok hfl hll hl]
 try dsimp only
 by_cases q1:outn l l.length > 700
 ·rw [dec_t q1,sane]
 rw [dec_f q1]
 by_cases q2:(l.length:Int) > 6
 ·rw [dec_t q2,sane]
 rw [dec_f q2,rsvalid]
 cases hv:dv t ax ay ty kd tm with
 | false=>rw [cond_t (b:=!false) rfl,sane]
 | true=>
 rw [cond_f (b:=!true) rfl]
 obtain ⟨v1,v2,v3⟩:=dv_iff.1 hv
 subst v2
 unfold BW
 refine iter_inv (step:=cN fl) (fun (i:Nat) v=>∃ kk st old,v = (l,keep,(i:Int),t,ax,ay,false,kd,tm,kk,old,st)∧KInv t kd tm kk st∧AllOk old∧old.length≤60) l.length (fun i v hi hv'=> ?_) (fun v hv' c=> ?_) ⟨0,[],[],rfl,.inl rfl,(fun b hb=>by cases hb),Nat.zero_le _⟩ q0
 rotate_left
 ·obtain ⟨kk,st,old,rfl,_⟩:=hv'
  simp only [cN,en]
  rw [dec_f q0,sane]
 obtain ⟨kk,st,old,rfl,hk,hA,ho⟩:=hv'
 have hm:l.getD i [] ∈ l:=getD_mem hi []
 have hli:=hll _ hm
 by_cases hs:(l.getD i []).all shp = true
 rotate_left
 ·refine .inr fun c=> ?_
  simp only [cN,en,Int.toNat_natCast]
  rw [dec_t q0,dec_t q0,sord hfl hli]
  unfold oRes
  rw [if_neg hs]
  try dsimp only
  rw [cond_t (by rfl),sane]
 by_cases hn:old.length + (l.getD i []).length≤60
 rotate_left
 ·refine .inr fun c=> ?_
  simp only [cN,en,Int.toNat_natCast]
  rw [dec_t q0,dec_t q0,sord hfl hli]
  unfold oRes
  rw [if_pos hs]
  try dsimp only
  rw [cond_f (b:=(0:Int) != 0) rfl,dec_t q0,dec_t (by rw [wrap64 q0 q0]; omega),sane]
 obtain ⟨c1,c2,c3⟩:=ordI_in hs
 have step:∀ (kk0:Int) (st0:List Int),KInv t kd tm kk0 st0→_:=fun kk0 st0 hk0=>go_ok (keep:=keep) hfl hv hi q0 (hz _ hm) hs (kk:=kk0) (st:=st0) hk0 hA hn
 by_cases q3:(i:Int) < (keep.length:Int)
 ·cases q4:keep.getD i false with
  | false=>
   obtain ⟨st',old',k1,k2,k3,k4⟩:=step 0 [] (.inl rfl)
   refine .inl ⟨_,⟨kd,st',old',rfl,k1,k2,k3⟩,fun c=> ?_⟩
   simp only [cN,en,Int.toNat_natCast]
   rw [dec_t q0,dec_t q0,sord hfl hli]
   unfold oRes
   rw [if_pos hs]
   try dsimp only
   rw [cond_f (b:=(0:Int) != 0) rfl,dec_t q0,dec_f (by rw [wrap64 q0 q0]; omega),exs_ok hfl q0]
   try dsimp only
   rw [shs_ok hfl hi q0 c2]
   try dsimp only
   rw [dec_t q3,dec_t q0,Int.toNat_natCast,q4,cond_t (b:=!false) rfl]
   exact k4 _ c
  | true=>
   obtain ⟨st',old',k1,k2,k3,k4⟩:=step kk st hk
   refine .inl ⟨_,⟨kd,st',old',rfl,k1,k2,k3⟩,fun c=> ?_⟩
   simp only [cN,en,Int.toNat_natCast]
   rw [dec_t q0,dec_t q0,sord hfl hli]
   unfold oRes
   rw [if_pos hs]
   try dsimp only
   rw [cond_f (b:=(0:Int) != 0) rfl,dec_t q0,dec_f (by rw [wrap64 q0 q0]; omega),exs_ok hfl q0]
   try dsimp only
   rw [shs_ok hfl hi q0 c2]
   try dsimp only
   rw [dec_t q3,dec_t q0,Int.toNat_natCast,q4,cond_f (b:=!true) rfl]
   exact k4 _ c
 ·obtain ⟨st',old',k1,k2,k3,k4⟩:=step kk st hk
  refine .inl ⟨_,⟨kd,st',old',rfl,k1,k2,k3⟩,fun c=> ?_⟩
  simp only [cN,en,Int.toNat_natCast]
  rw [dec_t q0,dec_t q0,sord hfl hli]
  unfold oRes
  rw [if_pos hs]
  try dsimp only
  rw [cond_f (b:=(0:Int) != 0) rfl,dec_t q0,dec_f (by rw [wrap64 q0 q0]; omega),exs_ok hfl q0]
  try dsimp only
  rw [shs_ok hfl hi q0 c2]
  try dsimp only
  rw [dec_f q3]
  exact k4 _ c
end
theorem wf8 {u:Int} (h:(Lit.int .u8 u).wf = true):0≤u:=by
 simp [Lit.wf,IntKind.min,IntKind.max,IntKind.signed,IntKind.bits] at h
 omega
theorem pure (t ax ay:Int) (ty:Bool) (kd tm:Int) (l:List (List Bmp)) (keep:List Bool) (K:Bool→OA)
  (g0:given (.pair (.pair (.int .i64) (.pair (.pair (.int .i64) (.int .i64)) (.pair .bool (.int .i64)))) (.int .i64)) ((t,((ax,ay),(ty,kd))),tm))
  (g1:given (.sl (.sl (.pair (.int .i64) (.pair (.int .i64) (.sl (.int .u8)))))) l)
  (g2:given (.sl .bool) keep):
  iN fuel t ax ay ty kd tm l keep K = K true:=by
 obtain ⟨h1,h2⟩:=g1
 have h1:l.length * 24≤140737488351232:=h1
 refine pure_fl (by rw [fuel_eq]; omega) ty q0 (fun li hli=> ?_) (fun li hli b hb u hu=> ?_) K
 ·obtain ⟨h3,_⟩:=h2 li hli
  have h3:li.length * 40≤140737488351232:=h3
  omega
 ·obtain ⟨_,h3⟩:=h2 li hli
  obtain ⟨_,_,_,h4⟩:=h3 b hb
  exact wf8 (h4 u hu)
end Go.Proofs.YtohnjbmiaegofaaGreat.PureSymbolGoes
