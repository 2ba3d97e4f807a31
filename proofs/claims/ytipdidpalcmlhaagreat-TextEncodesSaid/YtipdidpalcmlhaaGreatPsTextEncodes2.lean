/- Laws of the typed texts that TextEncodes reaches, in plain Lean. No condition but what each theorem names. -/
import Derived.Test.YtipdidpalcmlhaaGreatFsTextEncodes7
import Derived.Test.YtipdidpalcmlhaaGreatPsTextEncodes1
import Derived.Test.YtipdidpalcmlhaaGreatFsTextEncodes2
import Derived.Test.YtipdidpalcmlhaaGreatFsTextEncodes6
import Derived.Test.YtipdidpalcmlhaaGreatFsTextEncodes1
import Derived.Test.YtipdidpalcmlhaaGreatFsTextEncodes3
import Derived.Test.YtipdidpalcmlhaaGreatFsTextEncodes4
import Derived.Test.YtipdidpalcmlhaaGreatFsTextEncodes5
import Derived.Test.YtipdidpalcmlhaaGreatEvS
set_option linter.unusedVariables false
set_option linter.unusedSimpArgs false
set_option linter.unusedSectionVars false
namespace Go.Proofs.YtipdidpalcmlhaaGreat.Tx
open Go Ev Bm Co Gen Dc Rf
def itAt (l:List Item) (i:Nat):Item:=l.getD i (0,0,0,false,0,0,0,0,[])
def stp (o0:Int) (l:List Item) (i:Nat):Int:=(itAt l i).2.2.1 / o0
def fstS (o0:Int) (l:List Item):Nat→Int
  | 0=>(itAt l 0).2.1
  | i + 1=>if stp o0 l (i + 1) = stp o0 l i then fstS o0 l i else (itAt l (i + 1)).2.1
def preEv (o0 o3:Int) (l:List Item):Nat→List (Int×Int)
  | 0=>numEv 0 false (stp o0 l 0)++numEv 48 false (itAt l 0).2.1
  | i + 1=>if stp o0 l (i + 1) = stp o0 l i then numEv 96 false ((itAt l (i + 1)).2.1 - (itAt l i).2.1 - o3)
    else numEv 96 true 0++(numEv 0 false (stp o0 l (i + 1) - stp o0 l i)++numEv 48 false ((itAt l (i + 1)).2.1 - fstS o0 l i))
section
variable (o0 o3 o7:Int) (rf:Bool) (symbols:List Bmp) (l:List Item)
def allE:Nat→List (Int×Int)
  | 0=>[]
  | i + 1=>(allE i++preEv o0 o3 l i)++itemEv o0 o7 rf symbols (itAt l i)
def textEv:List (Int×Int):=if l.length = 0 then [] else allE o0 o3 o7 rf symbols l l.length++numEv 96 true 0
end
theorem fst_const {o0:Int} {l:List Item} {i:Nat} (hi:i = 0∨stp o0 l i ≠ stp o0 l (i - 1)):∀ d:Nat,(∀ k,i≤k→k≤i + d→stp o0 l k = stp o0 l i)→fstS o0 l (i + d) = (itAt l i).2.1
  | 0,_=>by
    rcases hi with rfl | hi
    · rfl
    · cases i with
      | zero=>rfl
      | succ i=>
        simp only [Nat.add_sub_cancel] at hi
        rw [Nat.add_zero,fstS,if_neg hi]
  | d + 1,h=>by
    rw [show i + (d + 1) = (i + d) + 1 by omega,fstS,if_pos (by rw [h (i + d + 1) (by omega) (by omega),h (i + d) (by omega) (by omega)])]
    exact fst_const hi d fun k h1 h2=>h k h1 (by omega)
theorem drop_getD {l:List Item} {j:Nat}:(l.drop j).getD (Int.toNat 0) (0,0,0,false,0,0,0,0,[]) = itAt l j:=by
  unfold itAt
  rw [List.getD_eq_getElem?_getD,List.getD_eq_getElem?_getD,List.getElem?_drop]
  rfl
theorem drop_next {l:List Item} {j:Nat}:List.take (hiOf none ((l.drop j).length:Int) - loOf (some 1)).toNat (List.drop (loOf (some 1)).toNat (l.drop j)) = l.drop (j + 1):=by
  have e:(hiOf none ((l.drop j).length:Int) - loOf (some 1)).toNat = (l.drop j).length - 1:=by
    show (((l.drop j).length:Int) - 1).toNat = _
    omega
  have e1:(loOf (some 1)).toNat = 1:=rfl
  rw [e,e1,List.drop_drop,List.take_of_length_le (by simp only [List.length_drop]; omega)]
theorem itAt_mem {l:List Item} {i:Nat} (h:i < l.length):itAt l i ∈ l:=getD_mem h _
section
variable {o0 o1 o3 o4 o5 o7:Int} {rf tu:Bool} {symbols:List Bmp} {l:List Item} (T:TE o0 o1 o3 o4 o5 o7 symbols) (hI:∀ i ∈ l,ItOk rf symbols i) (hl:l.length≤300)
include T hI
theorem stp_rg {i:Nat} (h:i < l.length): -100000≤stp o0 l i∧stp o0 l i≤100000∧ -100000≤(itAt l i).2.1∧(itAt l i).2.1≤100000∧near (itAt l i).2.2.1 1000000:=by
  obtain ⟨_,_,⟨s0,s1⟩,⟨t0,t1⟩⟩:=(hI _ (itAt_mem h)).num
  obtain ⟨q1,_⟩:=ov_iff.1 T.ov
  unfold stp
  generalize (itAt l i).2.2.1 = t at *
  exact ⟨by rcases q1 with rfl | rfl | rfl | rfl <;> omega,by rcases q1 with rfl | rfl | rfl | rfl <;> omega,s0,s1,⟨by omega,by omega⟩⟩
theorem fstS_rg:∀ i:Nat,i < l.length→ -100000≤fstS o0 l i∧fstS o0 l i≤100000
  | 0,h=>⟨(stp_rg T hI h).2.2.1,(stp_rg T hI h).2.2.2.1⟩
  | i + 1,h=>by
    unfold fstS
    split
    · exact fstS_rg i (by omega)
    · exact ⟨(stp_rg T hI h).2.2.1,(stp_rg T hI h).2.2.2.1⟩
theorem preEv_ok {N:Nat} (hN:385≤N):∀ i,i < l.length→Evs N (preEv o0 o3 l i)∧(preEv o0 o3 l i).length≤150
  | 0,h=>by
    obtain ⟨a1,a2,a3,a4,_⟩:=stp_rg T hI h
    obtain ⟨b1,b2⟩:=numEv_ok (base:=0) (n:=N) (by omega) (by omega) false (v:=stp o0 l 0) (by omega) (by omega)
    obtain ⟨c1,c2⟩:=numEv_ok (base:=48) (n:=N) (by omega) (by omega) false (v:=(itAt l 0).2.1) (by omega) (by omega)
    exact ⟨Evs.app b1 c1,by rw [preEv,List.length_append]; omega⟩
  | i + 1,h=>by
    obtain ⟨a1,a2,a3,a4,_⟩:=stp_rg T hI h
    obtain ⟨d1,d2,d3,d4,_⟩:=stp_rg T hI (i:=i) (by omega)
    obtain ⟨f1,f2⟩:=fstS_rg T hI i (by omega)
    obtain ⟨_,_,_,g1,g2,_⟩:=ov_iff.1 T.ov
    by_cases hc:stp o0 l (i + 1) = stp o0 l i
    · rw [preEv,if_pos hc]
      obtain ⟨b1,b2⟩:=numEv_ok (base:=96) (n:=N) (by omega) (by omega) false (v:=(itAt l (i + 1)).2.1 - (itAt l i).2.1 - o3) (by omega) (by omega)
      exact ⟨b1,by omega⟩
    · rw [preEv,if_neg hc]
      obtain ⟨b1,b2⟩:=numEv_ok (base:=0) (n:=N) (by omega) (by omega) false (v:=stp o0 l (i + 1) - stp o0 l i) (by omega) (by omega)
      obtain ⟨c1,c2⟩:=numEv_ok (base:=48) (n:=N) (by omega) (by omega) false (v:=(itAt l (i + 1)).2.1 - fstS o0 l i) (by omega) (by omega)
      obtain ⟨e1,e2⟩:=numEv_ok (base:=96) (n:=N) (by omega) (by omega) true (v:=0) (by omega) (by omega)
      exact ⟨Evs.app e1 (Evs.app b1 c1),by rw [List.length_append,List.length_append]; omega⟩
theorem allE_ok {N:Nat} (hN:(N:Int) = tsz o7 rf symbols):∀ i,i≤l.length→Evs N (allE o0 o3 o7 rf symbols l i)∧(allE o0 o3 o7 rf symbols l i).length≤2150 * i
  | 0,_=>⟨Evs.nil N,Nat.zero_le _⟩
  | i + 1,h=>by
    obtain ⟨s0,s1,s2,s3,s4⟩:=lik_sz o7 rf symbols T.n
    obtain ⟨a,b⟩:=allE_ok hN i (by omega)
    obtain ⟨c,d⟩:=preEv_ok (l:=l) T hI (N:=N) (by omega) i (by omega)
    obtain ⟨e,f⟩:=itemEv_ok T (hI _ (itAt_mem (i:=i) (by omega))) hN
    exact ⟨Evs.app (Evs.app a c) e,by rw [allE,List.length_append,List.length_append]; omega⟩
end
section
variable {fl:Nat} (hfl:9223372036854775808≤fl) {kd:Int} {x:Iv} (hx:x.Ok kd) (hn:x.st.length≤8192)
variable {o0 o1 o3 o4 o5 o7:Int} {rf tu:Bool} {symbols:List Bmp} {l:List Item} (T:TE o0 o1 o3 o4 o5 o7 symbols) (hI:∀ i ∈ l,ItOk rf symbols i) (hl:l.length≤300) (hN:(x.st.length:Int) = tsz o7 rf symbols)
include hfl hx hn T hI hl hN
theorem strip_loop {i:Nat} (hi:i < l.length) {r:Option Ans} {b}
    (hb:∀ j,i < j→j≤l.length→(∀ k,i≤k→k < j→stp o0 l k = stp o0 l i)→(j < l.length→stp o0 l j ≠ stp o0 l i)→b (l.drop j,stp o0 l i,(itAt l i).2.1,o0,o1,tu,o3,o4,o5,rf,o7,kd,(run kd x [] (allE o0 o3 o7 rf symbols l j)).1.lo,(run kd x [] (allE o0 o3 o7 rf symbols l j)).1.hi,true,o0,o1,tu,o3,o4,o5,rf,o7,(tk symbols:Int),lik symbols,tsz o7 rf symbols,symbols,(run kd x [] (allE o0 o3 o7 rf symbols l j)).1.st,(run kd x [] (allE o0 o3 o7 rf symbols l j)).2) = r):
    ∀ (d j:Nat) (s a:Int) (E:List (Int×Int)) (m:Nat),a = ((j - i:Nat):Int)→j + d = l.length→i≤j→(∀ k,i≤k→k < j→stp o0 l k = stp o0 l i)→(if j = i then s = (itAt l i).2.1∧E = allE o0 o3 o7 rf symbols l i++preEv o0 o3 l i else s = (itAt l (j - 1)).2.1∧E = allE o0 o3 o7 rf symbols l j)→d < m→
      iter (S_text_Encode_2 fl) m (l.drop j,stp o0 l i,(itAt l i).2.1,stp o0 l i,s,a,o0,o1,tu,o3,o4,o5,rf,o7,kd,(run kd x [] E).1.lo,(run kd x [] E).1.hi,true,o0,o1,tu,o3,o4,o5,rf,o7,(tk symbols:Int),lik symbols,tsz o7 rf symbols,symbols,(run kd x [] E).1.st,(run kd x [] E).2) b = r
  | 0,j,s,a,E,m,ha,hj,hij,hk,hE,hm=>by
    obtain ⟨m,rfl⟩:∃ k,m = k + 1:=⟨m - 1,by omega⟩
    have hjl:j = l.length:=by omega
    rw [if_neg (by omega)] at hE
    simp only [iter,S_text_Encode_2,Sg_text_Encode_2]
    rw [dec_f (by simp only [List.length_drop]; omega),hE.2]
    exact hb j (by omega) (by omega) hk (fun h=>by omega)
  | d + 1,j,s,a,E,m,ha,hj,hij,hk,hE,hm=>by
    obtain ⟨m,rfl⟩:∃ k,m = k + 1:=⟨m - 1,by omega⟩
    obtain ⟨q1,_,_,g1,g2,_⟩:=ov_iff.1 T.ov
    obtain ⟨s0,s1,s2,s3,s4⟩:=lik_sz o7 rf symbols T.n
    have hjl:j < l.length:=by omega
    obtain ⟨a1,a2,a3,a4,a5⟩:=stp_rg T hI hjl
    have hdl:((l.drop j).length:Int) = (l.length:Int) - (j:Int):=by rw [List.length_drop]; omega
    have hnext:stp o0 l j = stp o0 l i→∀ E',E' = allE o0 o3 o7 rf symbols l j++preEv o0 o3 l j→∀ K:_→Option Ans,(F_text_writer_item_1a8 fl (itAt l j).1 (itAt l j).2.1 (itAt l j).2.2.1 (itAt l j).2.2.2.1 (itAt l j).2.2.2.2.1 (itAt l j).2.2.2.2.2.1 (itAt l j).2.2.2.2.2.2.1 (itAt l j).2.2.2.2.2.2.2.1 (itAt l j).2.2.2.2.2.2.2.2 o0 o1 tu o3 o4 o5 rf o7 (tk symbols:Int) (lik symbols) (tsz o7 rf symbols) symbols kd (run kd x [] E').1.lo (run kd x [] E').1.hi true (run kd x [] E').1.st (run kd x [] E').2 K)
        = K (o0,o1,tu,o3,o4,o5,rf,o7,(tk symbols:Int),lik symbols,tsz o7 rf symbols,symbols,kd,(run kd x [] (allE o0 o3 o7 rf symbols l (j + 1))).1.lo,(run kd x [] (allE o0 o3 o7 rf symbols l (j + 1))).1.hi,true,(run kd x [] (allE o0 o3 o7 rf symbols l (j + 1))).1.st,(run kd x [] (allE o0 o3 o7 rf symbols l (j + 1))).2):=by
      intro _ E' hE' K
      subst hE'
      obtain ⟨e1,e2⟩:=allE_ok T hI hN j (by omega)
      obtain ⟨c,d⟩:=preEv_ok (l:=l) T hI (N:=x.st.length) (by omega) j hjl
      exact witem_at hfl hx hn T (hI _ (itAt_mem hjl)) hN (Evs.app e1 c) (by rw [List.length_append,List.length_nil]; omega)
    have hrec:=strip_loop hi hb d (j + 1) (itAt l j).2.1 (a + 1) (allE o0 o3 o7 rf symbols l (j + 1)) m (by omega) (by omega) (by omega)
    simp only [iter,S_text_Encode_2,Sg_text_Encode_2]
    rw [dec_t (by omega),dec_t (by omega),drop_getD,strip_ok q1 a5]
    try dsimp only
    rw [show (itAt l j).2.2.1 / o0 = stp o0 l j from rfl,cb]
    by_cases hs:stp o0 l j = stp o0 l i
    rotate_left
    · rw [if_neg hs]
      have hne:j ≠ i:=fun h=>hs (by rw [h])
      rw [if_neg hne] at hE
      rw [hE.2]
      exact hb j (by omega) (by omega) hk (fun _=>hs)
    rw [if_pos hs]
    have hk':∀ k,i≤k→k < j + 1→stp o0 l k = stp o0 l i:=fun k h1 h2=>by
      rcases Nat.lt_or_ge k j with h | h
      · exact hk k h1 h
      · have:k = j:=by omega
        rw [this]; exact hs
    have hrec:=hrec hk' (by rw [if_neg (by omega)]; exact ⟨rfl,rfl⟩) (by omega)
    have hlo:(0:Int)≤loOf (some 1)∧loOf (some 1)≤hiOf none ((l.drop j).length:Int)∧hiOf none ((l.drop j).length:Int)≤((l.drop j).length:Int):=by
      show (0:Int)≤1∧(1:Int)≤((l.drop j).length:Int)∧_≤_
      exact ⟨by omega,by omega,Int.le_refl _⟩
    by_cases hji:j = i
    · subst hji
      rw [if_pos rfl] at hE
      rw [dec_f (by omega),dec_t (by omega),dec_t (by omega),hnext hs E hE.2]
      dsimp only
      rw [dec_t hlo,drop_next,w6 (x:=a + 1)]
      exact hrec
    · rw [if_neg hji] at hE
      obtain ⟨hs1,hE1⟩:=hE
      obtain ⟨e1,e2⟩:=allE_ok T hI hN j (by omega)
      obtain ⟨b1,b2,b3,b4,_⟩:=stp_rg T hI (i:=j - 1) (by omega)
      rw [dec_t (by omega),dec_t (by omega),hs1,hE1,w6 (x:=(itAt l j).2.1 - (itAt l (j - 1)).2.1),wrap64 (by omega) (by omega),wput_at hfl hx hn e1 (by rw [List.length_nil]; omega) (by omega) (by omega) (by omega) (by omega)]
      dsimp only
      rw [dec_t (by omega),dec_t (by omega),hnext hs _ (by
        obtain ⟨j',rfl⟩:∃ j',j = j' + 1:=⟨j - 1,by omega⟩
        rw [preEv,if_pos (by rw [hs,hk j' (by omega) (by omega)])]
        rfl)]
      dsimp only
      rw [dec_t hlo,drop_next,w6 (x:=a + 1)]
      exact hrec
theorem all_loop {r:Option Ans} {b}
    (hb:b (kd,(run kd x [] (textEv o0 o3 o7 rf symbols l)).1.lo,(run kd x [] (textEv o0 o3 o7 rf symbols l)).1.hi,true,(run kd x [] (textEv o0 o3 o7 rf symbols l)).1.st,(run kd x [] (textEv o0 o3 o7 rf symbols l)).2) = r):
    ∀ (d i:Nat) (E:List (Int×Int)) (la fi:Int) (m:Nat),i + d = l.length→(if i = 0 then la = 0∧fi = 0∧E = [] else la = stp o0 l (i - 1)∧fi = fstS o0 l (i - 1)∧E = allE o0 o3 o7 rf symbols l i++numEv 96 true 0∧(i < l.length→stp o0 l i ≠ stp o0 l (i - 1)))→d < m→
      iter (S_text_Encode_0 fl) m (l.drop i,la,fi,o0,o1,tu,o3,o4,o5,rf,o7,kd,(run kd x [] E).1.lo,(run kd x [] E).1.hi,true,o0,o1,tu,o3,o4,o5,rf,o7,(tk symbols:Int),lik symbols,tsz o7 rf symbols,symbols,(run kd x [] E).1.st,(run kd x [] E).2) b = r:=by
  intro d
  induction d using Nat.strongRecOn with
  | ind d ih=>
  intro i E la fi m hi hE hm
  obtain ⟨m,rfl⟩:∃ k,m = k + 1:=⟨m - 1,by omega⟩
  obtain ⟨q1,_,_,g1,g2,_⟩:=ov_iff.1 T.ov
  obtain ⟨s0,s1,s2,s3,s4⟩:=lik_sz o7 rf symbols T.n
  by_cases hil:i = l.length
  · simp only [iter,S_text_Encode_0,Sg_text_Encode_0]
    rw [dec_f (by simp only [List.length_drop]; omega)]
    have hE2:E = textEv o0 o3 o7 rf symbols l:=by
      unfold textEv
      by_cases h0:i = 0
      · rw [if_pos h0] at hE
        rw [hE.2.2,if_pos (by omega)]
      · rw [if_neg h0] at hE
        rw [hE.2.2.1,if_neg (by omega),hil]
    rw [hE2]
    exact hb
  have hjl:i < l.length:=by omega
  obtain ⟨a1,a2,a3,a4,a5⟩:=stp_rg T hI hjl
  obtain ⟨e1,e2⟩:=allE_ok T hI hN i (by omega)
  have hdl:((l.drop i).length:Int) = (l.length:Int) - (i:Int):=by rw [List.length_drop]; omega
  obtain ⟨n1,n2⟩:=numEv_ok (base:=96) (n:=x.st.length) (by omega) (by omega) true (v:=0) (by omega) (by omega)
  have hE':Evs x.st.length E∧E.length≤2150 * i + 50∧ -200000≤la∧la≤200000∧ -200000≤fi∧fi≤200000∧(E++numEv 0 false (stp o0 l i - la))++numEv 48 false ((itAt l i).2.1 - fi) = allE o0 o3 o7 rf symbols l i++preEv o0 o3 l i:=by
    by_cases h0:i = 0
    · rw [if_pos h0] at hE
      obtain ⟨rfl,rfl,rfl⟩:=hE
      subst h0
      exact ⟨Evs.nil _,Nat.zero_le _,by omega,by omega,by omega,by omega,by simp only [Int.sub_zero]; rfl⟩
    · rw [if_neg h0] at hE
      obtain ⟨rfl,rfl,rfl,hne⟩:=hE
      obtain ⟨b1,b2,_⟩:=stp_rg T hI (i:=i - 1) (by omega)
      obtain ⟨f1,f2⟩:=fstS_rg T hI (i - 1) (by omega)
      refine ⟨Evs.app e1 n1,by rw [List.length_append]; omega,by omega,by omega,by omega,by omega, ?_⟩
      obtain ⟨i',rfl⟩:∃ i',i = i' + 1:=⟨i - 1,by omega⟩
      have hne:=hne hjl
      simp only [Nat.add_sub_cancel] at hne ⊢
      rw [preEv,if_neg hne]
      simp only [List.append_assoc]
  obtain ⟨h1,h2,h3,h4,h5,h6,h7⟩:=hE'
  obtain ⟨c1,c2⟩:=numEv_ok (base:=0) (n:=x.st.length) (by omega) (by omega) false (v:=stp o0 l i - la) (by omega) (by omega)
  simp only [iter,S_text_Encode_0,Sg_text_Encode_0]
  rw [dec_t (by omega),dec_t (by omega),drop_getD,strip_ok q1 a5]
  try dsimp only
  rw [show (itAt l i).2.2.1 / o0 = stp o0 l i from rfl,w6 (x:=stp o0 l i - la),wput_at hfl hx hn h1 (by rw [List.length_nil]; omega) (by omega) (by omega) (by omega) (by omega)]
  dsimp only
  rw [dec_t (by omega),w6 (x:=(itAt l i).2.1 - fi),wput_at hfl hx hn (Evs.app h1 c1) (by rw [List.length_nil,List.length_append]; omega) (by omega) (by omega) (by omega) (by omega)]
  dsimp only
  rw [dec_t (by omega),h7]
  unfold L_text_Encode_2
  refine strip_loop hfl hx hn T hI hl hN hjl (fun j hij hjl' hk hend=> ?_) (l.length - i) i (itAt l i).2.1 0 _ fl (by omega) (by omega) (Nat.le_refl _) (fun k h1 h2=>by omega) (by rw [if_pos rfl]; exact ⟨rfl,rfl⟩) (by omega)
  obtain ⟨u1,u2⟩:=allE_ok T hI hN j (by omega)
  dsimp only
  rw [Put_at hfl hx hn u1 (by rw [List.length_nil]; omega) (by omega) (by omega) (fun _=>rfl) (by omega) (by omega)]
  dsimp only
  have hstart:i = 0∨stp o0 l i ≠ stp o0 l (i - 1):=by
    by_cases h0:i = 0
    · exact .inl h0
    · rw [if_neg h0] at hE
      exact .inr (hE.2.2.2 hjl)
  have hf:fstS o0 l (j - 1) = (itAt l i).2.1:=by
    have:=fst_const (l:=l) hstart (j - 1 - i) fun k h1 h2=>hk k h1 (by omega)
    rwa [show i + (j - 1 - i) = j - 1 by omega] at this
  have hst:stp o0 l (j - 1) = stp o0 l i:=hk (j - 1) (by omega) (by omega)
  refine ih (l.length - j) (by omega) j _ _ _ m (by omega) ?_ (by omega)
  rw [if_neg (by omega)]
  exact ⟨hst.symm,hf.symm,rfl,fun h=>by rw [hst]; exact hend h⟩
end
end Go.Proofs.YtipdidpalcmlhaaGreat.Tx
namespace Go.Proofs.YtipdidpalcmlhaaGreat.Rf
open Go Ev Bm Co Gen Dc
section
variable {fl:Nat} (hfl:9223372036854775808≤fl) {t dx dy kd w h:Int} {p:List Int} {rw rh:Int} {rp:List Int} {ty:Bool}
include hfl
end
section
variable {fl:Nat} (hfl:9223372036854775808≤fl) {t dx dy base w h kd:Int} {rw rh:Int} {rp:List Int} {kx:Int} {code:List Int} {n:Nat} (hc:Cd code n)
include hfl hc
end
end Go.Proofs.YtipdidpalcmlhaaGreat.Rf
namespace Go.Proofs.YtipdidpalcmlhaaGreat.Tx
open Go Ev Bm Co Gen Dc Rf
section
variable (o0 o3 o7:Int) (rf:Bool) (symbols:List Bmp)
end
section
variable {fl:Nat} (hfl:9223372036854775808≤fl) {kx:Int} {code:List Int} {N:Nat} (hc:Cd code N)
variable {o0 o1 o3 o4 o5 o7 n:Int} {rf tu:Bool} {symbols:List Bmp} {l:List Item}
end
end Go.Proofs.YtipdidpalcmlhaaGreat.Tx
namespace Go.Proofs.YtipdidpalcmlhaaGreat.Dc
open Go Ev Bm Co
section
variable {fl:Nat} (hfl:9223372036854775808≤fl) {kx:Int} {code:List Int} {n:Nat} (hc:Cd code n)
include hfl hc
end
end Go.Proofs.YtipdidpalcmlhaaGreat.Dc
set_option maxHeartbeats 2000000
namespace Go.Proofs.YtipdidpalcmlhaaGreat.Tx
open Go Ev Bm Co Gen Dc Rf
section
variable {fl:Nat} (hfl:9223372036854775808≤fl) {kx:Int} {code:List Int} {N:Nat} (hc:Cd code N)
variable {o0 o1 o3 o4 o5 o7 n:Int} {rf tu:Bool} {symbols:List Bmp} {l:List Item} (T:TE o0 o1 o3 o4 o5 o7 symbols) (hN:(N:Int) = tsz o7 rf symbols)
include hfl hc T hN
end
end Go.Proofs.YtipdidpalcmlhaaGreat.Tx
set_option maxHeartbeats 2000000
namespace Go.Proofs.YtipdidpalcmlhaaGreat.Tx
open Go Ev Bm Co Gen Dc Rf
section
variable {N:Nat} {o0 o1 o3 o4 o5 o7 n:Int} {rf tu:Bool} {symbols:List Bmp} (T:TE o0 o1 o3 o4 o5 o7 symbols) (hN:(N:Int) = tsz o7 rf symbols)
include T hN
end
section
variable {fl:Nat} (hfl:9223372036854775808≤fl) {kx:Int} {code:List Int} {N:Nat} (hc:Cd code N)
variable {o0 o1 o3 o4 o5 o7 n:Int} {rf tu:Bool} {symbols:List Bmp} (T:TE o0 o1 o3 o4 o5 o7 symbols) (hN:(N:Int) = tsz o7 rf symbols) (hn:n≤300)
omit hc in
end
end Go.Proofs.YtipdidpalcmlhaaGreat.Tx
set_option maxHeartbeats 2000000
namespace Go.Proofs.YtipdidpalcmlhaaGreat.Tx
open Go Ev Bm Co Gen Dc Rf
def x0T (o7:Int) (rf:Bool) (symbols:List Bmp):Iv:=⟨List.replicate (tsz o7 rf symbols).toNat 0,0,4294967295⟩
def codeT (o0 o3 o5 o7:Int) (rf:Bool) (symbols:List Bmp) (l:List Item):List Int:=
  (run o5 (x0T o7 rf symbols) [] (textEv o0 o3 o7 rf symbols l)).2++endB (run o5 (x0T o7 rf symbols) [] (textEv o0 o3 o7 rf symbols l)).1.lo (run o5 (x0T o7 rf symbols) [] (textEv o0 o3 o7 rf symbols l)).1.hi
def encT (o0 o1 o3 o4 o5 o7:Int) (rf:Bool) (symbols:List Bmp) (l:List Item):Int×List Int:=
  if bErr o0 o1 o3 o4 o5 o7 symbols l = 0 then (if rights rf (symbols.length:Int) l = true∧asc o0 l = true then (0,codeT o0 o3 o5 o7 rf symbols l) else (2,[])) else (bErr o0 o1 o3 o4 o5 o7 symbols l,[])
theorem te_of {o0 o1 o3 o4 o5 o7:Int} {symbols:List Bmp} {l:List Item} (h:bErr o0 o1 o3 o4 o5 o7 symbols l = 0) (hn:symbols.length≤60) (hz:∀ b ∈ symbols,∀ v ∈ b.2.2,0≤v):TE o0 o1 o3 o4 o5 o7 symbols∧l.all shpI = true:=by
  unfold bErr at h
  split at h
  · rename_i h1
    split at h
    · rename_i h2
      split at h
      · rename_i h3
        exact ⟨⟨h1,hn,List.all_eq_true.1 h2,hz⟩,h3⟩
      · exact absurd h (by decide)
    · exact absurd h (by decide)
  · exact absurd h (by decide)
theorem it_of {rf:Bool} {symbols:List Bmp} {l:List Item} (h:l.all shpI = true) (hr:rights rf (symbols.length:Int) l = true) (hz:∀ i ∈ l,∀ v ∈ i.2.2.2.2.2.2.2.2,0≤v):symbols.length≤60∧l.length≤300∧∀ i ∈ l,ItOk rf symbols i:=by
  unfold rights at hr
  simp only [Bool.and_eq_true,decide_eq_true_eq,List.all_eq_true] at hr
  exact ⟨by omega,by omega,fun i hi=>⟨hr.2 i hi,List.all_eq_true.1 h i hi,hz i hi⟩⟩
theorem x0_ok {o0 o1 o3 o4 o5 o7:Int} {rf:Bool} {symbols:List Bmp} (T:TE o0 o1 o3 o4 o5 o7 symbols):vM o5 (List.replicate (tsz o7 rf symbols).toNat 0) = true∧(x0T o7 rf symbols).Ok o5∧((x0T o7 rf symbols).st.length:Int) = tsz o7 rf symbols∧(x0T o7 rf symbols).st.length≤8192:=by
  obtain ⟨s0,s1,s2,s3,s4⟩:=lik_sz o7 rf symbols T.n
  obtain ⟨_,_,_,_,_,_,_,kk,tt⟩:=ov_iff.1 T.ov
  have hv:vM o5 (List.replicate (tsz o7 rf symbols).toNat 0) = true:=vM_zeros kk (by omega)
  have hl:(x0T o7 rf symbols).st.length = (tsz o7 rf symbols).toNat:=List.length_replicate
  exact ⟨hv,ok_new hv,by rw [hl]; omega,by rw [hl]; omega⟩
section
variable {fl:Nat} (hfl:9223372036854775808≤fl) {o0 o1 o3 o4 o5 o7:Int} {rf tu:Bool} {symbols:List Bmp} {l:List Item}
include hfl
theorem cnew {kd n:Int} (hk:kd = 0∨kd = 1) (h0:0≤n) (h1:n≤8192) {K:Int×Int×List Int→Option Ans}:F_coder_New fl kd n K = K (kd,0,List.replicate n.toNat 0):=by
  unfold F_coder_New
  rcases hk with rfl | rfl
  · rw [cond_f (b:=(0:Int) != 0) rfl,dec_f (by omega),dec_f (by omega),dec_t (by refine ⟨by omega, ?_,by omega,by omega⟩; first | rfl | trivial)]
  · rw [cond_t (b:=(1:Int) != 0) rfl,cond_f (b:=(1:Int) != 1) rfl,dec_f (by omega),dec_f (by omega),dec_t (by refine ⟨by omega, ?_,by omega,by omega⟩; first | rfl | trivial)]
theorem tenc (hs:symbols.length≤1000000000000000) (hl:l.length≤1000000000000000) (hz:∀ b ∈ symbols,∀ v ∈ b.2.2,0≤v) (hzi:∀ i ∈ l,∀ v ∈ i.2.2.2.2.2.2.2.2,0≤v) {K:Int×List Int→Option Ans}:
    F_text_Encode fl o0 o1 tu o3 o4 o5 rf o7 symbols l K = K (encT o0 o1 o3 o4 o5 o7 rf symbols l):=by
  unfold F_text_Encode Fg_text_Encode encT
  rw [begun_ok hfl hs hl]
  try dsimp only
  rw [cn]
  by_cases he:bErr o0 o1 o3 o4 o5 o7 symbols l = 0
  rotate_left
  · rw [if_neg he,if_neg he]
  rw [if_pos he,if_pos he]
  have hov:ov o0 o1 o3 o4 o5 o7 = true:=by
    unfold bErr at he
    split at he
    · assumption
    · exact absurd he (by decide)
  obtain ⟨q1,_,_,_,_,_,_,kk,tt⟩:=ov_iff.1 hov
  obtain ⟨b,hb,hb2⟩:=sorted_ok (fl:=fl) hfl (o0:=o0) (o1:=o1) (o3:=o3) (o4:=o4) (o5:=o5) (o7:=o7) (tu:=tu) (rf:=rf) q1 (l:=l) hl
  rw [hb2]
  try dsimp only
  rw [right_ok hfl]
  try dsimp only
  cases hr:rights rf (symbols.length:Int) l with
  | false=>rw [cond_t (b:=!false) rfl,if_neg (fun h=>by cases h.1)]
  | true=>
  rw [cond_f (b:=!true) rfl]
  have hn60:symbols.length≤60:=by
    unfold rights at hr
    simp only [Bool.and_eq_true,decide_eq_true_eq] at hr
    omega
  obtain ⟨T,hsi⟩:=te_of he hn60 hz
  obtain ⟨_,hl3,hI⟩:=it_of hsi hr hzi
  have hba:=hb (fun i hi=>by
    obtain ⟨_,_,_,⟨t0,t1⟩⟩:=(hI i hi).num
    exact ⟨by omega,by omega⟩)
  rw [← hba]
  cases b with
  | false=>rw [cond_t (b:=!false) rfl,if_neg (fun h=>by cases h.2)]
  | true=>
  rw [cond_f (b:=!true) rfl,if_pos ⟨rfl,rfl⟩,lay_ok hn60 tt]
  try dsimp only
  obtain ⟨s0,s1,s2,s3,s4⟩:=lik_sz o7 rf symbols hn60
  obtain ⟨hv,hx,hN,hn8⟩:=x0_ok (rf:=rf) T
  rw [cnew hfl kk (by omega) (by omega)]
  try dsimp only
  rw [new_enc hfl hv]
  try dsimp only
  unfold L_text_Encode_0
  have hE:=(allE_ok T hI hN l.length (Nat.le_refl _))
  have hlo:=hx.r
  refine all_loop hfl hx hn8 T hI hl3 hN ?_ l.length 0 [] 0 0 fl (by omega) (by rw [if_pos rfl]; exact ⟨rfl,rfl,rfl⟩) (by omega)
  try dsimp only
  have hT:Evs (x0T o7 rf symbols).st.length (textEv o0 o3 o7 rf symbols l)∧(textEv o0 o3 o7 rf symbols l).length≤1000000:=by
    unfold textEv
    split
    · exact ⟨Evs.nil _,by simp⟩
    · obtain ⟨n1,n2⟩:=numEv_ok (base:=96) (n:=(x0T o7 rf symbols).st.length) (by omega) (by omega) true (v:=0) (by omega) (by omega)
      exact ⟨Evs.app hE.1 n1,by rw [List.length_append]; omega⟩
  have hol:=run_len_le (textEv o0 o3 o7 rf symbols l) (kd:=o5) (x:=x0T o7 rf symbols) (out:=[])
  rw [end_ok hfl (run_ok (textEv o0 o3 o7 rf symbols l) (out:=[]) hx hT.1).1.r (by rw [List.length_nil] at hol; omega)]
  rfl
end
end Go.Proofs.YtipdidpalcmlhaaGreat.Tx
set_option maxHeartbeats 2000000
namespace Go.Proofs.YtipdidpalcmlhaaGreat.Tx
open Go Ev Bm Co Gen Dc Rf
theorem rstrip_ok {fl:Nat} {o0 o1 o3 o4 o5 o7:Int} {tu rf:Bool} (hb:o0 = 1∨o0 = 2∨o0 = 4∨o0 = 8) {t:Int} (ht:near t 1000000) {K:Int→Option Ans}:F_ref10_Strip fl o0 o1 tu o3 o4 o5 rf o7 t K = K (t / o0):=by
  obtain ⟨t0,t1⟩:=ht
  unfold F_ref10_Strip
  rw [dec_f (by omega)]
  rcases Int.le_total 0 t with ha | ha
  · rw [Int.tdiv_eq_ediv_of_nonneg ha]
    rcases hb with rfl | rfl | rfl | rfl
    all_goals rw [w6 (x:=t / _),w6 (x:=t / _ * _),dec_f (by omega)]
  · have e:t.tdiv o0 = -((-t) / o0):=by
      rw [← Int.tdiv_eq_ediv_of_nonneg (by omega),Int.neg_tdiv,Int.neg_neg]
    rw [e]
    rcases hb with rfl | rfl | rfl | rfl
    all_goals
      rw [w6 (x:= -(-t / _)),w6 (x:= -(-t / _) * _),w6 (x:= -(-t / _) - 1),cd]
      split <;> (congr 1; omega)
theorem rwidth_at (m:Nat) (K:Int→Option Ans):∀ n:Nat,n≤64→F_ref03_Width (m + 70) (n:Int) K = K ((wd n:Nat):Int)
  | 0,_ | 1,_ | 2,_ | 3,_ | 4,_ | 5,_ | 6,_ | 7,_ | 8,_ | 9,_ | 10,_ | 11,_ | 12,_ | 13,_ | 14,_ | 15,_ | 16,_ | 17,_ | 18,_ | 19,_ | 20,_ | 21,_ | 22,_ | 23,_ | 24,_ | 25,_ | 26,_ | 27,_ | 28,_ | 29,_ | 30,_ | 31,_ | 32,_ | 33,_ | 34,_ | 35,_ | 36,_ | 37,_ | 38,_ | 39,_ | 40,_ | 41,_ | 42,_ | 43,_ | 44,_ | 45,_ | 46,_ | 47,_ | 48,_ | 49,_ | 50,_ | 51,_ | 52,_ | 53,_ | 54,_ | 55,_ | 56,_ | 57,_ | 58,_ | 59,_ | 60,_ | 61,_ | 62,_ | 63,_ | 64,_=>by kernel_rfl
  | n + 65,h=>by omega
theorem rmodel_ok {fl:Nat} (hfl:9223372036854775808≤fl) {o0 o1 o3 o4 o5 o7:Int} {tu rf:Bool} {symbols:List Bmp} (h:symbols.length≤60) (h7:o7 = 0∨o7 = 1) {K:Int×Int×List Int→Option Ans}:
    F_ref10_Model fl o0 o1 tu o3 o4 o5 rf o7 (symbols.length:Int) K = K (o5,(tk symbols:Int),(x0T o7 rf symbols).st):=by
  obtain ⟨s0,s1,s2,s3,s4⟩:=lik_sz o7 rf symbols h
  obtain ⟨ka,kb,kc,kd⟩:=tk_ok h
  have hc:=csz_eq o7
  have e2:(2:Int) ^ tk symbols = ((2 ^ tk symbols:Nat):Int):=by rw [Int.natCast_pow]; rfl
  have es:ishl .i64 1 (tk symbols:Int) = ((2 ^ tk symbols:Nat):Int):=by rw [ishl_one (by omega) (by omega),Int.toNat_natCast,e2]
  have hS:∀ K:Int×Int→Option Ans,F_ref08_Size fl o7 K = K (csz o7 + 1,0):=fun K=>by
    rcases h7 with rfl | rfl <;> rfl
  have hW:∀ K:Int→Option Ans,F_ref03_Width fl (symbols.length:Int) K = K (tk symbols:Int):=fun K=>by
    obtain ⟨m,rfl⟩:∃ m,fl = m + 70:=⟨fl - 70,by omega⟩
    exact rwidth_at m K _ (by omega)
  unfold F_ref10_Model Fg_ref10_Model x0T
  rw [hW]
  try dsimp only
  rw [dec_f (by omega),es,w6 (x:=385 + ((2 ^ tk symbols:Nat):Int)),w6 (x:=385 + ((2 ^ tk symbols:Nat):Int) - 1)]
  have el:385 + ((2 ^ tk symbols:Nat):Int) - 1 = lik symbols:=by unfold lik; omega
  rw [el]
  cases rf with
  | true=>
    have et:lik symbols + (csz o7 + 1) = tsz o7 true symbols:=by unfold tsz; rw [if_pos rfl]
    rw [cond_true,hS]
    try dsimp only
    rw [w6 (x:=lik symbols + (csz o7 + 1)),dec_t (by refine ⟨by omega,rfl,by omega,by omega⟩),et]
  | false=>
    have et:lik symbols = tsz o7 false symbols:=by unfold tsz; rw [if_neg (by simp)]; omega
    rw [cond_false,dec_t (by refine ⟨by omega,rfl,by omega,by omega⟩), ← et]
section
variable {fl:Nat} (hfl:9223372036854775808≤fl) {kd:Int} {x:Iv} (hx:x.Ok kd) (hn:x.st.length≤8192) {out:List Int}
include hfl hx hn
theorem rPut_at {E:List (Int×Int)} (he:Evs x.st.length E) (hl:out.length + 5 * E.length≤800000000) {base:Int} (hb:0≤base) (hb2:base + 48≤(x.st.length:Int)) {o:Bool} {n:Int} (hon:o = true→n = 0) (h0: -1048576≤n) (h1:n≤1048576) {K:Int×Int×Int×Int×List Int×List Int→Option Ans}:
    F_ref03_Put_9ac fl base o n kd (run kd x out E).1.lo (run kd x out E).1.hi (run kd x out E).1.st (run kd x out E).2 K
    = K (0,kd,(run kd x out (E++numEv base o n)).1.lo,(run kd x out (E++numEv base o n)).1.hi,(run kd x out (E++numEv base o n)).1.st,(run kd x out (E++numEv base o n)).2):=by
  obtain ⟨ok,okl⟩:=run_ok E (out:=out) hx he
  have hol:=run_len_le E (kd:=kd) (x:=x) (out:=out)
  rw [run_append,rPut_ok hfl ok (by omega) hb (by omega) hon h0 h1 (by omega)]
theorem rput10_at {E:List (Int×Int)} (he:Evs x.st.length E) (hl:out.length + 5 * E.length≤800000000) {base:Int} (hb:0≤base) (hb2:base + 48≤(x.st.length:Int)) {n:Int} (h0: -1048576≤n) (h1:n≤1048576) {K:Int×Int×Int×List Int×List Int→Option Ans}:
    F_ref10_put_e89 fl base n kd (run kd x out E).1.lo (run kd x out E).1.hi (run kd x out E).1.st (run kd x out E).2 K
    = K (kd,(run kd x out (E++numEv base false n)).1.lo,(run kd x out (E++numEv base false n)).1.hi,(run kd x out (E++numEv base false n)).1.st,(run kd x out (E++numEv base false n)).2):=by
  unfold F_ref10_put_e89 Fg_ref10_put_e89
  rw [rPut_at hfl hx hn he hl hb hb2 (fun h=>absurd h (by simp)) h0 h1]
theorem rPutId_at {E:List (Int×Int)} (he:Evs x.st.length E) (hl:out.length + 5 * E.length≤800000000) {base:Int} (hb:0≤base) {k id:Nat} (hk:k≤10) (hid:id < 2 ^ k) (hb2:base + 2 ^ k - 1≤(x.st.length:Int)) {K:Int×Int×Int×Int×List Int×List Int→Option Ans}:
    F_ref03_PutId_9d8 fl base (k:Int) (id:Int) kd (run kd x out E).1.lo (run kd x out E).1.hi (run kd x out E).1.st (run kd x out E).2 K
    = K (0,kd,(run kd x out (E++idEv base k id k)).1.lo,(run kd x out (E++idEv base k id k)).1.hi,(run kd x out (E++idEv base k id k)).1.st,(run kd x out (E++idEv base k id k)).2):=by
  obtain ⟨ok,okl⟩:=run_ok E (out:=out) hx he
  have hol:=run_len_le E (kd:=kd) (x:=x) (out:=out)
  rw [run_append,rPutId_ok hfl ok (by omega) hb hk hid (by rw [okl]; exact hb2) (by omega)]
theorem reput_at {E:List (Int×Int)} (he:Evs x.st.length E) (hl:out.length + 5 * E.length≤800000000) {c b:Int} (h0:0≤c) (h1:c < (x.st.length:Int)) (hb:b = 0∨b = 1) {k0 k1:Int×Int×Int×Int×List Int×List Int→Option Ans}:
    F_ref02_Encoder_Put_e89 fl c b kd (run kd x out E).1.lo (run kd x out E).1.hi (run kd x out E).1.st (run kd x out E).2 k0 k1
    = k1 (0,kd,(run kd x out (E++ [(c,b)])).1.lo,(run kd x out (E++ [(c,b)])).1.hi,(run kd x out (E++ [(c,b)])).1.st,(run kd x out (E++ [(c,b)])).2):=by
  obtain ⟨ok,okl⟩:=run_ok E (out:=out) hx he
  have hol:=run_len_le E (kd:=kd) (x:=x) (out:=out)
  rw [run_append,Co.rput_ok hfl ok h0 (by omega) hb (by omega)]
  rfl
theorem rrput_at {t dx dy base w h kr:Int} {p:List Int} {rw rh:Int} {rp:List Int} (hr:RR t dx dy kr w h p rw rh rp) {E:List (Int×Int)} (he:Evs x.st.length E) (hl:out.length + 5 * E.length≤800000000) (h0:0≤base) (h1:base + csz t + 1≤(x.st.length:Int)) {K}:
    F_ref08_Put_6c1 fl base t dx dy false kr w h p rw rh rp kd (run kd x out E).1.lo (run kd x out E).1.hi (run kd x out E).1.st (run kd x out E).2 K
    = K (0,kd,(run kd x out (E++rwE t dx dy base w h p rw rh rp h.toNat)).1.lo,(run kd x out (E++rwE t dx dy base w h p rw rh rp h.toNat)).1.hi,(run kd x out (E++rwE t dx dy base w h p rw rh rp h.toNat)).1.st,(run kd x out (E++rwE t dx dy base w h p rw rh rp h.toNat)).2):=by
  obtain ⟨ok,okl⟩:=run_ok E (out:=out) hx he
  have hol:=run_len_le E (kd:=kd) (x:=x) (out:=out)
  rw [run_append,rrput_ok hfl hr ok (by omega) h0 (by omega) (by omega)]
end
noncomputable def tailR (fl:Nat) (symbols:List Bmp) (k o0 o1:Int) (tu:Bool) (o3 o4 o5:Int) (rf:Bool) (o7:Int) (it:Item) (kd lo hi:Int) (st out:List Int) (C:Int→Int→Int→List Int→List Int→Option Ans):Option Ans:=
  F_ref03_PutId_9d8 fl 385 k it.1 kd lo hi st out (fun (_,a1,a2,a3,a4,a5)=>
    bif !rf then C a1 a2 a3 a4 a5
    else bif !it.2.2.2.1 then F_ref02_Encoder_Put_e89 fl 384 0 a1 a2 a3 a4 a5 (fun (_,b1,b2,b3,b4,b5)=>C b1 b2 b3 b4 b5) (fun (_,b1,b2,b3,b4,b5)=>C b1 b2 b3 b4 b5)
    else
      let G:Int×Int×Int×Int×List Int×List Int→Option Ans:=fun (_,b1,b2,b3,b4,b5)=>
        bif decide (0≤it.1∧it.1 < (symbols.length:Int)) then
          F_ref10_put_e89 fl 192 (IntKind.i64.wrap (it.2.2.2.2.2.2.1 - (symbols.getD it.1.toNat (0,0,[])).1)) b1 b2 b3 b4 b5 (fun (c1,c2,c3,c4,c5)=>
            F_ref10_put_e89 fl 240 (IntKind.i64.wrap (it.2.2.2.2.2.2.2.1 - (symbols.getD it.1.toNat (0,0,[])).2.1)) c1 c2 c3 c4 c5 (fun (d1,d2,d3,d4,d5)=>
              F_ref10_put_e89 fl 288 it.2.2.2.2.1 d1 d2 d3 d4 d5 (fun (e1,e2,e3,e4,e5)=>
                F_ref10_put_e89 fl 336 it.2.2.2.2.2.1 e1 e2 e3 e4 e5 (fun (f1,f2,f3,f4,f5)=>
                  bif decide (k < 0) then none else
                    F_ref10_refine fl o0 o1 tu o3 o4 o5 rf o7 it.2.2.2.2.1 it.2.2.2.2.2.1 (fun (g0,g1,g2,g3,g4)=>
                      F_ref08_Put_6c1 fl (IntKind.i64.wrap (IntKind.i64.wrap (385 + Ev.ishl IntKind.i64 1 k) - 1)) g0 g1 g2 g3 g4 it.2.2.2.2.2.2.1 it.2.2.2.2.2.2.2.1 it.2.2.2.2.2.2.2.2 (symbols.getD it.1.toNat (0,0,[])).1 (symbols.getD it.1.toNat (0,0,[])).2.1 (symbols.getD it.1.toNat (0,0,[])).2.2 f1 f2 f3 f4 f5 (fun (_,h1,h2,h3,h4,h5)=>C h1 h2 h3 h4 h5))))))
        else none
      F_ref02_Encoder_Put_e89 fl 384 1 a1 a2 a3 a4 a5 G G)
section
variable {fl:Nat} (hfl:9223372036854775808≤fl) {kd:Int} {x:Iv} (hx:x.Ok kd) (hn:x.st.length≤8192) {out:List Int}
include hfl hx hn
theorem tailR_at {o0 o1 o3 o4 o5 o7:Int} {tu rf:Bool} {symbols:List Bmp} (T:TE o0 o1 o3 o4 o5 o7 symbols) {i:Item} (h:ItOk rf symbols i) (hN:(x.st.length:Int) = tsz o7 rf symbols) {E E1:List (Int×Int)} (he1:Evs x.st.length E1) (hl1:out.length + 5 * E1.length≤750000000) (hE:E++itemEv o0 o7 rf symbols i = E1++(idEv 385 (tk symbols) i.1.toNat (tk symbols)++(if rf = true then (if i.2.2.2.1 = true then refEv o7 (lik symbols) i (bmAt symbols i.1) else [(384,0)]) else []))) {C}:
    tailR fl symbols (tk symbols:Int) o0 o1 tu o3 o4 o5 rf o7 i kd (run kd x out E1).1.lo (run kd x out E1).1.hi (run kd x out E1).1.st (run kd x out E1).2 C
    = C kd (run kd x out (E++itemEv o0 o7 rf symbols i)).1.lo (run kd x out (E++itemEv o0 o7 rf symbols i)).1.hi (run kd x out (E++itemEv o0 o7 rf symbols i)).1.st (run kd x out (E++itemEv o0 o7 rf symbols i)).2:=by
  obtain ⟨s0,s1,s2,s3,s4⟩:=lik_sz o7 rf symbols T.n
  obtain ⟨n0,n1,n2,n3,n4⟩:=h.num
  obtain ⟨ka,kb,kc,kd'⟩:=tk_ok T.n
  have e2:(2:Int) ^ tk symbols = ((2 ^ tk symbols:Nat):Int):=by rw [Int.natCast_pow]; rfl
  have es:ishl .i64 1 (tk symbols:Int) = ((2 ^ tk symbols:Nat):Int):=by rw [ishl_one (by omega) (by omega),Int.toNat_natCast,e2]
  have eid:i.1 = ((i.1.toNat:Nat):Int):=by omega
  have hid:Evs x.st.length (idEv 385 (tk symbols) i.1.toNat (tk symbols)):=idEv_evs (by omega) (by rw [e2]; unfold lik at *; omega) (by omega) _ (Nat.le_refl _)
  have hidl:=idEv_len 385 (tk symbols) i.1.toNat (tk symbols)
  have tail:∀ K:_→Option Ans,(F_ref03_PutId_9d8 fl 385 (tk symbols:Int) i.1 kd (run kd x out E1).1.lo (run kd x out E1).1.hi (run kd x out E1).1.st (run kd x out E1).2 K)
      = K (0,kd,(run kd x out (E1++idEv 385 (tk symbols) i.1.toNat (tk symbols))).1.lo,(run kd x out (E1++idEv 385 (tk symbols) i.1.toNat (tk symbols))).1.hi,(run kd x out (E1++idEv 385 (tk symbols) i.1.toNat (tk symbols))).1.st,(run kd x out (E1++idEv 385 (tk symbols) i.1.toNat (tk symbols))).2):=by
    intro K
    conv=>lhs; rw [eid]
    exact rPutId_at hfl hx hn he1 (by omega) (by omega) (by omega) (by omega) (by rw [e2]; unfold lik at *; omega)
  unfold tailR
  rw [tail,hE]
  try dsimp only
  have he2:Evs x.st.length (E1++idEv 385 (tk symbols) i.1.toNat (tk symbols)):=Evs.app he1 hid
  have hl2:(E1++idEv 385 (tk symbols) i.1.toNat (tk symbols)).length≤E1.length + 10:=by rw [List.length_append,hidl]; omega
  simp only [← List.append_assoc]
  generalize E1++idEv 385 (tk symbols) i.1.toNat (tk symbols) = E2 at he2 hl2 ⊢
  cases rf with
  | false=>
    rw [cond_t (b:=!false) rfl,if_neg (by simp),List.append_nil]
  | true=>
    rw [cond_f (b:=!true) rfl,if_pos rfl]
    cases hr:i.2.2.2.1 with
    | false=>
      rw [cond_t (b:=!false) rfl,reput_at hfl hx hn he2 (by omega) (by omega) (by omega) (.inl rfl),if_neg (by simp)]
    | true=>
      obtain ⟨_,⟨d1,d2⟩,⟨d3,d4⟩,p,w0,w1,h0,h1'⟩:=h.rfd hr
      obtain ⟨pb,b0,b1,b2,b3⟩:=T.bm n0 n1
      have R:=T.rr h hr
      have hs4:=s4 rfl
      rw [cond_f (b:=!true) rfl,reput_at hfl hx hn he2 (by omega) (by omega) (by omega) (.inr rfl),if_pos rfl]
      try dsimp only
      rw [dec_t ⟨n0,n1⟩]
      have eb:symbols.getD i.1.toNat (0,0,[]) = bmAt symbols i.1:=rfl
      rw [eb]
      unfold refEv
      have he3:Evs x.st.length (E2++ [(384,1)]):=Evs.app he2 (Evs.one (by omega) (by omega) (.inr rfl))
      have hl3:(E2++ [((384:Int),(1:Int))]).length = E2.length + 1:=by simp
      simp only [← List.append_assoc]
      generalize E2++ [((384:Int),(1:Int))] = E3 at he3 hl3 ⊢
      have ebs:IntKind.i64.wrap (IntKind.i64.wrap (385 + Ev.ishl IntKind.i64 1 (tk symbols:Int)) - 1) = lik symbols:=by
        rw [es,w6 (x:=385 + _),wrap64 (by omega) (by omega)]
        unfold lik
        omega
      rw [ebs]
      generalize bmAt symbols i.1 = B at *
      rw [w6 (x:=i.2.2.2.2.2.2.1 - B.1),rput10_at hfl hx hn he3 (by omega) (by omega) (by omega) (by omega) (by omega)]
      try dsimp only
      obtain ⟨e4,l4⟩:=numEv_ok (base:=192) (n:=x.st.length) (by omega) (by omega) false (v:=i.2.2.2.2.2.2.1 - B.1) (by omega) (by omega)
      have he4:=Evs.app he3 e4
      have hl4:(E3++numEv 192 false (i.2.2.2.2.2.2.1 - B.1)).length≤E3.length + 50:=by rw [List.length_append]; omega
      generalize E3++numEv 192 false (i.2.2.2.2.2.2.1 - B.1) = E4 at he4 hl4 ⊢
      rw [w6 (x:=i.2.2.2.2.2.2.2.1 - B.2.1),rput10_at hfl hx hn he4 (by omega) (by omega) (by omega) (by omega) (by omega)]
      try dsimp only
      obtain ⟨e5,l5⟩:=numEv_ok (base:=240) (n:=x.st.length) (by omega) (by omega) false (v:=i.2.2.2.2.2.2.2.1 - B.2.1) (by omega) (by omega)
      have he5:=Evs.app he4 e5
      have hl5:(E4++numEv 240 false (i.2.2.2.2.2.2.2.1 - B.2.1)).length≤E4.length + 50:=by rw [List.length_append]; omega
      generalize E4++numEv 240 false (i.2.2.2.2.2.2.2.1 - B.2.1) = E5 at he5 hl5 ⊢
      rw [rput10_at hfl hx hn he5 (by omega) (by omega) (by omega) (by omega) (by omega)]
      try dsimp only
      obtain ⟨e6,l6⟩:=numEv_ok (base:=288) (n:=x.st.length) (by omega) (by omega) false (v:=i.2.2.2.2.1) (by omega) (by omega)
      have he6:=Evs.app he5 e6
      have hl6:(E5++numEv 288 false i.2.2.2.2.1).length≤E5.length + 50:=by rw [List.length_append]; omega
      generalize E5++numEv 288 false i.2.2.2.2.1 = E6 at he6 hl6 ⊢
      rw [rput10_at hfl hx hn he6 (by omega) (by omega) (by omega) (by omega) (by omega)]
      try dsimp only
      obtain ⟨e7,l7⟩:=numEv_ok (base:=336) (n:=x.st.length) (by omega) (by omega) false (v:=i.2.2.2.2.2.1) (by omega) (by omega)
      have he7:=Evs.app he6 e7
      have hl7:(E6++numEv 336 false i.2.2.2.2.2.1).length≤E6.length + 50:=by rw [List.length_append]; omega
      generalize E6++numEv 336 false i.2.2.2.2.2.1 = E7 at he7 hl7 ⊢
      rw [dec_f (by omega)]
      unfold F_ref10_refine
      try dsimp only
      rw [rrput_at hfl hx hn R he7 (by omega) (by omega) (by omega)]
end
section
variable {fl:Nat} (hfl:9223372036854775808≤fl) {kd:Int} {x:Iv} (hx:x.Ok kd) (hn:x.st.length≤8192)
variable {o0 o1 o3 o4 o5 o7:Int} {rf tu:Bool} {symbols:List Bmp} {l:List Item} (T:TE o0 o1 o3 o4 o5 o7 symbols) (hI:∀ i ∈ l,ItOk rf symbols i) (hl:l.length≤300) (hN:(x.st.length:Int) = tsz o7 rf symbols)
include hfl hx hn T hI hl hN
theorem ritems {b}:
    L_ref10_Encode_2 fl (symbols,l,(tk symbols:Int),0,0,0,l,(l.length:Int),0,o0,o1,tu,o3,o4,o5,rf,o7,kd,x.lo,x.hi,x.st,[]) b
    = b (l,kd,(run kd x [] (allE o0 o3 o7 rf symbols l l.length)).1.lo,(run kd x [] (allE o0 o3 o7 rf symbols l l.length)).1.hi,(run kd x [] (allE o0 o3 o7 rf symbols l l.length)).1.st,(run kd x [] (allE o0 o3 o7 rf symbols l l.length)).2):=by
  obtain ⟨q1,_,_,g1,g2,_⟩:=ov_iff.1 T.ov
  obtain ⟨s0,s1,s2,s3,s4⟩:=lik_sz o7 rf symbols T.n
  unfold L_ref10_Encode_2
  refine iter_seq (step:=S_ref10_Encode_2 fl) (fun i:Nat=>(symbols,l,(tk symbols:Int),(if i = 0 then 0 else stp o0 l (i - 1)),(if i = 0 then 0 else fstS o0 l (i - 1)),(if i = 0 then 0 else (itAt l (i - 1)).2.1),l,(l.length:Int),(i:Int),o0,o1,tu,o3,o4,o5,rf,o7,kd,(run kd x [] (allE o0 o3 o7 rf symbols l i)).1.lo,(run kd x [] (allE o0 o3 o7 rf symbols l i)).1.hi,(run kd x [] (allE o0 o3 o7 rf symbols l i)).1.st,(run kd x [] (allE o0 o3 o7 rf symbols l i)).2)) l.length rfl (fun i hi c=> ?_) (fun c=> ?_) (by omega)
  rotate_left
  · simp only [S_ref10_Encode_2,Sg_ref10_Encode_2]
    rw [dec_f (by omega)]
  obtain ⟨a1,a2,a3,a4,a5⟩:=stp_rg T hI hi
  obtain ⟨e1,e2⟩:=allE_ok T hI hN i (by omega) (o3:=o3)
  obtain ⟨p1,p2⟩:=preEv_ok (l:=l) (o3:=o3) T hI (N:=x.st.length) (by omega) i hi
  have hT5:=a5
  obtain ⟨u0,u1⟩:=hT5
  have hit:=hI _ (itAt_mem hi)
  have em:(itAt l i).2.2.1 - stp o0 l i * o0 = (itAt l i).2.2.1 % o0:=by
    unfold stp
    have:=Int.emod_add_mul_ediv (itAt l i).2.2.1 o0
    rw [Int.mul_comm] at this
    omega
  have eb8:0≤(itAt l i).2.2.1 % o0∧(itAt l i).2.2.1 % o0 < 8:=by rcases q1 with rfl | rfl | rfl | rfl <;> omega
  have fin:∀ E:List (Int×Int),E = allE o0 o3 o7 rf symbols l i++preEv o0 o3 l i→∀ C:Int→Int→Int→List Int→List Int→Option Ans,∀ S1:Int,S1 = stp o0 l i→
      (bif decide (o0 > 1) then F_ref10_put_e89 fl 144 (IntKind.i64.wrap ((itAt l i).2.2.1 - IntKind.i64.wrap (S1 * o0))) kd (run kd x [] E).1.lo (run kd x [] E).1.hi (run kd x [] E).1.st (run kd x [] E).2 (fun z=>tailR fl symbols (tk symbols:Int) o0 o1 tu o3 o4 o5 rf o7 (itAt l i) z.1 z.2.1 z.2.2.1 z.2.2.2.1 z.2.2.2.2 C)
        else tailR fl symbols (tk symbols:Int) o0 o1 tu o3 o4 o5 rf o7 (itAt l i) kd (run kd x [] E).1.lo (run kd x [] E).1.hi (run kd x [] E).1.st (run kd x [] E).2 C)
      = C kd (run kd x [] (allE o0 o3 o7 rf symbols l (i + 1))).1.lo (run kd x [] (allE o0 o3 o7 rf symbols l (i + 1))).1.hi (run kd x [] (allE o0 o3 o7 rf symbols l (i + 1))).1.st (run kd x [] (allE o0 o3 o7 rf symbols l (i + 1))).2:=by
    intro E hE C S1 hS1
    subst hS1
    have heE:Evs x.st.length E:=by rw [hE]; exact Evs.app e1 p1
    have hlE:E.length≤2150 * i + 150:=by rw [hE,List.length_append]; omega
    have hA:allE o0 o3 o7 rf symbols l (i + 1) = E++itemEv o0 o7 rf symbols (itAt l i):=by rw [allE,hE]
    rw [hA]
    by_cases h1:o0 > 1
    · rw [dec_t h1,w6 (x:=stp o0 l i * o0),w6 (x:=(itAt l i).2.2.1 - stp o0 l i * o0),rput10_at hfl hx hn heE (by rw [List.length_nil]; omega) (by omega) (by omega) (by omega) (by omega)]
      try dsimp only
      obtain ⟨n1,n2⟩:=numEv_ok (base:=144) (n:=x.st.length) (by omega) (by omega) false (v:=(itAt l i).2.2.1 - stp o0 l i * o0) (by omega) (by omega)
      refine tailR_at hfl hx hn T hit hN (Evs.app heE n1) (by rw [List.length_nil,List.length_append]; omega) ?_
      unfold itemEv
      rw [if_pos h1]
      show _ = _
      simp only [List.append_assoc]
      rfl
    · rw [dec_f h1]
      refine tailR_at hfl hx hn T hit hN heE (by rw [List.length_nil]; omega) ?_
      unfold itemEv
      rw [if_neg h1]
      simp only [List.append_assoc,List.nil_append]
  have eg:l.getD i (0,0,0,false,0,0,0,0,[]) = itAt l i:=rfl
  simp only [S_ref10_Encode_2,Sg_ref10_Encode_2]
  rw [dec_t (by omega),dec_t (by omega),Int.toNat_natCast,eg,rstrip_ok q1 a5]
  try dsimp only
  rw [show (itAt l i).2.2.1 / o0 = stp o0 l i from rfl,w6 (x:=(i:Int) + 1)]
  have new:∀ (E:List (Int×Int)) (la fi:Int),Evs x.st.length E→E.length≤2150 * i + 50→ -200000≤la→la≤200000→ -200000≤fi→fi≤200000→(E++numEv 0 false (stp o0 l i - la))++numEv 48 false ((itAt l i).2.1 - fi) = allE o0 o3 o7 rf symbols l i++preEv o0 o3 l i→∀ C:Int→Int→Int→List Int→List Int→Option Ans,
      F_ref10_put_e89 fl 0 (IntKind.i64.wrap (stp o0 l i - la)) kd (run kd x [] E).1.lo (run kd x [] E).1.hi (run kd x [] E).1.st (run kd x [] E).2 (fun z=>F_ref10_put_e89 fl 48 (IntKind.i64.wrap ((itAt l i).2.1 - fi)) z.1 z.2.1 z.2.2.1 z.2.2.2.1 z.2.2.2.2 (fun y=>
        bif decide (o0 > 1) then F_ref10_put_e89 fl 144 (IntKind.i64.wrap ((itAt l i).2.2.1 - IntKind.i64.wrap (stp o0 l i * o0))) y.1 y.2.1 y.2.2.1 y.2.2.2.1 y.2.2.2.2 (fun z=>tailR fl symbols (tk symbols:Int) o0 o1 tu o3 o4 o5 rf o7 (itAt l i) z.1 z.2.1 z.2.2.1 z.2.2.2.1 z.2.2.2.2 C)
        else tailR fl symbols (tk symbols:Int) o0 o1 tu o3 o4 o5 rf o7 (itAt l i) y.1 y.2.1 y.2.2.1 y.2.2.2.1 y.2.2.2.2 C))
      = C kd (run kd x [] (allE o0 o3 o7 rf symbols l (i + 1))).1.lo (run kd x [] (allE o0 o3 o7 rf symbols l (i + 1))).1.hi (run kd x [] (allE o0 o3 o7 rf symbols l (i + 1))).1.st (run kd x [] (allE o0 o3 o7 rf symbols l (i + 1))).2:=by
    intro E la fi h1 h2 h3 h4 h5 h6 h7 C
    obtain ⟨c1,c2⟩:=numEv_ok (base:=0) (n:=x.st.length) (by omega) (by omega) false (v:=stp o0 l i - la) (by omega) (by omega)
    rw [w6 (x:=stp o0 l i - la),rput10_at hfl hx hn h1 (by rw [List.length_nil]; omega) (by omega) (by omega) (by omega) (by omega)]
    try dsimp only
    rw [w6 (x:=(itAt l i).2.1 - fi),rput10_at hfl hx hn (Evs.app h1 c1) (by rw [List.length_nil,List.length_append]; omega) (by omega) (by omega) (by omega) (by omega)]
    try dsimp only
    exact fin _ h7 C _ rfl
  rcases Nat.eq_zero_or_pos i with h0 | h0
  · subst h0
    rw [cond_t (by rfl),dec_f (by decide)]
    refine (new [] 0 0 (Evs.nil _) (Nat.zero_le _) (by omega) (by omega) (by omega) (by omega) (by simp only [Int.sub_zero]; rfl) (fun a1 a2 a3 a4 a5=>c (symbols,l,(tk symbols:Int),stp o0 l 0,(itAt l 0).2.1,(itAt l 0).2.1,l,(l.length:Int),((0:Nat):Int) + 1,o0,o1,tu,o3,o4,o5,rf,o7,a1,a2,a3,a4,a5))).trans ?_
    rfl
  · obtain ⟨j,rfl⟩:∃ j,i = j + 1:=⟨i - 1,by omega⟩
    obtain ⟨b1,b2,b3,b4,_⟩:=stp_rg T hI (i:=j) (by omega)
    obtain ⟨f1,f2⟩:=fstS_rg T hI j (by omega)
    rw [cond_f (by simp; omega),if_neg (by omega),if_neg (by omega),if_neg (by omega)]
    simp only [Nat.add_sub_cancel]
    rw [cn]
    by_cases hs:stp o0 l (j + 1) = stp o0 l j
    · rw [if_pos hs,w6 (x:=(itAt l (j + 1)).2.1 - (itAt l j).2.1),w6 (x:=(itAt l (j + 1)).2.1 - (itAt l j).2.1 - o3),rput10_at hfl hx hn e1 (by rw [List.length_nil]; omega) (by omega) (by omega) (by omega) (by omega)]
      try dsimp only
      refine (fin _ (by rw [preEv,if_pos hs]) (fun a1 a2 a3 a4 a5=>c (symbols,l,(tk symbols:Int),stp o0 l j,fstS o0 l j,(itAt l (j + 1)).2.1,l,(l.length:Int),((j + 1:Nat):Int) + 1,o0,o1,tu,o3,o4,o5,rf,o7,a1,a2,a3,a4,a5)) _ rfl).trans ?_
      rw [if_neg (by omega),if_neg (by omega),if_neg (by omega)]
      try simp only [Nat.add_sub_cancel]
      rw [hs,show fstS o0 l (j + 1) = fstS o0 l j by rw [fstS,if_pos hs]]
      rfl
    · obtain ⟨n1,n2⟩:=numEv_ok (base:=96) (n:=x.st.length) (by omega) (by omega) true (v:=0) (by omega) (by omega)
      rw [if_neg hs,dec_t (by omega),rPut_at hfl hx hn e1 (by rw [List.length_nil]; omega) (by omega) (by omega) (fun _=>rfl) (by omega) (by omega)]
      try dsimp only
      refine (new (allE o0 o3 o7 rf symbols l (j + 1)++numEv 96 true 0) (stp o0 l j) (fstS o0 l j) (Evs.app e1 n1) (by rw [List.length_append]; omega) (by omega) (by omega) (by omega) (by omega) (by rw [preEv,if_neg hs]; simp only [List.append_assoc]) (fun a1 a2 a3 a4 a5=>c (symbols,l,(tk symbols:Int),stp o0 l (j + 1),(itAt l (j + 1)).2.1,(itAt l (j + 1)).2.1,l,(l.length:Int),((j + 1:Nat):Int) + 1,o0,o1,tu,o3,o4,o5,rf,o7,a1,a2,a3,a4,a5))).trans ?_
      rw [if_neg (by omega),if_neg (by omega),if_neg (by omega)]
      try simp only [Nat.add_sub_cancel]
      rw [show fstS o0 l (j + 1) = (itAt l (j + 1)).2.1 by rw [fstS,if_neg hs]]
      rfl
end
section
variable {fl:Nat} (hfl:9223372036854775808≤fl) {o0 o1 o3 o4 o5 o7:Int} {rf tu:Bool} {symbols:List Bmp} {l:List Item}
include hfl
theorem rsorted (q1:o0 = 1∨o0 = 2∨o0 = 4∨o0 = 8) (hl:l.length≤300) (ht:∀ i ∈ l,near i.2.2.1 1000000) {ret b}:
    L_ref10_Encode_0 fl (symbols,l,1,o0,o1,tu,o3,o4,o5,rf,o7) ret b = if asc o0 l = true then b (symbols,l,o0,o1,tu,o3,o4,o5,rf,o7) else ret (2,[]):=by
  unfold L_ref10_Encode_0
  have step:∀ i:Nat,i < l.length - 1→∀ c r b',S_ref10_Encode_0 fl (symbols,l,((i + 1:Nat):Int),o0,o1,tu,o3,o4,o5,rf,o7) c (r,b') = if (itAt l i).2.2.1 / o0≤(itAt l (i + 1)).2.2.1 / o0 then c (symbols,l,((i + 2:Nat):Int),o0,o1,tu,o3,o4,o5,rf,o7) else r (2,[]):=by
    intro i hi c r b'
    have eg:∀ j:Nat,l.getD j (0,0,0,false,0,0,0,0,[]) = itAt l j:=fun _=>rfl
    simp only [S_ref10_Encode_0,Sg_ref10_Encode_0]
    rw [dec_t (by omega),dec_t (by omega),w6 (x:=((i + 1:Nat):Int) - 1),show ((i + 1:Nat):Int) - 1 = (i:Int) by omega,dec_t (by omega),Int.toNat_natCast,Int.toNat_natCast,eg,eg,rstrip_ok q1 (ht _ (itAt_mem (by omega)))]
    try dsimp only
    rw [rstrip_ok q1 (ht _ (itAt_mem (by omega)))]
    try dsimp only
    rw [wrap64 (by omega) (by omega),cd]
    by_cases h:(itAt l i).2.2.1 / o0≤(itAt l (i + 1)).2.2.1 / o0
    · rw [if_neg (by omega),if_pos h]
      rfl
    · rw [if_pos (by omega),if_neg h]
  rcases nat_or_first (fun i=>(itAt l i).2.2.1 / o0≤(itAt l (i + 1)).2.2.1 / o0) (l.length - 1) with ha | ⟨n,hn,hb,hi⟩
  · rw [if_pos (by
      unfold asc
      rw [List.all_eq_true]
      exact fun i hi=>decide_eq_true (ha i (List.mem_range.1 hi)))]
    refine iter_seq (step:=S_ref10_Encode_0 fl) (fun i:Nat=>(symbols,l,((i + 1:Nat):Int),o0,o1,tu,o3,o4,o5,rf,o7)) (l.length - 1) rfl (fun i hi c=> ?_) (fun c=> ?_) (by omega)
    · rw [step i hi,if_pos (ha i hi)]
    · simp only [S_ref10_Encode_0,Sg_ref10_Encode_0]
      rw [dec_f (by omega)]
  · rw [if_neg (by
      unfold asc
      rw [List.all_eq_true]
      exact fun h=>hb (of_decide_eq_true (h n (List.mem_range.2 hn))))]
    refine iter_seq (step:=S_ref10_Encode_0 fl) (fun i:Nat=>(symbols,l,((i + 1:Nat):Int),o0,o1,tu,o3,o4,o5,rf,o7)) n rfl (fun i hin c=> ?_) (fun c=> ?_) (by omega)
    · rw [step i (by omega),if_pos (hi i hin)]
    · rw [step n hn,if_neg hb]
theorem rtenc (hs:symbols.length≤1000000000000000) (hl:l.length≤1000000000000000) (hz:∀ b ∈ symbols,∀ v ∈ b.2.2,0≤v) (hzi:∀ i ∈ l,∀ v ∈ i.2.2.2.2.2.2.2.2,0≤v) {K:Int×List Int→Option Ans}:
    F_ref10_Encode fl o0 o1 tu o3 o4 o5 rf o7 symbols l K = K (encT o0 o1 o3 o4 o5 o7 rf symbols l):=by
  unfold F_ref10_Encode Fg_ref10_Encode encT
  rw [asked_ok hfl hs hl,rErr_eq]
  try dsimp only
  rw [cn]
  by_cases he:bErr o0 o1 o3 o4 o5 o7 symbols l = 0
  rotate_left
  · rw [if_neg he,if_neg he,if_neg he]
  rw [if_pos he,if_pos he]
  have hov:ov o0 o1 o3 o4 o5 o7 = true:=by
    unfold bErr at he
    split at he
    · assumption
    · exact absurd he (by decide)
  obtain ⟨q1,_,_,_,_,_,_,kk,tt⟩:=ov_iff.1 hov
  have er:(decide ((symbols.length:Int)≤60)&&decide ((l.length:Int)≤300)&&l.all (itm rf (symbols.length:Int))) = rights rf (symbols.length:Int) l:=rfl
  rw [er]
  cases hr:rights rf (symbols.length:Int) l with
  | false=>rw [if_neg (by simp),if_neg (by decide),if_neg (fun h=>by cases h.1)]
  | true=>
  rw [if_pos rfl,if_pos rfl]
  have hn60:symbols.length≤60:=by
    unfold rights at hr
    simp only [Bool.and_eq_true,decide_eq_true_eq] at hr
    omega
  obtain ⟨T,hsi⟩:=te_of he hn60 hz
  obtain ⟨_,hl3,hI⟩:=it_of hsi hr hzi
  rw [rsorted hfl q1 hl3 (fun i hi=>by
    obtain ⟨_,_,_,⟨t0,t1⟩⟩:=(hI i hi).num
    exact ⟨by omega,by omega⟩)]
  by_cases ha:asc o0 l = true
  rotate_left
  · rw [if_neg ha,if_neg (fun h=>ha h.2)]
  rw [if_pos ha,if_pos ⟨rfl,ha⟩,rmodel_ok hfl hn60 tt]
  try dsimp only
  obtain ⟨s0,s1,s2,s3,s4⟩:=lik_sz o7 rf symbols hn60
  obtain ⟨hv,hx,hN,hn8⟩:=x0_ok (rf:=rf) T
  rw [show (x0T o7 rf symbols).st = List.replicate (tsz o7 rf symbols).toNat 0 from rfl,rnew_enc hfl hv]
  try dsimp only
  have hE:=(allE_ok T hI hN l.length (Nat.le_refl _) (o3:=o3))
  refine (ritems hfl hx hn8 T hI hl3 hN (tu:=tu)).trans ?_
  try dsimp only
  have hT:Evs (x0T o7 rf symbols).st.length (textEv o0 o3 o7 rf symbols l)∧(textEv o0 o3 o7 rf symbols l).length≤1000000:=by
    unfold textEv
    split
    · exact ⟨Evs.nil _,by simp⟩
    · obtain ⟨n1,n2⟩:=numEv_ok (base:=96) (n:=(x0T o7 rf symbols).st.length) (by omega) (by omega) true (v:=0) (by omega) (by omega)
      exact ⟨Evs.app hE.1 n1,by rw [List.length_append]; omega⟩
  have hol:=run_len_le (textEv o0 o3 o7 rf symbols l) (kd:=o5) (x:=x0T o7 rf symbols) (out:=[])
  have hend:=fun K=>rend_ok (fl:=fl) hfl (kd:=o5) (run_ok (textEv o0 o3 o7 rf symbols l) (out:=[]) hx hT.1).1.r (out:=(run o5 (x0T o7 rf symbols) [] (textEv o0 o3 o7 rf symbols l)).2) (by rw [List.length_nil] at hol; omega) (K:=K)
  unfold codeT
  by_cases h0:l.length = 0
  · have ht:textEv o0 o3 o7 rf symbols l = allE o0 o3 o7 rf symbols l l.length:=by
      unfold textEv
      rw [if_pos h0,h0]
      rfl
    rw [← ht,dec_f (by omega),hend]
  · have ht:textEv o0 o3 o7 rf symbols l = allE o0 o3 o7 rf symbols l l.length++numEv 96 true 0:=by
      unfold textEv
      rw [if_neg h0]
    rw [dec_t (by omega),rPut_at hfl hx hn8 hE.1 (by rw [List.length_nil]; omega) (by omega) (by omega) (fun _=>rfl) (by omega) (by omega), ← ht]
    try dsimp only
    rw [hend]
end
open Go Ev Bm
section
variable {fl:Nat} (hfl:9223372036854775808≤fl)
include hfl
theorem awake {K:Bool→Option Ans}:F_law10_Awake fl K = K true:=rfl
end
end Go.Proofs.YtipdidpalcmlhaaGreat.Tx
namespace Go.Proofs.YtipdidpalcmlhaaGreat.PureTextEncodes
open Go Ev Bm Co Gen Dc Tx
theorem sameBy {fl:Nat} (hfl:9223372036854775808≤fl) {b:List Int} (hl:b.length≤1000000000000000) {K:Bool→Option Ans}:F_ref02_SameBytes fl b b K = K true:=by
  unfold F_ref02_SameBytes
  rw [cond_f (by simp)]
  unfold L_ref02_SameBytes_0
  refine iter_to (step:=S_ref02_SameBytes_0 fl) (fun i:Nat=>(b,b,(b.length:Int),(i:Int))) b.length (fun i hi c=> ?_) (fun c=> ?_) (by omega)
  · simp only [S_ref02_SameBytes_0]
    rw [dec_t (by omega),dec_t (by omega),dec_t (by omega),cond_f (by simp),wrap64 (by omega) (by omega)]
    rfl
  · simp only [S_ref02_SameBytes_0]
    rw [dec_f (by omega)]
theorem code_len {o0 o1 o3 o4 o5 o7:Int} {rf:Bool} {symbols:List Tx.Bmp} {l:List Tx.Item} (hz:∀ b ∈ symbols,∀ v ∈ b.2.2,0≤v) (hzi:∀ i ∈ l,∀ v ∈ i.2.2.2.2.2.2.2.2,0≤v):(encT o0 o1 o3 o4 o5 o7 rf symbols l).2.length≤1000000000000000:=by
  unfold encT
  by_cases he:bErr o0 o1 o3 o4 o5 o7 symbols l = 0
  rotate_left
  · rw [if_neg he]
    simp
  rw [if_pos he]
  by_cases hr:rights rf (symbols.length:Int) l = true∧asc o0 l = true
  rotate_left
  · rw [if_neg hr]
    simp
  rw [if_pos hr]
  have hn60:symbols.length≤60:=by
    have:=hr.1
    unfold rights at this
    simp only [Bool.and_eq_true,decide_eq_true_eq] at this
    omega
  obtain ⟨T,hsi⟩:=te_of he hn60 hz
  obtain ⟨_,hl3,hI⟩:=it_of hsi hr.1 hzi
  obtain ⟨hv,hx,hN,hn8⟩:=x0_ok (rf:=rf) T
  obtain ⟨s0,s1,s2,s3,s4⟩:=lik_sz o7 rf symbols T.n
  have hE:=allE_ok T hI hN l.length (Nat.le_refl _) (o3:=o3)
  have hT:(textEv o0 o3 o7 rf symbols l).length≤1000000:=by
    unfold textEv
    split
    · simp
    · obtain ⟨n1,n2⟩:=numEv_ok (base:=96) (n:=(x0T o7 rf symbols).st.length) (by omega) (by omega) true (v:=0) (by omega) (by omega)
      rw [List.length_append]; omega
  have hol:=run_len_le (textEv o0 o3 o7 rf symbols l) (kd:=o5) (x:=x0T o7 rf symbols) (out:=[])
  have he:=endB_len (run o5 (x0T o7 rf symbols) [] (textEv o0 o3 o7 rf symbols l)).1.lo (run o5 (x0T o7 rf symbols) [] (textEv o0 o3 o7 rf symbols l)).1.hi
  show (codeT o0 o3 o5 o7 rf symbols l).length≤_
  unfold codeT
  rw [List.length_append]
  rw [List.length_nil] at hol
  omega
theorem pure_fl {fl:Nat} (hfl:9223372036854775808≤fl) (o0 o1:Int) (tu:Bool) (o3 o4 o5:Int) (rf:Bool) (o7:Int) (symbols:List Tx.Bmp) (l:List Tx.Item) (K:Bool→Option Ans) (hz:∀ b ∈ symbols,∀ v ∈ b.2.2,0≤v) (hzi:∀ i ∈ l,∀ v ∈ i.2.2.2.2.2.2.2.2,0≤v):
    F_law10_TextEncodes fl o0 o1 tu o3 o4 o5 rf o7 symbols l K = K true:=by
  unfold F_law10_TextEncodes Fg_law10_TextEncodes F_law10_long
  by_cases h1:(symbols.length:Int) > 120
  · rw [dec_t h1]
    try dsimp only
    rw [cond_true,awake hfl]
  rw [dec_f h1]
  try dsimp only
  by_cases h2:(l.length:Int) > 600
  · rw [decide_eq_true h2,cond_true,awake hfl]
  rw [decide_eq_false h2,cond_false,tenc hfl (by omega) (by omega) hz hzi]
  try dsimp only
  rw [rtenc hfl (by omega) (by omega) hz hzi]
  try dsimp only
  rw [cond_t (by simp),sameBy hfl (code_len hz hzi)]
  try dsimp only
  rw [cond_true,awake hfl]
theorem wf8 {u:Int} (h:(Lit.int .u8 u).wf = true):0≤u:=by
  simp [Lit.wf,IntKind.min,IntKind.max,IntKind.signed,IntKind.bits] at h
  omega
theorem pure (o0 o1:Int) (tu:Bool) (o3 o4 o5:Int) (rf:Bool) (o7:Int) (symbols:List Tx.Bmp) (l:List Tx.Item) (K:Bool→Option Ans)
    (g0:given (.pair (.int .i64) (.pair (.int .i64) (.pair .bool (.pair (.int .i64) (.pair (.int .i64) (.pair (.int .i64) (.pair .bool (.int .i64)))))))) (o0,o1,tu,o3,o4,o5,rf,o7))
    (g1:given (.sl (.pair (.int .i64) (.pair (.int .i64) (.sl (.int .u8))))) symbols)
    (g2:given (.sl (.pair (.int .i64) (.pair (.int .i64) (.pair (.int .i64) (.pair .bool (.pair (.int .i64) (.pair (.int .i64) (.pair (.int .i64) (.pair (.int .i64) (.sl (.int .u8))))))))))) l):
    F_law10_TextEncodes fuel o0 o1 tu o3 o4 o5 rf o7 symbols l K = K true:=by
  obtain ⟨_,h1⟩:=g1
  obtain ⟨_,h2⟩:=g2
  refine pure_fl (by rw [fuel_eq]; omega) o0 o1 tu o3 o4 o5 rf o7 symbols l K (fun b hb u hu=> ?_) (fun i hi u hu=> ?_)
  · obtain ⟨_,_,_,h3⟩:=h1 b hb
    exact wf8 (h3 u hu)
  · obtain ⟨_,_,_,_,_,_,_,_,_,h3⟩:=h2 i hi
    exact wf8 (h3 u hu)
end Go.Proofs.YtipdidpalcmlhaaGreat.PureTextEncodes
