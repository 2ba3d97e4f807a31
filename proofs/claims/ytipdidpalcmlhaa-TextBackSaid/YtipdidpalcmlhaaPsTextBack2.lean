/- Laws of the typed texts that TextBack reaches, in plain Lean. No condition but what each theorem names. -/
import Derived.Test.YtipdidpalcmlhaaFsTextBack7
import Derived.Test.YtipdidpalcmlhaaPsTextBack1
import Derived.Test.YtipdidpalcmlhaaFsTextBack4
import Derived.Test.YtipdidpalcmlhaaFsTextBack2
import Derived.Test.YtipdidpalcmlhaaFsTextBack1
import Derived.Test.YtipdidpalcmlhaaFsTextBack3
import Derived.Test.YtipdidpalcmlhaaFsTextBack6
import Derived.Test.YtipdidpalcmlhaaFsTextBack5
import Derived.Test.YtipdidpalcmlhaaEvS
set_option linter.unusedVariables false
set_option linter.unusedSimpArgs false
set_option linter.unusedSectionVars false
namespace Go.Proofs.Ytipdidpalcmlhaa.Tx
open Go Ev Bm Co Gen Dc Rf
def itAt (l:List Item) (i:Nat):Item:=l.getD i (0,0,0,false,0,0,0,0,[])
def stp (o0:Int) (l:List Item) (i:Nat):Int:=(itAt l i).2.2.1 / o0
def fstS (o0:Int) (l:List Item):Nat→Int
  | 0=>(itAt l 0).2.1
  | i + 1=>if stp o0 l (i + 1) = stp o0 l i then fstS o0 l i else (itAt l (i + 1)).2.1
def preEv (o0 o3:Int) (l:List Item):Nat→List (Int×Int)
  | 0=>numEv 0 false (stp o0 l 0)++numEv 48 false (itAt l 0).2.1
  | i + 1=>if stp o0 l (i + 1) = stp o0 l i then numEv 96 false ((itAt l (i + 1)).2.1 - (itAt l i).2.1 - o3)
    else numEv 96 true 0++(numEv 0 false (stp o0 l (i + 1) - stp o0 l i)++numEv 48 false ((itAt l (i + 1)).2.1 - fstS o0 l i))
section
variable (o0 o3 o7:Int) (rf:Bool) (symbols:List Bmp) (l:List Item)
def allE:Nat→List (Int×Int)
  | 0=>[]
  | i + 1=>(allE i++preEv o0 o3 l i)++itemEv o0 o7 rf symbols (itAt l i)
def textEv:List (Int×Int):=if l.length = 0 then [] else allE o0 o3 o7 rf symbols l l.length++numEv 96 true 0
end
theorem fst_const {o0:Int} {l:List Item} {i:Nat} (hi:i = 0∨stp o0 l i ≠ stp o0 l (i - 1)):∀ d:Nat,(∀ k,i≤k→k≤i + d→stp o0 l k = stp o0 l i)→fstS o0 l (i + d) = (itAt l i).2.1
  | 0,_=>by
    rcases hi with rfl | hi
    · rfl
    · cases i with
      | zero=>rfl
      | succ i=>
        simp only [Nat.add_sub_cancel] at hi
        rw [Nat.add_zero,fstS,if_neg hi]
  | d + 1,h=>by
    rw [show i + (d + 1) = (i + d) + 1 by omega,fstS,if_pos (by rw [h (i + d + 1) (by omega) (by omega),h (i + d) (by omega) (by omega)])]
    exact fst_const hi d fun k h1 h2=>h k h1 (by omega)
theorem drop_getD {l:List Item} {j:Nat}:(l.drop j).getD (Int.toNat 0) (0,0,0,false,0,0,0,0,[]) = itAt l j:=by
  unfold itAt
  rw [List.getD_eq_getElem?_getD,List.getD_eq_getElem?_getD,List.getElem?_drop]
  rfl
theorem drop_next {l:List Item} {j:Nat}:List.take (hiOf none ((l.drop j).length:Int) - loOf (some 1)).toNat (List.drop (loOf (some 1)).toNat (l.drop j)) = l.drop (j + 1):=by
  have e:(hiOf none ((l.drop j).length:Int) - loOf (some 1)).toNat = (l.drop j).length - 1:=by
    show (((l.drop j).length:Int) - 1).toNat = _
    omega
  have e1:(loOf (some 1)).toNat = 1:=rfl
  rw [e,e1,List.drop_drop,List.take_of_length_le (by simp only [List.length_drop]; omega)]
theorem itAt_mem {l:List Item} {i:Nat} (h:i < l.length):itAt l i ∈ l:=getD_mem h _
section
variable {o0 o1 o3 o4 o5 o7:Int} {rf tu:Bool} {symbols:List Bmp} {l:List Item} (T:TE o0 o1 o3 o4 o5 o7 symbols) (hI:∀ i ∈ l,ItOk rf symbols i) (hl:l.length≤300)
include T hI
theorem stp_rg {i:Nat} (h:i < l.length): -100000≤stp o0 l i∧stp o0 l i≤100000∧ -100000≤(itAt l i).2.1∧(itAt l i).2.1≤100000∧near (itAt l i).2.2.1 1000000:=by
  obtain ⟨_,_,⟨s0,s1⟩,⟨t0,t1⟩⟩:=(hI _ (itAt_mem h)).num
  obtain ⟨q1,_⟩:=ov_iff.1 T.ov
  unfold stp
  generalize (itAt l i).2.2.1 = t at *
  exact ⟨by rcases q1 with rfl | rfl | rfl | rfl <;> omega,by rcases q1 with rfl | rfl | rfl | rfl <;> omega,s0,s1,⟨by omega,by omega⟩⟩
theorem fstS_rg:∀ i:Nat,i < l.length→ -100000≤fstS o0 l i∧fstS o0 l i≤100000
  | 0,h=>⟨(stp_rg T hI h).2.2.1,(stp_rg T hI h).2.2.2.1⟩
  | i + 1,h=>by
    unfold fstS
    split
    · exact fstS_rg i (by omega)
    · exact ⟨(stp_rg T hI h).2.2.1,(stp_rg T hI h).2.2.2.1⟩
theorem preEv_ok {N:Nat} (hN:385≤N):∀ i,i < l.length→Evs N (preEv o0 o3 l i)∧(preEv o0 o3 l i).length≤150
  | 0,h=>by
    obtain ⟨a1,a2,a3,a4,_⟩:=stp_rg T hI h
    obtain ⟨b1,b2⟩:=numEv_ok (base:=0) (n:=N) (by omega) (by omega) false (v:=stp o0 l 0) (by omega) (by omega)
    obtain ⟨c1,c2⟩:=numEv_ok (base:=48) (n:=N) (by omega) (by omega) false (v:=(itAt l 0).2.1) (by omega) (by omega)
    exact ⟨Evs.app b1 c1,by rw [preEv,List.length_append]; omega⟩
  | i + 1,h=>by
    obtain ⟨a1,a2,a3,a4,_⟩:=stp_rg T hI h
    obtain ⟨d1,d2,d3,d4,_⟩:=stp_rg T hI (i:=i) (by omega)
    obtain ⟨f1,f2⟩:=fstS_rg T hI i (by omega)
    obtain ⟨_,_,_,g1,g2,_⟩:=ov_iff.1 T.ov
    by_cases hc:stp o0 l (i + 1) = stp o0 l i
    · rw [preEv,if_pos hc]
      obtain ⟨b1,b2⟩:=numEv_ok (base:=96) (n:=N) (by omega) (by omega) false (v:=(itAt l (i + 1)).2.1 - (itAt l i).2.1 - o3) (by omega) (by omega)
      exact ⟨b1,by omega⟩
    · rw [preEv,if_neg hc]
      obtain ⟨b1,b2⟩:=numEv_ok (base:=0) (n:=N) (by omega) (by omega) false (v:=stp o0 l (i + 1) - stp o0 l i) (by omega) (by omega)
      obtain ⟨c1,c2⟩:=numEv_ok (base:=48) (n:=N) (by omega) (by omega) false (v:=(itAt l (i + 1)).2.1 - fstS o0 l i) (by omega) (by omega)
      obtain ⟨e1,e2⟩:=numEv_ok (base:=96) (n:=N) (by omega) (by omega) true (v:=0) (by omega) (by omega)
      exact ⟨Evs.app e1 (Evs.app b1 c1),by rw [List.length_append,List.length_append]; omega⟩
theorem allE_ok {N:Nat} (hN:(N:Int) = tsz o7 rf symbols):∀ i,i≤l.length→Evs N (allE o0 o3 o7 rf symbols l i)∧(allE o0 o3 o7 rf symbols l i).length≤2150 * i
  | 0,_=>⟨Evs.nil N,Nat.zero_le _⟩
  | i + 1,h=>by
    obtain ⟨s0,s1,s2,s3,s4⟩:=lik_sz o7 rf symbols T.n
    obtain ⟨a,b⟩:=allE_ok hN i (by omega)
    obtain ⟨c,d⟩:=preEv_ok (l:=l) T hI (N:=N) (by omega) i (by omega)
    obtain ⟨e,f⟩:=itemEv_ok T (hI _ (itAt_mem (i:=i) (by omega))) hN
    exact ⟨Evs.app (Evs.app a c) e,by rw [allE,List.length_append,List.length_append]; omega⟩
end
section
variable {fl:Nat} (hfl:9223372036854775808≤fl) {kd:Int} {x:Iv} (hx:x.Ok kd) (hn:x.st.length≤8192)
variable {o0 o1 o3 o4 o5 o7:Int} {rf tu:Bool} {symbols:List Bmp} {l:List Item} (T:TE o0 o1 o3 o4 o5 o7 symbols) (hI:∀ i ∈ l,ItOk rf symbols i) (hl:l.length≤300) (hN:(x.st.length:Int) = tsz o7 rf symbols)
include hfl hx hn T hI hl hN
theorem strip_loop {i:Nat} (hi:i < l.length) {r:Option Ans} {b}
    (hb:∀ j,i < j→j≤l.length→(∀ k,i≤k→k < j→stp o0 l k = stp o0 l i)→(j < l.length→stp o0 l j ≠ stp o0 l i)→b (l.drop j,stp o0 l i,(itAt l i).2.1,o0,o1,tu,o3,o4,o5,rf,o7,kd,(run kd x [] (allE o0 o3 o7 rf symbols l j)).1.lo,(run kd x [] (allE o0 o3 o7 rf symbols l j)).1.hi,true,o0,o1,tu,o3,o4,o5,rf,o7,(tk symbols:Int),lik symbols,tsz o7 rf symbols,symbols,(run kd x [] (allE o0 o3 o7 rf symbols l j)).1.st,(run kd x [] (allE o0 o3 o7 rf symbols l j)).2) = r):
    ∀ (d j:Nat) (s a:Int) (E:List (Int×Int)) (m:Nat),a = ((j - i:Nat):Int)→j + d = l.length→i≤j→(∀ k,i≤k→k < j→stp o0 l k = stp o0 l i)→(if j = i then s = (itAt l i).2.1∧E = allE o0 o3 o7 rf symbols l i++preEv o0 o3 l i else s = (itAt l (j - 1)).2.1∧E = allE o0 o3 o7 rf symbols l j)→d < m→
      iter (S_text_Encode_2 fl) m (l.drop j,stp o0 l i,(itAt l i).2.1,stp o0 l i,s,a,o0,o1,tu,o3,o4,o5,rf,o7,kd,(run kd x [] E).1.lo,(run kd x [] E).1.hi,true,o0,o1,tu,o3,o4,o5,rf,o7,(tk symbols:Int),lik symbols,tsz o7 rf symbols,symbols,(run kd x [] E).1.st,(run kd x [] E).2) b = r
  | 0,j,s,a,E,m,ha,hj,hij,hk,hE,hm=>by
    obtain ⟨m,rfl⟩:∃ k,m = k + 1:=⟨m - 1,by omega⟩
    have hjl:j = l.length:=by omega
    rw [if_neg (by omega)] at hE
    simp only [iter,S_text_Encode_2,Sg_text_Encode_2]
    rw [dec_f (by simp only [List.length_drop]; omega),hE.2]
    exact hb j (by omega) (by omega) hk (fun h=>by omega)
  | d + 1,j,s,a,E,m,ha,hj,hij,hk,hE,hm=>by
    obtain ⟨m,rfl⟩:∃ k,m = k + 1:=⟨m - 1,by omega⟩
    obtain ⟨q1,_,_,g1,g2,_⟩:=ov_iff.1 T.ov
    obtain ⟨s0,s1,s2,s3,s4⟩:=lik_sz o7 rf symbols T.n
    have hjl:j < l.length:=by omega
    obtain ⟨a1,a2,a3,a4,a5⟩:=stp_rg T hI hjl
    have hdl:((l.drop j).length:Int) = (l.length:Int) - (j:Int):=by rw [List.length_drop]; omega
    have hnext:stp o0 l j = stp o0 l i→∀ E',E' = allE o0 o3 o7 rf symbols l j++preEv o0 o3 l j→∀ K:_→Option Ans,(F_text_writer_item_1a8 fl (itAt l j).1 (itAt l j).2.1 (itAt l j).2.2.1 (itAt l j).2.2.2.1 (itAt l j).2.2.2.2.1 (itAt l j).2.2.2.2.2.1 (itAt l j).2.2.2.2.2.2.1 (itAt l j).2.2.2.2.2.2.2.1 (itAt l j).2.2.2.2.2.2.2.2 o0 o1 tu o3 o4 o5 rf o7 (tk symbols:Int) (lik symbols) (tsz o7 rf symbols) symbols kd (run kd x [] E').1.lo (run kd x [] E').1.hi true (run kd x [] E').1.st (run kd x [] E').2 K)
        = K (o0,o1,tu,o3,o4,o5,rf,o7,(tk symbols:Int),lik symbols,tsz o7 rf symbols,symbols,kd,(run kd x [] (allE o0 o3 o7 rf symbols l (j + 1))).1.lo,(run kd x [] (allE o0 o3 o7 rf symbols l (j + 1))).1.hi,true,(run kd x [] (allE o0 o3 o7 rf symbols l (j + 1))).1.st,(run kd x [] (allE o0 o3 o7 rf symbols l (j + 1))).2):=by
      intro _ E' hE' K
      subst hE'
      obtain ⟨e1,e2⟩:=allE_ok T hI hN j (by omega)
      obtain ⟨c,d⟩:=preEv_ok (l:=l) T hI (N:=x.st.length) (by omega) j hjl
      exact witem_at hfl hx hn T (hI _ (itAt_mem hjl)) hN (Evs.app e1 c) (by rw [List.length_append,List.length_nil]; omega)
    have hrec:=strip_loop hi hb d (j + 1) (itAt l j).2.1 (a + 1) (allE o0 o3 o7 rf symbols l (j + 1)) m (by omega) (by omega) (by omega)
    simp only [iter,S_text_Encode_2,Sg_text_Encode_2]
    rw [dec_t (by omega),dec_t (by omega),drop_getD,strip_ok q1 a5]
    try dsimp only
    rw [show (itAt l j).2.2.1 / o0 = stp o0 l j from rfl,cb]
    by_cases hs:stp o0 l j = stp o0 l i
    rotate_left
    · rw [if_neg hs]
      have hne:j ≠ i:=fun h=>hs (by rw [h])
      rw [if_neg hne] at hE
      rw [hE.2]
      exact hb j (by omega) (by omega) hk (fun _=>hs)
    rw [if_pos hs]
    have hk':∀ k,i≤k→k < j + 1→stp o0 l k = stp o0 l i:=fun k h1 h2=>by
      rcases Nat.lt_or_ge k j with h | h
      · exact hk k h1 h
      · have:k = j:=by omega
        rw [this]; exact hs
    have hrec:=hrec hk' (by rw [if_neg (by omega)]; exact ⟨rfl,rfl⟩) (by omega)
    have hlo:(0:Int)≤loOf (some 1)∧loOf (some 1)≤hiOf none ((l.drop j).length:Int)∧hiOf none ((l.drop j).length:Int)≤((l.drop j).length:Int):=by
      show (0:Int)≤1∧(1:Int)≤((l.drop j).length:Int)∧_≤_
      exact ⟨by omega,by omega,Int.le_refl _⟩
    by_cases hji:j = i
    · subst hji
      rw [if_pos rfl] at hE
      rw [dec_f (by omega),dec_t (by omega),dec_t (by omega),hnext hs E hE.2]
      dsimp only
      rw [dec_t hlo,drop_next,w6 (x:=a + 1)]
      exact hrec
    · rw [if_neg hji] at hE
      obtain ⟨hs1,hE1⟩:=hE
      obtain ⟨e1,e2⟩:=allE_ok T hI hN j (by omega)
      obtain ⟨b1,b2,b3,b4,_⟩:=stp_rg T hI (i:=j - 1) (by omega)
      rw [dec_t (by omega),dec_t (by omega),hs1,hE1,w6 (x:=(itAt l j).2.1 - (itAt l (j - 1)).2.1),wrap64 (by omega) (by omega),wput_at hfl hx hn e1 (by rw [List.length_nil]; omega) (by omega) (by omega) (by omega) (by omega)]
      dsimp only
      rw [dec_t (by omega),dec_t (by omega),hnext hs _ (by
        obtain ⟨j',rfl⟩:∃ j',j = j' + 1:=⟨j - 1,by omega⟩
        rw [preEv,if_pos (by rw [hs,hk j' (by omega) (by omega)])]
        rfl)]
      dsimp only
      rw [dec_t hlo,drop_next,w6 (x:=a + 1)]
      exact hrec
theorem all_loop {r:Option Ans} {b}
    (hb:b (kd,(run kd x [] (textEv o0 o3 o7 rf symbols l)).1.lo,(run kd x [] (textEv o0 o3 o7 rf symbols l)).1.hi,true,(run kd x [] (textEv o0 o3 o7 rf symbols l)).1.st,(run kd x [] (textEv o0 o3 o7 rf symbols l)).2) = r):
    ∀ (d i:Nat) (E:List (Int×Int)) (la fi:Int) (m:Nat),i + d = l.length→(if i = 0 then la = 0∧fi = 0∧E = [] else la = stp o0 l (i - 1)∧fi = fstS o0 l (i - 1)∧E = allE o0 o3 o7 rf symbols l i++numEv 96 true 0∧(i < l.length→stp o0 l i ≠ stp o0 l (i - 1)))→d < m→
      iter (S_text_Encode_0 fl) m (l.drop i,la,fi,o0,o1,tu,o3,o4,o5,rf,o7,kd,(run kd x [] E).1.lo,(run kd x [] E).1.hi,true,o0,o1,tu,o3,o4,o5,rf,o7,(tk symbols:Int),lik symbols,tsz o7 rf symbols,symbols,(run kd x [] E).1.st,(run kd x [] E).2) b = r:=by
  intro d
  induction d using Nat.strongRecOn with
  | ind d ih=>
  intro i E la fi m hi hE hm
  obtain ⟨m,rfl⟩:∃ k,m = k + 1:=⟨m - 1,by omega⟩
  obtain ⟨q1,_,_,g1,g2,_⟩:=ov_iff.1 T.ov
  obtain ⟨s0,s1,s2,s3,s4⟩:=lik_sz o7 rf symbols T.n
  by_cases hil:i = l.length
  · simp only [iter,S_text_Encode_0,Sg_text_Encode_0]
    rw [dec_f (by simp only [List.length_drop]; omega)]
    have hE2:E = textEv o0 o3 o7 rf symbols l:=by
      unfold textEv
      by_cases h0:i = 0
      · rw [if_pos h0] at hE
        rw [hE.2.2,if_pos (by omega)]
      · rw [if_neg h0] at hE
        rw [hE.2.2.1,if_neg (by omega),hil]
    rw [hE2]
    exact hb
  have hjl:i < l.length:=by omega
  obtain ⟨a1,a2,a3,a4,a5⟩:=stp_rg T hI hjl
  obtain ⟨e1,e2⟩:=allE_ok T hI hN i (by omega)
  have hdl:((l.drop i).length:Int) = (l.length:Int) - (i:Int):=by rw [List.length_drop]; omega
  obtain ⟨n1,n2⟩:=numEv_ok (base:=96) (n:=x.st.length) (by omega) (by omega) true (v:=0) (by omega) (by omega)
  have hE':Evs x.st.length E∧E.length≤2150 * i + 50∧ -200000≤la∧la≤200000∧ -200000≤fi∧fi≤200000∧(E++numEv 0 false (stp o0 l i - la))++numEv 48 false ((itAt l i).2.1 - fi) = allE o0 o3 o7 rf symbols l i++preEv o0 o3 l i:=by
    by_cases h0:i = 0
    · rw [if_pos h0] at hE
      obtain ⟨rfl,rfl,rfl⟩:=hE
      subst h0
      exact ⟨Evs.nil _,Nat.zero_le _,by omega,by omega,by omega,by omega,by simp only [Int.sub_zero]; rfl⟩
    · rw [if_neg h0] at hE
      obtain ⟨rfl,rfl,rfl,hne⟩:=hE
      obtain ⟨b1,b2,_⟩:=stp_rg T hI (i:=i - 1) (by omega)
      obtain ⟨f1,f2⟩:=fstS_rg T hI (i - 1) (by omega)
      refine ⟨Evs.app e1 n1,by rw [List.length_append]; omega,by omega,by omega,by omega,by omega, ?_⟩
      obtain ⟨i',rfl⟩:∃ i',i = i' + 1:=⟨i - 1,by omega⟩
      have hne:=hne hjl
      simp only [Nat.add_sub_cancel] at hne ⊢
      rw [preEv,if_neg hne]
      simp only [List.append_assoc]
  obtain ⟨h1,h2,h3,h4,h5,h6,h7⟩:=hE'
  obtain ⟨c1,c2⟩:=numEv_ok (base:=0) (n:=x.st.length) (by omega) (by omega) false (v:=stp o0 l i - la) (by omega) (by omega)
  simp only [iter,S_text_Encode_0,Sg_text_Encode_0]
  rw [dec_t (by omega),dec_t (by omega),drop_getD,strip_ok q1 a5]
  try dsimp only
  rw [show (itAt l i).2.2.1 / o0 = stp o0 l i from rfl,w6 (x:=stp o0 l i - la),wput_at hfl hx hn h1 (by rw [List.length_nil]; omega) (by omega) (by omega) (by omega) (by omega)]
  dsimp only
  rw [dec_t (by omega),w6 (x:=(itAt l i).2.1 - fi),wput_at hfl hx hn (Evs.app h1 c1) (by rw [List.length_nil,List.length_append]; omega) (by omega) (by omega) (by omega) (by omega)]
  dsimp only
  rw [dec_t (by omega),h7]
  unfold L_text_Encode_2
  refine strip_loop hfl hx hn T hI hl hN hjl (fun j hij hjl' hk hend=> ?_) (l.length - i) i (itAt l i).2.1 0 _ fl (by omega) (by omega) (Nat.le_refl _) (fun k h1 h2=>by omega) (by rw [if_pos rfl]; exact ⟨rfl,rfl⟩) (by omega)
  obtain ⟨u1,u2⟩:=allE_ok T hI hN j (by omega)
  dsimp only
  rw [Put_at hfl hx hn u1 (by rw [List.length_nil]; omega) (by omega) (by omega) (fun _=>rfl) (by omega) (by omega)]
  dsimp only
  have hstart:i = 0∨stp o0 l i ≠ stp o0 l (i - 1):=by
    by_cases h0:i = 0
    · exact .inl h0
    · rw [if_neg h0] at hE
      exact .inr (hE.2.2.2 hjl)
  have hf:fstS o0 l (j - 1) = (itAt l i).2.1:=by
    have:=fst_const (l:=l) hstart (j - 1 - i) fun k h1 h2=>hk k h1 (by omega)
    rwa [show i + (j - 1 - i) = j - 1 by omega] at this
  have hst:stp o0 l (j - 1) = stp o0 l i:=hk (j - 1) (by omega) (by omega)
  refine ih (l.length - j) (by omega) j _ _ _ m (by omega) ?_ (by omega)
  rw [if_neg (by omega)]
  exact ⟨hst.symm,hf.symm,rfl,fun h=>by rw [hst]; exact hend h⟩
end
end Go.Proofs.Ytipdidpalcmlhaa.Tx
namespace Go.Proofs.Ytipdidpalcmlhaa.Rf
open Go Ev Bm Co Gen Dc
section
variable {fl:Nat} (hfl:9223372036854775808≤fl) {t dx dy kd w h:Int} {p:List Int} {rw rh:Int} {rp:List Int} {ty:Bool}
include hfl
theorem flat_ok2 (hr:RR t dx dy kd w h p rw rh rp) {x y:Int} (hx: -1000≤x∧x≤1000) (hy: -1000≤y∧y≤1000) {K:Int×Bool×Int×Int×Int×Bool×Int×Int×Int×Int×Int×List Int×List Int→Option Ans}:
    F_refine_region_flat_391 fl x y t dx dy ty kd w h rw rh rp p K = K ((flatv dx dy rw rh rp x y).1,(flatv dx dy rw rh rp x y).2,t,dx,dy,ty,kd,w,h,rw,rh,rp,p):=by
  have h1:=hr.x
  have h2:=hr.y
  unfold F_refine_region_flat_391 Fg_refine_region_flat_391
  rw [grid_ok hr.r,w6 (x:=x - dx),w6 (x:=y - dy)]
  try dsimp only
  unfold L_refine_region_flat_391_0 flatv
  generalize hc:px rw rh rp (x - dx) (y - dy) = c
  have step:∀ i:Nat,i < 9→∀ (ret:Int×Bool×Int×Int×Int×Bool×Int×Int×Int×Int×Int×List Int×List Int→Option Ans) (b:Int×Int×Int×Int×Bool×Int×Int×Int×Int×Int×List Int×List Int→Option Ans) k,S_refine_region_flat_391_0 fl (x,y,c,(i:Int),t,dx,dy,ty,kd,w,h,rw,rh,rp,p) k (ret,b)
      = if px rw rh rp (x - dx + ((i % 3:Nat):Int) - 1) (y - dy + ((i / 3:Nat):Int) - 1) = c then k (x,y,c,((i + 1:Nat):Int),t,dx,dy,ty,kd,w,h,rw,rh,rp,p) else ret (0,false,t,dx,dy,ty,kd,w,h,rw,rh,rp,p):=by
    intro i hi ret b k
    have e1:((i:Int)).tmod 3 = ((i % 3:Nat):Int):=by rw [tmod_e (by omega)]; omega
    have e2:((i:Int)).tdiv 3 = ((i / 3:Nat):Int):=by rw [tdiv_e (by omega)]; omega
    simp only [S_refine_region_flat_391_0,Sg_refine_region_flat_391_0]
    rw [dec_t (by omega),e1,e2,w6 (x:=x - dx),w6 (x:=y - dy),w6 (x:=((i / 3:Nat):Int)),w6 (x:=x - dx + _),w6 (x:=x - dx + _ - 1),w6 (x:=y - dy + _),w6 (x:=y - dy + _ - 1),grid_ok hr.r]
    try dsimp only
    rw [cn]
    split
    · rw [wrap64 (by omega) (by omega)]
      rfl
    · rfl
  rcases nat_or_first (fun i=>px rw rh rp (x - dx + ((i % 3:Nat):Int) - 1) (y - dy + ((i / 3:Nat):Int) - 1) = c) 9 with ha | ⟨n,hn,hb,hi⟩
  · rw [if_pos (by rw [List.all_eq_true]; exact fun i hi=>decide_eq_true (ha i (List.mem_range.1 hi)))]
    refine iter_seq (step:=S_refine_region_flat_391_0 fl) (fun i:Nat=>(x,y,c,(i:Int),t,dx,dy,ty,kd,w,h,rw,rh,rp,p)) 9 rfl (fun i hi k=> ?_) (fun k=> ?_) (by omega)
    · rw [step i hi,if_pos (ha i hi)]
    · simp only [S_refine_region_flat_391_0,Sg_refine_region_flat_391_0]
      rw [dec_f (by omega)]
  · rw [if_neg (by
      rw [List.all_eq_true]
      exact fun h=>hb (of_decide_eq_true (h n (List.mem_range.2 hn))))]
    refine iter_seq (step:=S_refine_region_flat_391_0 fl) (fun i:Nat=>(x,y,c,(i:Int),t,dx,dy,ty,kd,w,h,rw,rh,rp,p)) n rfl (fun i hin k=> ?_) (fun k=> ?_) (by omega)
    · rw [step i (by omega),if_pos (hi i hin)]
    · rw [step n hn,if_neg hb]
theorem ctx_ok2 (hr:RR t dx dy kd w h p rw rh rp) {x y:Int} (hx: -1000≤x∧x≤1000) (hy: -1000≤y∧y≤1000) {K:Int×Int×Int×Int×Bool×Int×Int×Int×Int×Int×List Int×List Int→Option Ans}:
    F_refine_region_context_391 fl x y t dx dy ty kd w h rw rh rp p K = K (rctx t dx dy w h p rw rh rp x y,t,dx,dy,ty,kd,w,h,rw,rh,rp,p):=by
  have h1:=hr.x
  have h2:=hr.y
  have hf:∀ K:List (Int×Int)→Option Ans,F_refine_fresh fl t K = K (fr t):=fun K=>by
    unfold F_refine_fresh fr
    rw [cb]
    split <;> rfl
  have hl:=(fr_len t).1
  unfold F_refine_region_context_391 Fg_refine_region_context_391
  rw [hf]
  try dsimp only
  unfold L_refine_region_context_391_0
  refine iter_seq (step:=S_refine_region_context_391_0 fl) (fun i:Nat=>(x,y,fold w h p x y ((fr t).take i) 0,((fr t).length:Int),(i:Int),t,dx,dy,ty,kd,w,h,rw,rh,rp,p,fr t)) (fr t).length rfl (fun i hi c=> ?_) (fun c=> ?_) (by omega)
  · have e:=fr_near t _ (getD_mem hi (0,0))
    have a:=fold_rg hr.p.bit (w:=w) (h:=h) (x:=x) (y:=y) ((fr t).take i) (a:=0) (M:=1) (by omega) (by omega)
    have hle:(2:Int) ^ ((fr t).take i).length≤2 ^ 4:=by
      have:=Nat.pow_le_pow_right (n:=2) (by omega) (show ((fr t).take i).length≤4 by rw [List.length_take]; omega)
      exact_mod_cast this
    have b:=px_01 (w:=w) (h:=h) hr.p.bit (x + ((fr t).getD i (0,0)).1) (y + ((fr t).getD i (0,0)).2)
    simp (disch:=omega) only [S_refine_region_context_391_0,Sg_refine_region_context_391_0,dec_t,Int.toNat_natCast,wrap64,grid_ok hr.p]
    rw [fold_take hi]
    rfl
  · simp (disch:=omega) only [S_refine_region_context_391_0,Sg_refine_region_context_391_0,dec_f,List.take_length]
    unfold F_refine_beside L_refine_region_context_391_2
    have a:=fold_rg hr.p.bit (w:=w) (h:=h) (x:=x) (y:=y) (fr t) (a:=0) (M:=1) (by omega) (by omega)
    have hle:(2:Int) ^ (fr t).length≤2 ^ 4:=by
      have:=Nat.pow_le_pow_right (n:=2) (by omega) hl
      exact_mod_cast this
    unfold rctx
    generalize fold w h p x y (fr t) 0 = g at *
    refine iter_seq (step:=S_refine_region_context_391_2 fl) (fun i:Nat=>(x,y,fold rw rh rp (x - dx) (y - dy) (bs.take i) g,(bs.length:Int),(i:Int),t,dx,dy,ty,kd,w,h,rw,rh,rp,p,bs)) bs.length rfl (fun i hi c=> ?_) (fun c=> ?_) (by show 5 < fl; omega)
    · have e:=bs_near _ (getD_mem hi (0,0))
      have a':=fold_rg hr.r.bit (w:=rw) (h:=rh) (x:=x - dx) (y:=y - dy) (bs.take i) (a:=g) (M:=16) (by omega) (by omega)
      have hle2:(2:Int) ^ (bs.take i).length≤2 ^ 5:=by
        have:=Nat.pow_le_pow_right (n:=2) (by omega) (show (bs.take i).length≤5 by rw [List.length_take]; exact Nat.min_le_right _ _)
        exact_mod_cast this
      have b:=px_01 (w:=rw) (h:=rh) hr.r.bit (x - dx + (bs.getD i (0,0)).1) (y - dy + (bs.getD i (0,0)).2)
      have hb5:bs.length = 5:=rfl
      simp (disch:=omega) only [S_refine_region_context_391_2,Sg_refine_region_context_391_2,dec_t,Int.toNat_natCast,wrap64,grid_ok hr.r]
      rw [fold_take hi]
      rfl
    · simp (disch:=omega) only [S_refine_region_context_391_2,Sg_refine_region_context_391_2,dec_f,List.take_length]
end
def gRes (kx:Int) (code:List Int) (w h:Int) (K:Int×Int×List Int×Int×Int×Int×Int×Int×Int×Int×Bool×Bool×List Int×List Int→Option Ans):(Int ⊕ List Int)×S→Option Ans
  | (.inr p,s')=>K (w,h,p,0,kx,s'.x.lo,s'.x.hi,((4 + s'.k:Nat):Int),win (strm code) s'.k,byd code s'.k,!s'.ok,true,s'.x.st,code)
  | (.inl e,s')=>K (0,0,[],e,kx,s'.x.lo,s'.x.hi,((4 + s'.k:Nat):Int),win (strm code) s'.k,byd code s'.k,!s'.ok,true,s'.x.st,code)
theorem bnew0 {fl:Nat} (hfl:9223372036854775808≤fl) {w h:Int} (hf:fit w h = true) {K:Int×Int×Int×List Int→Option Ans}:F_bitmap_New fl w h 0 K = K (w,h,0,List.replicate (w * h).toNat 0):=by
  obtain ⟨f1,f2,f3,f4,f5⟩:=fit_iff.1 hf
  have hm:=Int.mul_nonneg f1 f2
  have replicate_set:∀ n i:Nat,(List.replicate n (0:Int)).set i 0 = List.replicate n 0:=fun n i=>by
    apply List.ext_getElem (by simp)
    intro j h1 h2
    simp [List.getElem_set]
  unfold F_bitmap_New Fg_bitmap_New F_bitmap_blank Fg_bitmap_blank
  rw [dec_f (by omega),dec_f (by omega),cond_f (b:=(0:Int) != 0) rfl,fits_ok,hf,cond_f (b:=!true) rfl,w6 (x:=w * h),dec_t (by refine ⟨by omega, ?_,by omega,by omega⟩; first | rfl | trivial)]
  dsimp only
  unfold L_bitmap_New_0
  refine iter_seq (step:=S_bitmap_New_0 fl) (fun i:Nat=>(0,0,((List.replicate (w * h).toNat (0:Int)).length:Int),(i:Int),0,0,w,h,[],List.replicate (w * h).toNat 0)) (w * h).toNat rfl (fun i hi c=> ?_) (fun c=> ?_) (by omega)
  · simp only [S_bitmap_New_0,Sg_bitmap_New_0,List.length_replicate]
    rw [dec_t (by omega),dec_t (by omega),wrap64 (by omega) (by omega),wrap8 (by omega) (by omega),replicate_set]
    rfl
  · simp only [S_bitmap_New_0,Sg_bitmap_New_0,List.length_replicate]
    rw [dec_f (by omega)]
section
variable {fl:Nat} (hfl:9223372036854775808≤fl) {t dx dy base w h kd:Int} {rw rh:Int} {rp:List Int} {kx:Int} {code:List Int} {n:Nat} (hc:Cd code n)
include hfl hc
theorem row_get (hr:∀ p,Pix w h p→RR t dx dy kd w h p rw rh rp) (h0:0≤base) (h1:base + csz t + 1≤(n:Int)) {y:Nat} (hy:(y:Int) < h) {p:List Int} (hp:Pix w h p) {s:S} (hs:St kx code n s) {K} {R:Int→S→Option Ans}
    (hK:∀ q (s:S),K (6,t,dx,dy,false,kd,w,h,rw,rh,rp,kx,s.x.lo,s.x.hi,((4 + s.k:Nat):Int),win (strm code) s.k,byd code s.k,true,true,q,s.x.st,code) = R 6 ⟨false,s.x,s.k⟩):
    F_refine_region_row_865 fl base (y:Int) t dx dy false kd w h rw rh rp kx s.x.lo s.x.hi ((4 + s.k:Nat):Int) (win (strm code) s.k) (byd code s.k) false true p s.x.st code K
    = Aft (fun p' s'=>K (0,t,dx,dy,false,kd,w,h,rw,rh,rp,kx,s'.x.lo,s'.x.hi,((4 + s'.k:Nat):Int),win (strm code) s'.k,byd code s'.k,false,true,p',s'.x.st,code)) R ((rowD t dx dy base w h rw rh rp y p).run kx code s):=by
  have hw0:=hp.w0; have hw1:=hp.w1; have hh1:=hp.h1
  have hn:=hc.n; have hl:=hc.l
  have hcs:=csz_eq t
  have hrp:=(hr p hp).r
  unfold F_refine_region_row_865 Fg_refine_region_row_865 rowD
  rw [cond_false]
  unfold L_refine_region_row_865_0
  refine iter_dec (step:=S_refine_region_row_865_0 fl) (N:=n) (fun _ p=>Pix w h p) (pxD t dx dy base w h rw rh rp y) (fun i p s=>(base,(y:Int),0,w,(i:Int),t,dx,dy,false,kd,w,h,rw,rh,rp,kx,s.x.lo,s.x.hi,((4 + s.k:Nat):Int),win (strm code) s.k,byd code s.k,false,true,p,s.x.st,code)) R (fun p s=>K (0,t,dx,dy,false,kd,w,h,rw,rh,rp,kx,s.x.lo,s.x.hi,((4 + s.k:Nat):Int),win (strm code) s.k,byd code s.k,false,true,p,s.x.st,code)) w.toNat (fun i a hi ha=>pxD_all hrp.bit h0 h1 ha y i) (fun i a s hi ha hs c=> ?_) (fun a s ha hs c=> ?_) (v:=(base,(y:Int),0,w,0,t,dx,dy,false,kd,w,h,rw,rh,rp,kx,s.x.lo,s.x.hi,((4 + s.k:Nat):Int),win (strm code) s.k,byd code s.k,false,true,p,s.x.st,code)) rfl hp hs (m:=fl) (by omega)
  · obtain ⟨p1,p2,p3⟩:=place_nat (w:=w) (h:=h) (x:=i) (y:=y) (by omega) hy
    have hyw:0≤(y:Int) * w:=Int.mul_nonneg (by omega) hw0
    have hal:=ha.len
    have han:=ha.n
    have hcx:=rctx_rg (t:=t) (dx:=dx) (dy:=dy) (w:=w) (h:=h) (rw:=rw) (rh:=rh) ha.bit hrp.bit (i:Int) (y:Int)
    have hk:=hs.k
    simp only [S_refine_region_row_865_0,Sg_refine_region_row_865_0]
    rw [dec_t (by omega),flat_ok2 hfl (hr a ha) (by omega) (by omega)]
    dsimp only
    rw [cond_f (b:=(0:Int)==1) rfl,ctx_ok2 hfl (hr a ha) (by omega) (by omega)]
    dsimp only
    rw [w6 (x:=base + _),Co.get_okB hfl hs.x (by omega) (by rw [hs.sl]; omega) hc.b hl (by omega)]
    unfold pxD
    simp only [Dec.run]
    cases e:Co.get kx code s.x s.k (base + rctx t dx dy w h a rw rh rp (i:Int) (y:Int)) with
    | none=>
      dsimp only
      rw [cond_t (b:=(6:Int) != 0) rfl]
      exact hK a s
    | some v=>
      obtain ⟨b',x',k'⟩:=v
      obtain ⟨g1,g2,g3,g4⟩:=get_some hs.x (by omega) (by rw [hs.sl]; omega) e
      dsimp only
      rw [cond_f (b:=(0:Int) != 0) rfl,w6 (x:=(y:Int) * w),w6 (x:=(y:Int) * w + (i:Int)), ← p1,dec_t (by omega),Int.toNat_natCast,wrap8 (x:=b') (by omega) (by omega),w6 (x:=(i:Int) + 1)]
      rfl
  · simp only [S_refine_region_row_865_0,Sg_refine_region_row_865_0]
    rw [dec_f (by omega)]
theorem get_ok3 (hr:∀ p,Pix w h p→RR t dx dy kd w h p rw rh rp) (hf:fit w h = true) (h0:0≤base) (h1:base + csz t + 1≤(n:Int)) {s:S} (hs:St kx code n s) {K}:
    F_refine_Get_fd3 fl base t dx dy false kd w h rw rh rp kx s.x.lo s.x.hi ((4 + s.k:Nat):Int) (win (strm code) s.k) (byd code s.k) false true s.x.st code K = gRes kx code w h K ((regD t dx dy base w h rw rh rp).run kx code s):=by
  obtain ⟨f1,f2,f3,f4,f5⟩:=fit_iff.1 hf
  have hm:=Int.mul_nonneg f1 f2
  have hz:=pix_zero hf
  have hrz:=hr _ hz
  have hrp:=hrz.r
  have hn:=hc.n; have hl:=hc.l
  have hcs:=csz_eq t
  have hsl:=hs.sl
  unfold F_refine_Get_fd3 Fg_refine_Get_fd3
  rw [Co.get_bad]
  dsimp only
  have hcc:∀ K:Int→Option Ans,F_refine_contexts fl t K = K (csz t):=fun K=>by
    unfold F_refine_contexts Fg_refine_contexts F_refine_fresh csz
    rw [cb]
    rcases hrz.t with rfl | rfl
    · rfl
    · rfl
  have hv:∀ {w h:Int} {p:List Int},Pix w h p→valid w h p = true:=fun {w h p} hp=>valid_iff.2 ⟨⟨hp.w0,hp.h0,hp.w1,hp.h1,hp.n⟩,hp.len,fun v hv=>(hp.bit v hv).2⟩
  rw [cond_f (b:=(2:Int)==7) rfl,rvalid_ok2 hfl hrz]
  try dsimp only
  rw [cond_f (b:=!true) rfl,bnew0 hfl hf]
  dsimp only
  rw [cond_f (b:=(0:Int) != 0) rfl,valid_ok hfl,hv hrp]
  try dsimp only
  rw [cond_f (b:=!true) rfl]
  unfold F_coder_Decoder_Model_40a Fg_coder_Decoder_Model_40a F_coder_Decoder_none_40a
  dsimp only
  rw [cond_f (b:=!true) rfl,clone_ok (by omega)]
  dsimp only
  unfold F_refine_fits Fg_refine_fits F_refine_newRegion_adf
  rw [dec_t (by omega),hcc]
  try dsimp only
  rw [w6 (x:=(s.x.st.length:Int) - csz t),wrap64 (by omega) (by omega),decide_eq_true (by omega),cond_f (b:=!true) rfl,w6 (x:=w * h),dec_t (by refine ⟨by omega, ?_,by omega,by omega⟩; first | rfl | trivial)]
  unfold L_refine_Get_fd3_0 regD
  have main:=iter_dec (step:=S_refine_Get_fd3_0 fl) (b:=(fun r=>K (r.2.2.2.2.2.2.2.2.2.2.2.1,r.2.2.2.2.2.2.2.2.2.2.2.2.1,r.2.2.2.2.2.2.2.2.2.2.2.2.2,r.1,r.2.1,r.2.2.1,r.2.2.2.1,r.2.2.2.2.1,r.2.2.2.2.2.1,r.2.2.2.2.2.2.1,r.2.2.2.2.2.2.2.1,r.2.2.2.2.2.2.2.2.1,r.2.2.2.2.2.2.2.2.2.1,r.2.2.2.2.2.2.2.2.2.2.1),
      fun b=>K (b.1,b.2.1,b.2.2.2.2.2.2.2.2.2.2.2.2.2.2.2.2.2.2.2.2.2.2.2.2.2,0,b.2.2.1,b.2.2.2.1,b.2.2.2.2.1,b.2.2.2.2.2.1,b.2.2.2.2.2.2.1,b.2.2.2.2.2.2.2.1,b.2.2.2.2.2.2.2.2.1,b.2.2.2.2.2.2.2.2.2.1,b.2.2.2.2.2.2.2.2.2.2.1,b.2.2.2.2.2.2.2.2.2.2.2.1))) (N:=n) (fun _ p=>Pix w h p) (rowD t dx dy base w h rw rh rp) (fun i p s=>(base,w,h,h,(i:Int),kx,s.x.lo,s.x.hi,((4 + s.k:Nat):Int),win (strm code) s.k,byd code s.k,false,true,s.x.st,code,0,0,t,dx,dy,false,kd,w,h,rw,rh,rp,[],p)) (fun e s'=>K (0,0,[],e,kx,s'.x.lo,s'.x.hi,((4 + s'.k:Nat):Int),win (strm code) s'.k,byd code s'.k,!s'.ok,true,s'.x.st,code)) (fun p s=>K (w,h,p,0,kx,s.x.lo,s.x.hi,((4 + s.k:Nat):Int),win (strm code) s.k,byd code s.k,false,true,s.x.st,code)) h.toNat (fun i a hi ha=>rowD_all hrp.bit h0 h1 ha i) (fun i a s hi ha hs c=> ?_) (fun a s ha hs c=> ?_) (v:=(base,w,h,h,0,kx,s.x.lo,s.x.hi,((4 + s.k:Nat):Int),win (strm code) s.k,byd code s.k,false,true,s.x.st,code,0,0,t,dx,dy,false,kd,w,h,rw,rh,rp,[],List.replicate (w * h).toNat 0)) rfl hz hs (m:=fl) (by omega)
  · refine Eq.trans main ?_
    have he:=run_ends (loopD (rowD t dx dy base w h rw rh rp) h.toNat 0 (List.replicate (w * h).toNat 0)) (regD_all hrp.bit h0 h1 hf) hs
    cases hrn:(loopD (rowD t dx dy base w h rw rh rp) h.toNat 0 (List.replicate (w * h).toNat 0)).run kx code s with
    | mk r s'=>
      rw [hrn] at he
      cases r with
      | inl e=>rfl
      | inr a=>
        have:=he.2.ok
        simp only [gRes,Aft,this,Bool.not_true]
  · simp only [S_refine_Get_fd3_0,Sg_refine_Get_fd3_0]
    rw [dec_t (by omega),row_get hfl hc hr h0 h1 (by omega) ha hs (R:=fun e s'=>K (0,0,[],e,kx,s'.x.lo,s'.x.hi,((4 + s'.k:Nat):Int),win (strm code) s'.k,byd code s'.k,!s'.ok,true,s'.x.st,code)) (fun q s=>rfl)]
    cases hrn:(rowD t dx dy base w h rw rh rp i a).run kx code s with
    | mk r s'=>
      cases r with
      | inl e=>rfl
      | inr a'=>
        simp only [Aft]
        rw [cond_f (b:=(0:Int) != 0) rfl,w6 (x:=(i:Int) + 1)]
        rfl
  · simp only [S_refine_Get_fd3_0,Sg_refine_Get_fd3_0]
    rw [dec_f (by omega)]
end
end Go.Proofs.Ytipdidpalcmlhaa.Rf
namespace Go.Proofs.Ytipdidpalcmlhaa.Tx
open Go Ev Bm Co Gen Dc Rf
def withinD (base add low high:Int):Dec Int:=(numD base).bind fun v=>if v.1 = false∧low≤v.2 + add∧v.2 + add≤high then .ret (v.2 + add) else .bad 3
def refD (o7 lk:Int) (b:Bmp) (id s t:Int):Dec Item:=
  (withinD 192 b.1 1 40).bind fun w=>(withinD 240 b.2.1 1 40).bind fun h=>(withinD 288 0 (-200) 200).bind fun dx=>(withinD 336 0 (-200) 200).bind fun dy=>
    (regD o7 dx dy lk w h b.1 b.2.1 b.2.2).bind fun p=>.ret (id,s,t,true,dx,dy,w,h,p)
section
variable (o0 o3 o7:Int) (rf:Bool) (symbols:List Bmp)
def itemD (st s:Int):Dec Item:=
  (if o0 > 1 then withinD 144 0 0 (o0 - 1) else .ret 0).bind fun d=>
    if near (st * o0 + d) 100000 then
      (idD 385 (fun p=>.ret (p - ((2 ^ tk symbols:Nat):Int))) (tk symbols) 1).bind fun id=>
        if id < (symbols.length:Int) then
          (if rf = true then .get 384 fun b=>if b = 1 then refD o7 (lik symbols) (bmAt symbols id) id s (st * o0 + d) else .ret (id,s,st * o0 + d,false,0,0,0,0,[])
           else .ret (id,s,st * o0 + d,false,0,0,0,0,[]))
        else .bad 3
    else .bad 3
def lineD (n:Int) (st:Int):Nat→Int→List Item→Dec (List Item)
  | 0,_,_=>.bad 3
  | f + 1,s,l=>(itemD o0 o7 rf symbols st s).bind fun i=>(numD 96).bind fun v=>
      if v.1 = true then .ret (l++ [i]) else if ((l++ [i]).length:Int) < n∧near (s + (v.2 + o3)) 100000 then lineD n st f (s + (v.2 + o3)) (l++ [i]) else .bad 3
def textD (n:Int):Nat→Int→Int→List Item→Dec (List Item)
  | 0,_,_,l=>.ret l
  | f + 1,la,fi,l=>if (l.length:Int) < n then
      (numD 0).bind fun v=>if v.1 = false∧(v.2 > 0∨l.length = 0)∧(o0 > 1∨near (la + v.2) 100000) then
          (withinD 48 fi (-100000) 100000).bind fun fi'=>(lineD o0 o3 o7 rf symbols n (la + v.2) 301 fi' l).bind fun l'=>textD n f (la + v.2) fi' l'
        else .bad 3
    else .ret l
end
theorem withinD_all {base add low high:Int} {N:Nat} (h0:0≤base) (h1:base + 48≤(N:Int)):(withinD base add low high).All N (fun v=>low≤v∧v≤high):=
  Dec.All.bind (P:=NumOk) (fun v hv=>by
    try dsimp only
    split
    · rename_i h
      exact ⟨h.2.1,h.2.2⟩
    · rfl) _ (numD_all h0 h1)
section
variable {fl:Nat} (hfl:9223372036854775808≤fl) {kx:Int} {code:List Int} {N:Nat} (hc:Cd code N)
variable {o0 o1 o3 o4 o5 o7 n:Int} {rf tu:Bool} {symbols:List Bmp} {l:List Item}
theorem fine_ok {e err:Int} {s:S} {K}:F_text_reader_fine_e4a fl e o0 o1 tu o3 o4 o5 rf o7 (tk symbols:Int) (lik symbols) (tsz o7 rf symbols) symbols n err kx s.x.lo s.x.hi ((4 + s.k:Nat):Int) (win (strm code) s.k) (byd code s.k) (!s.ok) true l s.x.st code K = K (decide ((if err = 0 then e else err) = 0),o0,o1,tu,o3,o4,o5,rf,o7,(tk symbols:Int),lik symbols,tsz o7 rf symbols,symbols,n,if err = 0 then e else err,kx,s.x.lo,s.x.hi,((4 + s.k:Nat):Int),win (strm code) s.k,byd code s.k,!s.ok,true,l,s.x.st,code):=by
  unfold F_text_reader_fine_e4a
  rw [cb]
  by_cases h:err = 0
  · simp only [if_pos h]; rfl
  · simp only [if_neg h]; rfl
theorem check_ok {b:Bool} {err:Int} {s:S} {K}:F_text_reader_check_91e fl b o0 o1 tu o3 o4 o5 rf o7 (tk symbols:Int) (lik symbols) (tsz o7 rf symbols) symbols n err kx s.x.lo s.x.hi ((4 + s.k:Nat):Int) (win (strm code) s.k) (byd code s.k) (!s.ok) true l s.x.st code K = K (b&&decide (err = 0),o0,o1,tu,o3,o4,o5,rf,o7,(tk symbols:Int),lik symbols,tsz o7 rf symbols,symbols,n,if b = true then err else if err = 0 then 3 else err,kx,s.x.lo,s.x.hi,((4 + s.k:Nat):Int),win (strm code) s.k,byd code s.k,!s.ok,true,l,s.x.st,code):=by
  unfold F_text_reader_check_91e Fg_text_reader_check_91e
  rw [fine_ok]
  cases b with
  | true=>
    rw [cond_f (b:=!true) rfl,if_pos rfl]
    rfl
  | false=>
    rw [cond_t (b:=!false) rfl]
    try dsimp only
    by_cases h:err = 0
    · simp only [if_pos h]; rfl
    · simp only [if_neg h,decide_eq_false h]; rfl
theorem fine_0 {s:S} {K}:F_text_reader_fine_e4a fl 0 o0 o1 tu o3 o4 o5 rf o7 (tk symbols:Int) (lik symbols) (tsz o7 rf symbols) symbols n 0 kx s.x.lo s.x.hi ((4 + s.k:Nat):Int) (win (strm code) s.k) (byd code s.k) (!s.ok) true l s.x.st code K = K (true,o0,o1,tu,o3,o4,o5,rf,o7,(tk symbols:Int),lik symbols,tsz o7 rf symbols,symbols,n,0,kx,s.x.lo,s.x.hi,((4 + s.k:Nat):Int),win (strm code) s.k,byd code s.k,!s.ok,true,l,s.x.st,code):=fine_ok
theorem fine_e {e:Int} (he:e ≠ 0) {s:S} {K}:F_text_reader_fine_e4a fl e o0 o1 tu o3 o4 o5 rf o7 (tk symbols:Int) (lik symbols) (tsz o7 rf symbols) symbols n 0 kx s.x.lo s.x.hi ((4 + s.k:Nat):Int) (win (strm code) s.k) (byd code s.k) (!s.ok) true l s.x.st code K = K (false,o0,o1,tu,o3,o4,o5,rf,o7,(tk symbols:Int),lik symbols,tsz o7 rf symbols,symbols,n,e,kx,s.x.lo,s.x.hi,((4 + s.k:Nat):Int),win (strm code) s.k,byd code s.k,!s.ok,true,l,s.x.st,code):=by
  rw [fine_ok]
  simp only [if_true,decide_eq_false he]
theorem check_1 {s:S} {K}:F_text_reader_check_91e fl true o0 o1 tu o3 o4 o5 rf o7 (tk symbols:Int) (lik symbols) (tsz o7 rf symbols) symbols n 0 kx s.x.lo s.x.hi ((4 + s.k:Nat):Int) (win (strm code) s.k) (byd code s.k) (!s.ok) true l s.x.st code K = K (true,o0,o1,tu,o3,o4,o5,rf,o7,(tk symbols:Int),lik symbols,tsz o7 rf symbols,symbols,n,0,kx,s.x.lo,s.x.hi,((4 + s.k:Nat):Int),win (strm code) s.k,byd code s.k,!s.ok,true,l,s.x.st,code):=check_ok
theorem check_0 {s:S} {K}:F_text_reader_check_91e fl false o0 o1 tu o3 o4 o5 rf o7 (tk symbols:Int) (lik symbols) (tsz o7 rf symbols) symbols n 0 kx s.x.lo s.x.hi ((4 + s.k:Nat):Int) (win (strm code) s.k) (byd code s.k) (!s.ok) true l s.x.st code K = K (false,o0,o1,tu,o3,o4,o5,rf,o7,(tk symbols:Int),lik symbols,tsz o7 rf symbols,symbols,n,3,kx,s.x.lo,s.x.hi,((4 + s.k:Nat):Int),win (strm code) s.k,byd code s.k,!s.ok,true,l,s.x.st,code):=check_ok
theorem check_e {b:Bool} {err:Int} (he:err ≠ 0) {s:S} {K}:F_text_reader_check_91e fl b o0 o1 tu o3 o4 o5 rf o7 (tk symbols:Int) (lik symbols) (tsz o7 rf symbols) symbols n err kx s.x.lo s.x.hi ((4 + s.k:Nat):Int) (win (strm code) s.k) (byd code s.k) (!s.ok) true l s.x.st code K = K (false,o0,o1,tu,o3,o4,o5,rf,o7,(tk symbols:Int),lik symbols,tsz o7 rf symbols,symbols,n,err,kx,s.x.lo,s.x.hi,((4 + s.k:Nat):Int),win (strm code) s.k,byd code s.k,!s.ok,true,l,s.x.st,code):=by
  rw [check_ok,decide_eq_false he,Bool.and_false]
  have e4:(if b = true then err else if err = 0 then 3 else err) = err:=by split <;> simp [he]
  rw [e4]
theorem num_err {base err:Int} (he:err ≠ 0) {s:S} {K}:F_text_reader_num_e4a fl base o0 o1 tu o3 o4 o5 rf o7 (tk symbols:Int) (lik symbols) (tsz o7 rf symbols) symbols n err kx s.x.lo s.x.hi ((4 + s.k:Nat):Int) (win (strm code) s.k) (byd code s.k) (!s.ok) true l s.x.st code K = K (false,0,o0,o1,tu,o3,o4,o5,rf,o7,(tk symbols:Int),lik symbols,tsz o7 rf symbols,symbols,n,err,kx,s.x.lo,s.x.hi,((4 + s.k:Nat):Int),win (strm code) s.k,byd code s.k,!s.ok,true,l,s.x.st,code):=by
  unfold F_text_reader_num_e4a Fg_text_reader_num_e4a
  rw [cond_t (by simp [he])]
include hfl hc
theorem num_ok {base:Int} (h0:0≤base) (h1:base + 48≤(N:Int)) {s:S} (hs:St kx code N s) {K}:F_text_reader_num_e4a fl base o0 o1 tu o3 o4 o5 rf o7 (tk symbols:Int) (lik symbols) (tsz o7 rf symbols) symbols n 0 kx s.x.lo s.x.hi ((4 + s.k:Nat):Int) (win (strm code) s.k) (byd code s.k) (!s.ok) true l s.x.st code K = Aft (fun v s'=>K (v.1,v.2,o0,o1,tu,o3,o4,o5,rf,o7,(tk symbols:Int),lik symbols,tsz o7 rf symbols,symbols,n,0,kx,s'.x.lo,s'.x.hi,((4 + s'.k:Nat):Int),win (strm code) s'.k,byd code s'.k,!s'.ok,true,l,s'.x.st,code)) (fun e s'=>K (false,0,o0,o1,tu,o3,o4,o5,rf,o7,(tk symbols:Int),lik symbols,tsz o7 rf symbols,symbols,n,e,kx,s'.x.lo,s'.x.hi,((4 + s'.k:Nat):Int),win (strm code) s'.k,byd code s'.k,!s'.ok,true,l,s'.x.st,code)) ((numD base).run kx code s):=by
  unfold F_text_reader_num_e4a Fg_text_reader_num_e4a
  rw [cond_f (b:=(0:Int) != 0) rfl,hs.ok,Bool.not_true,Nget_ok hfl hc h0 h1 hs]
  cases (numD base).run kx code s with
  | mk r s'=>
    cases r with
    | inr v=>
      simp only [nRes,Aft]
      rw [fine_ok,if_pos rfl]
    | inl e=>
      simp only [nRes,Aft]
      rw [fine_ok,if_pos rfl]
omit hfl hc in
theorem within_err {base add low high err:Int} (he:err ≠ 0) (ha: -1000000≤add∧add≤1000000) {s:S} {K}:F_text_reader_within_b14 fl base add low high o0 o1 tu o3 o4 o5 rf o7 (tk symbols:Int) (lik symbols) (tsz o7 rf symbols) symbols n err kx s.x.lo s.x.hi ((4 + s.k:Nat):Int) (win (strm code) s.k) (byd code s.k) (!s.ok) true l s.x.st code K = K (add,o0,o1,tu,o3,o4,o5,rf,o7,(tk symbols:Int),lik symbols,tsz o7 rf symbols,symbols,n,err,kx,s.x.lo,s.x.hi,((4 + s.k:Nat):Int),win (strm code) s.k,byd code s.k,!s.ok,true,l,s.x.st,code):=by
  unfold F_text_reader_within_b14 Fg_text_reader_within_b14
  rw [num_err he]
  dsimp only
  simp only [check_ok,if_neg he]
  rw [w6 (x:=0 + add),Int.zero_add]
  have e:∀ b:Bool,(if b = true then err else err) = err:=fun b=>by split <;> rfl
  rw [cond_t (b:=!false) rfl]
  simp only [e]
  cases decide (add≥low) <;> rfl
theorem within_ok {base add low high:Int} (h0:0≤base) (h1:base + 48≤(N:Int)) (ha: -1000000≤add∧add≤1000000) {s:S} (hs:St kx code N s) {K} {R:Int→S→Option Ans} (hK:∀ v e (s:S),e ≠ 0→K (v,o0,o1,tu,o3,o4,o5,rf,o7,(tk symbols:Int),lik symbols,tsz o7 rf symbols,symbols,n,e,kx,s.x.lo,s.x.hi,((4 + s.k:Nat):Int),win (strm code) s.k,byd code s.k,!s.ok,true,l,s.x.st,code) = R e s):
    F_text_reader_within_b14 fl base add low high o0 o1 tu o3 o4 o5 rf o7 (tk symbols:Int) (lik symbols) (tsz o7 rf symbols) symbols n 0 kx s.x.lo s.x.hi ((4 + s.k:Nat):Int) (win (strm code) s.k) (byd code s.k) (!s.ok) true l s.x.st code K = Aft (fun v s'=>K (v,o0,o1,tu,o3,o4,o5,rf,o7,(tk symbols:Int),lik symbols,tsz o7 rf symbols,symbols,n,0,kx,s'.x.lo,s'.x.hi,((4 + s'.k:Nat):Int),win (strm code) s'.k,byd code s'.k,!s'.ok,true,l,s'.x.st,code)) R ((withinD base add low high).run kx code s):=by
  unfold F_text_reader_within_b14 Fg_text_reader_within_b14 withinD
  rw [num_ok hfl hc h0 h1 hs,fin_bind]
  have e3:∀ b:Bool,(if b = true then (0:Int) else if (0:Int) = 0 then 3 else 0) = if b = true then 0 else 3:=fun b=>by split <;> rfl
  have e4:∀ (b:Bool) (e:Int),e ≠ 0→(if b = true then e else if e = 0 then 3 else e) = e:=fun b e he=>by split <;> simp [he]
  refine fin_congr (numD_all h0 h1) hs (fun v s' hv hs'=> ?_) (fun e s' he=> ?_)
  · obtain ⟨v1,v2,v3⟩:=hv
    dsimp only
    simp only [check_ok,e3]
    rw [w6 (x:=v.2 + add)]
    cases hv1:v.1 with
    | true=>
      simp only [Bool.not_true,cond_false,Bool.false_eq_true,if_false,Bool.true_eq_false,false_and,Dec.run,Aft]
      exact hK _ 3 s' (by decide)
    | false=>
      rw [cond_t (b:=!false) rfl]
      by_cases c1:v.2 + add≥low
      rotate_left
      · have hn:¬ (low≤v.2 + add∧v.2 + add≤high):=fun h=>c1 h.1
        rw [dec_f c1]
        simp only [Bool.false_eq_true,if_false,if_true,true_and,if_neg hn,Dec.run,Aft]
        exact hK _ 3 s' (by decide)
      rw [dec_t c1]
      by_cases c2:v.2 + add≤high
      · have hy:low≤v.2 + add∧v.2 + add≤high:=⟨c1,c2⟩
        simp only [decide_eq_true c2,if_true,true_and,if_pos hy,Dec.run,Aft]
      · have hn:¬ (low≤v.2 + add∧v.2 + add≤high):=fun h=>c2 h.2
        simp only [decide_eq_false c2,Bool.false_eq_true,if_false,if_true,true_and,if_neg hn,Dec.run,Aft]
        exact hK _ 3 s' (by decide)
  · dsimp only
    simp only [check_ok,e4 _ _ he]
    rw [cond_t (b:=!false) rfl]
    cases decide (IntKind.i64.wrap (0 + add)≥low)
    · exact hK _ e s' he
    · exact hK _ e s' he
end
end Go.Proofs.Ytipdidpalcmlhaa.Tx
namespace Go.Proofs.Ytipdidpalcmlhaa.Dc
open Go Ev Bm Co
section
variable {fl:Nat} (hfl:9223372036854775808≤fl) {kx:Int} {code:List Int} {n:Nat} (hc:Cd code n)
include hfl hc
theorem id_loop {β:Type} {base:Int} {Q:Nat} (hQ:Q≤10) (h0:0≤base) (h1:base + 2 ^ Q - 1≤(n:Int)) {k:Int→Dec β} {F:(Int ⊕ β)×S→Option Ans} {ret b}
    (hb:∀ (p:Int) (s:S),2 ^ Q≤p→p < 2 ^ Q + 2 ^ Q→St kx code n s→b ((Q:Int),p,kx,s.x.lo,s.x.hi,((4 + s.k:Nat):Int),win (strm code) s.k,byd code s.k,false,true,s.x.st,code) = F ((k p).run kx code s))
    (hret:∀ s:S,ret (0,6,kx,s.x.lo,s.x.hi,((4 + s.k:Nat):Int),win (strm code) s.k,byd code s.k,true,true,s.x.st,code) = F (.inl 6,⟨false,s.x,s.k⟩)):
    ∀ (l i:Nat) (p:Int) (s:S) (m:Nat),i + l = Q→2 ^ i≤p→p < 2 ^ i + 2 ^ i→St kx code n s→l < m→iter (S_number_GetId_452_0 fl) m (base,(Q:Int),p,(Q:Int),(i:Int),kx,s.x.lo,s.x.hi,((4 + s.k:Nat):Int),win (strm code) s.k,byd code s.k,false,true,s.x.st,code) (ret,b) = F ((idD base k l p).run kx code s)
  | 0,i,p,s,m,hil,hp0,hp1,hs,hm=>by
    obtain ⟨m,rfl⟩:∃ j,m = j + 1:=⟨m - 1,by omega⟩
    have:i = Q:=by omega
    subst this
    simp only [iter,S_number_GetId_452_0,Sg_number_GetId_452_0]
    rw [dec_f (by omega),hb p s hp0 hp1 hs]
    rfl
  | l + 1,i,p,s,m,hil,hp0,hp1,hs,hm=>by
    obtain ⟨m,rfl⟩:∃ j,m = j + 1:=⟨m - 1,by omega⟩
    have hn:=hc.n
    have hk:=hs.k
    have hl:=hc.l
    have e:(2:Int) ^ (i + 1) = 2 ^ i + 2 ^ i:=by rw [Int.pow_succ]; omega
    have hle:(2:Int) ^ (i + 1)≤2 ^ Q:=by
      have:=Nat.pow_le_pow_right (n:=2) (by omega) (show i + 1≤Q by omega)
      exact_mod_cast this
    have hpp:(0:Int) < 2 ^ i:=Int.pow_pos (by omega)
    simp only [iter,S_number_GetId_452_0,Sg_number_GetId_452_0]
    rw [dec_t (by omega),w6 (x:=base + p),w6 (x:=base + p - 1),Co.get_okB hfl hs.x (by omega) (by rw [hs.sl]; omega) hc.b hl (by omega)]
    simp only [idD,Dec.run]
    cases eg:Co.get kx code s.x s.k (base + p - 1) with
    | none=>
      dsimp only
      rw [cond_t (b:=(6:Int) != 0) rfl]
      exact hret s
    | some v=>
      obtain ⟨b',x',k'⟩:=v
      obtain ⟨g1,g2,g3,g4⟩:=get_some hs.x (by omega) (by rw [hs.sl]; omega) eg
      have hs':St kx code n ⟨true,x',k'⟩:=⟨rfl,g2,by rw [g3]; exact hs.sl,g4⟩
      dsimp only
      rw [cond_f (b:=(0:Int) != 0) rfl,w6 (x:=2 * p),w6 (x:=2 * p + b'),w6 (x:=(i:Int) + 1)]
      exact id_loop hQ h0 h1 hb hret l (i + 1) (2 * p + b') ⟨true,x',k'⟩ m (by omega) (by omega) (by omega) hs' (by omega)
theorem GetId_ok {base:Int} {Q:Nat} (hQ:Q≤10) (h0:0≤base) (h1:base + 2 ^ Q - 1≤(n:Int)) {s:S} (hs:St kx code n s) {K:Int×Int×Int×Int×Int×Int×Int×Int×Bool×Bool×List Int×List Int→Option Ans}:
    F_number_GetId_452 fl base (Q:Int) kx s.x.lo s.x.hi ((4 + s.k:Nat):Int) (win (strm code) s.k) (byd code s.k) false true s.x.st code K
    = Aft (fun id s'=>K (id,0,kx,s'.x.lo,s'.x.hi,((4 + s'.k:Nat):Int),win (strm code) s'.k,byd code s'.k,!s'.ok,true,s'.x.st,code)) (fun e s'=>K (0,e,kx,s'.x.lo,s'.x.hi,((4 + s'.k:Nat):Int),win (strm code) s'.k,byd code s'.k,!s'.ok,true,s'.x.st,code)) ((idD base (fun p=>.ret (p - ((2 ^ Q:Nat):Int))) Q 1).run kx code s):=by
  have hn:=hc.n
  have hsl:=hs.sl
  have hp:0 < 2 ^ Q:=Nat.pow_pos (by omega)
  have hp2:2 ^ Q≤2 ^ 10:=Nat.pow_le_pow_right (by omega) hQ
  have e2:(2:Int) ^ Q = ((2 ^ Q:Nat):Int):=by rw [Int.natCast_pow]; rfl
  have es:ishl .i64 1 (Q:Int) = ((2 ^ Q:Nat):Int):=by rw [ishl_one (by omega) (by omega),Int.toNat_natCast,e2]
  have h1':=h1
  rw [e2] at h1'
  unfold F_number_GetId_452 Fg_number_GetId_452
  rw [Co.get_bad]
  dsimp only
  rw [cond_f (b:=(2:Int)==7) rfl,dec_f (by omega),dec_f (by omega),dec_f (by omega)]
  unfold F_coder_Decoder_Model_40a Fg_coder_Decoder_Model_40a F_coder_Decoder_none_40a
  dsimp only
  rw [cond_f (b:=!true) rfl,clone_ok (by omega)]
  dsimp only
  unfold F_number_fits
  rw [es,w6 (x:=((2 ^ Q:Nat):Int) - 1),dec_f (by omega),w6 (x:=(s.x.st.length:Int) - _),dec_f (by omega)]
  dsimp only
  rw [cond_f (b:=(0:Int) != 0) rfl]
  unfold L_number_GetId_452_0
  refine id_loop hfl hc hQ h0 h1 (k:=fun p=>.ret (p - ((2 ^ Q:Nat):Int))) (F:=Aft (fun id s'=>K (id,0,kx,s'.x.lo,s'.x.hi,((4 + s'.k:Nat):Int),win (strm code) s'.k,byd code s'.k,!s'.ok,true,s'.x.st,code)) (fun e s'=>K (0,e,kx,s'.x.lo,s'.x.hi,((4 + s'.k:Nat):Int),win (strm code) s'.k,byd code s'.k,!s'.ok,true,s'.x.st,code))) (fun p s hp0 hp1 hs=> ?_) (fun s=> ?_) Q 0 1 s fl (by omega) (by decide) (by decide) hs (by omega)
  · dsimp only
    rw [e2] at hp0 hp1
    rw [dec_f (by omega),es,wrap64 (by omega) (by omega)]
    simp only [Dec.run,Aft,hs.ok,Bool.not_true]
  · rfl
end
end Go.Proofs.Ytipdidpalcmlhaa.Dc
set_option maxHeartbeats 2000000
namespace Go.Proofs.Ytipdidpalcmlhaa.Tx
open Go Ev Bm Co Gen Dc Rf
theorem gRes_aft {kx:Int} {code:List Int} {w h:Int} {K}:gRes kx code w h K = Aft (fun p s'=>K (w,h,p,0,kx,s'.x.lo,s'.x.hi,((4 + s'.k:Nat):Int),win (strm code) s'.k,byd code s'.k,!s'.ok,true,s'.x.st,code)) (fun e s'=>K (0,0,[],e,kx,s'.x.lo,s'.x.hi,((4 + s'.k:Nat):Int),win (strm code) s'.k,byd code s'.k,!s'.ok,true,s'.x.st,code)):=by
  funext r
  obtain ⟨r,s⟩:=r
  cases r <;> rfl
theorem shape_fit {w h:Int} (w0:1≤w) (w1:w≤40) (h0:1≤h) (h1:h≤40):fit w h = true:=by
  have:=mul_le (w:=w) (h:=h) (a:=40) (b:=40) (by omega) w1 (by omega) h1
  exact fit_iff.2 ⟨by omega,by omega,by omega,by omega,by omega⟩
section
variable {fl:Nat} (hfl:9223372036854775808≤fl) {kx:Int} {code:List Int} {N:Nat} (hc:Cd code N)
variable {o0 o1 o3 o4 o5 o7 n:Int} {rf tu:Bool} {symbols:List Bmp} {l:List Item} (T:TE o0 o1 o3 o4 o5 o7 symbols) (hN:(N:Int) = tsz o7 rf symbols)
include hfl hc T hN
theorem bitmap_ok (hrf:rf = true) {id S' T':Int} (i0:0≤id) (i1:id < (symbols.length:Int)) {s:S} (hs:St kx code N s) {k0 k1} {R:Int→S→Option Ans}
    (hK0:∀ dx dy e (s:S),e ≠ 0→k0 (o0,o1,tu,o3,o4,o5,rf,o7,(tk symbols:Int),lik symbols,tsz o7 rf symbols,symbols,n,e,id,S',T',true,dx,dy,0,0,kx,s.x.lo,s.x.hi,((4 + s.k:Nat):Int),win (strm code) s.k,byd code s.k,!s.ok,true,l,[],s.x.st,code) = R e s)
    (hK1:∀ dx dy w h p e (s:S),e ≠ 0→k1 (o0,o1,tu,o3,o4,o5,rf,o7,(tk symbols:Int),lik symbols,tsz o7 rf symbols,symbols,n,e,id,S',T',true,dx,dy,w,h,p,kx,s.x.lo,s.x.hi,((4 + s.k:Nat):Int),win (strm code) s.k,byd code s.k,!s.ok,true,l,[],s.x.st,code) = R e s):
    F_text_reader_bitmap_032 fl o0 o1 tu o3 o4 o5 rf o7 (tk symbols:Int) (lik symbols) (tsz o7 rf symbols) symbols n 0 id S' T' false 0 0 0 0 kx s.x.lo s.x.hi ((4 + s.k:Nat):Int) (win (strm code) s.k) (byd code s.k) (!s.ok) true l [] s.x.st code k0 k1
    = Aft (fun (i:Item) s'=>k1 (o0,o1,tu,o3,o4,o5,rf,o7,(tk symbols:Int),lik symbols,tsz o7 rf symbols,symbols,n,0,i.1,i.2.1,i.2.2.1,i.2.2.2.1,i.2.2.2.2.1,i.2.2.2.2.2.1,i.2.2.2.2.2.2.1,i.2.2.2.2.2.2.2.1,i.2.2.2.2.2.2.2.2,kx,s'.x.lo,s'.x.hi,((4 + s'.k:Nat):Int),win (strm code) s'.k,byd code s'.k,!s'.ok,true,l,[],s'.x.st,code)) R ((refD o7 (lik symbols) (bmAt symbols id) id S' T').run kx code s):=by
  obtain ⟨s0,s1,s2,s3,s4⟩:=lik_sz o7 rf symbols T.n
  have hs4:=s4 hrf
  obtain ⟨pb,b0,b1,b2,b3⟩:=T.bm i0 i1
  obtain ⟨_,_,_,_,_,_,_,kk,tt⟩:=ov_iff.1 T.ov
  unfold F_text_reader_bitmap_032 Fg_text_reader_bitmap_032 refD
  rw [dec_t ⟨i0,i1⟩]
  rw [show symbols.getD id.toNat (0,0,[]) = bmAt symbols id from rfl]
  generalize bmAt symbols id = B at *
  refine Eq.trans (within_ok hfl hc (by omega) (by omega) (by omega) hs (R:=R) (fun v e s he=> ?_)) ?_
  · dsimp only
    rw [within_err he (by omega)]
    dsimp only
    rw [within_err he (by omega)]
    dsimp only
    rw [within_err he (by omega)]
    dsimp only
    rw [cond_t (by simp [he])]
    exact hK0 _ _ e s he
  rw [fin_bind]
  refine fin_congr (withinD_all (by omega) (by omega)) hs (fun w sw hw hsw=> ?_) (fun e s he=>rfl)
  dsimp only
  refine Eq.trans (within_ok hfl hc (by omega) (by omega) (by omega) hsw (R:=R) (fun v e s he=> ?_)) ?_
  · dsimp only
    rw [within_err he (by omega)]
    dsimp only
    rw [within_err he (by omega)]
    dsimp only
    rw [cond_t (by simp [he])]
    exact hK0 _ _ e s he
  rw [fin_bind]
  refine fin_congr (withinD_all (by omega) (by omega)) hsw (fun h sh hh hsh=> ?_) (fun e s he=>rfl)
  dsimp only
  refine Eq.trans (within_ok hfl hc (by omega) (by omega) (by omega) hsh (R:=R) (fun v e s he=> ?_)) ?_
  · dsimp only
    rw [within_err he (by omega)]
    dsimp only
    rw [cond_t (by simp [he])]
    exact hK0 _ _ e s he
  rw [fin_bind]
  refine fin_congr (withinD_all (by omega) (by omega)) hsh (fun dx sx hdx hsx=> ?_) (fun e s he=>rfl)
  dsimp only
  refine Eq.trans (within_ok hfl hc (by omega) (by omega) (by omega) hsx (R:=R) (fun v e s he=> ?_)) ?_
  · dsimp only
    rw [cond_t (by simp [he])]
    exact hK0 _ _ e s he
  rw [fin_bind]
  refine fin_congr (withinD_all (by omega) (by omega)) hsx (fun dy sy hdy hsy=> ?_) (fun e s he=>rfl)
  dsimp only
  have hf:=shape_fit hw.1 hw.2 hh.1 hh.2
  have hr:∀ p,Pix w h p→RR o7 dx dy o5 w h p B.1 B.2.1 B.2.2:=fun p hp=>⟨tt,kk,hdx,hdy,hp,pb⟩
  have hg:∀ K,F_refine_Get_fd3 fl (lik symbols) o7 dx dy false o5 w h B.1 B.2.1 B.2.2 kx sy.x.lo sy.x.hi ((4 + sy.k:Nat):Int) (win (strm code) sy.k) (byd code sy.k) false true sy.x.st code K = gRes kx code w h K ((regD o7 dx dy (lik symbols) w h B.1 B.2.1 B.2.2).run kx code sy):=fun K=>get_ok3 hfl hc hr hf (by omega) (by omega) hsy
  rw [cond_f (b:=(0:Int) != 0) rfl]
  unfold F_text_layout_options
  simp only [hsy.ok,Bool.not_true,hg,both_same,gRes_aft]
  rw [fin_bind]
  refine fin_congr (regD_all pb.bit (by omega) (by omega) hf) hsy (fun p sp hp hsp=> ?_) (fun e s he=> ?_)
  · rw [fine_ok]
    rfl
  · rw [fine_ok]
    exact hK1 _ _ _ _ _ e s he
omit hfl hc in
theorem refD_all (hrf:rf = true) {id S' T':Int} (i0:0≤id) (i1:id < (symbols.length:Int)):(refD o7 (lik symbols) (bmAt symbols id) id S' T').All N (fun _=>True):=by
  obtain ⟨s0,s1,s2,s3,s4⟩:=lik_sz o7 rf symbols T.n
  have hs4:=s4 hrf
  obtain ⟨pb,b0,b1,b2,b3⟩:=T.bm i0 i1
  unfold refD
  refine Dec.All.bind (fun w hw=> ?_) _ (withinD_all (by omega) (by omega))
  refine Dec.All.bind (fun h hh=> ?_) _ (withinD_all (by omega) (by omega))
  refine Dec.All.bind (fun dx _=> ?_) _ (withinD_all (by omega) (by omega))
  refine Dec.All.bind (fun dy _=> ?_) _ (withinD_all (by omega) (by omega))
  refine Dec.All.bind (P:=Pix w h) (fun p _=> ?_) _ (regD_all pb.bit (by omega) (by omega) (shape_fit hw.1 hw.2 hh.1 hh.2))
  exact trivial
theorem item_ok {st S':Int} (hst: -1000000000≤st∧st≤1000000000) {s:S} (hs:St kx code N s) (hl:l.length≤100000) {k0 k1} {R:Int→S→Option Ans}
    (hK0:∀ e (s:S),e ≠ 0→k0 (o0,o1,tu,o3,o4,o5,rf,o7,(tk symbols:Int),lik symbols,tsz o7 rf symbols,symbols,n,e,kx,s.x.lo,s.x.hi,((4 + s.k:Nat):Int),win (strm code) s.k,byd code s.k,!s.ok,true,l,s.x.st,code) = R e s):
    F_text_reader_item_457 fl st S' o0 o1 tu o3 o4 o5 rf o7 (tk symbols:Int) (lik symbols) (tsz o7 rf symbols) symbols n 0 kx s.x.lo s.x.hi ((4 + s.k:Nat):Int) (win (strm code) s.k) (byd code s.k) (!s.ok) true l s.x.st code k0 k1
    = Aft (fun (i:Item) s'=>k1 (o0,o1,tu,o3,o4,o5,rf,o7,(tk symbols:Int),lik symbols,tsz o7 rf symbols,symbols,n,0,kx,s'.x.lo,s'.x.hi,((4 + s'.k:Nat):Int),win (strm code) s'.k,byd code s'.k,!s'.ok,true,l++ [i],s'.x.st,code)) R ((itemD o0 o7 rf symbols st S').run kx code s):=by
  obtain ⟨s0,s1,s2,s3,s4⟩:=lik_sz o7 rf symbols T.n
  obtain ⟨q1,_⟩:=ov_iff.1 T.ov
  obtain ⟨ka,kb,kc,kd⟩:=tk_ok T.n
  have hcl:=hc.l
  have e2:(2:Int) ^ tk symbols = ((2 ^ tk symbols:Nat):Int):=by rw [Int.natCast_pow]; rfl
  have hmul: -8000000000≤st * o0∧st * o0≤8000000000:=by rcases q1 with rfl | rfl | rfl | rfl <;> omega
  have hlen:∀ L:List Item,L.length≤100000→((L.length + (1:Nat)) * (88:Nat)≤(140737488355328:Nat)∧L.length + (1:Nat)≤(140737488355328:Nat)):=fun L h=>by omega
  unfold F_text_reader_item_457 Fg_text_reader_item_457 itemD
  simp only [both_same]
  by_cases h1:o0 > 1
  · rw [dec_t h1,if_pos h1,w6 (x:=o0 - 1)]
    refine Eq.trans (within_ok hfl hc (by omega) (by omega) (by omega) hs (R:=R) (fun v e s he=> ?_)) ?_
    · try dsimp only
      rw [near_ok (by omega) (by omega)]
      try dsimp only
      rw [check_e he]
      try dsimp only
      rw [cond_t (b:=!false) rfl]
      exact hK0 e s he
    rw [fin_bind]
    refine fin_congr (withinD_all (by omega) (by omega)) hs (fun d sd hd hsd=> ?_) (fun e s he=>rfl)
    try dsimp only
    rw [w6 (x:=st * o0),w6 (x:=st * o0 + d),near_ok (by omega) (by omega)]
    try dsimp only
    by_cases hnr:near (st * o0 + d) 100000
    rotate_left
    · rw [decide_eq_false hnr,check_0]
      try dsimp only
      rw [cond_t (b:=!false) rfl,if_neg hnr]
      exact hK0 3 sd (by decide)
    rw [decide_eq_true hnr,check_1,if_pos hnr]
    try dsimp only
    rw [cond_f (b:=!true) rfl,hsd.ok,Bool.not_true]
    refine Eq.trans (GetId_ok hfl hc (Q:=tk symbols) (by omega) (by omega) (by rw [e2]; unfold lik at *; omega) hsd) ?_
    rw [fin_bind]
    refine fin_congr (idD_all (P:=fun id:Int=>0≤id) (by omega) (by rw [e2]; unfold lik at *; omega) (fun p hp _=>by show (0:Int)≤p - ((2 ^ tk symbols:Nat):Int); rw [← e2]; omega) _ 0 1 (by omega) (by decide) (by decide)) hsd (fun id sq hid hsq=> ?_) (fun e s he=> ?_)
    rotate_left
    · try dsimp only
      rw [fine_e he]
      try dsimp only
      rw [cond_t (b:=!false) rfl]
      exact hK0 e s he
    try dsimp only
    rw [fine_0]
    try dsimp only
    rw [cond_f (b:=!true) rfl]
    by_cases hlt:id < (symbols.length:Int)
    rotate_left
    · rw [decide_eq_false hlt,check_0]
      try dsimp only
      rw [cond_t (b:=!false) rfl,if_neg hlt]
      exact hK0 3 sq (by decide)
    rw [decide_eq_true hlt,check_1]
    try dsimp only
    rw [cond_f (b:=!true) rfl,if_pos hlt]
    cases rf with
    | false=>
      rw [cond_false,if_neg (by simp),cond_t (b:=(0:Int)==0) rfl,dec_t (hlen l hl)]
      rfl
    | true=>
      have hs4:=s4 rfl
      rw [cond_true,if_pos rfl,hsq.ok,Bool.not_true,Co.get_okB hfl hsq.x (by omega) (by rw [hsq.sl]; omega) hc.b hcl (by have:=hsq.k; omega)]
      simp only [Dec.run]
      cases eg:Co.get kx code sq.x sq.k 384 with
      | none=>
        try dsimp only
        refine Eq.trans (fine_e (s:=⟨false,sq.x,sq.k⟩) (by decide)) ?_
        try dsimp only
        rw [cond_t (b:=!false) rfl]
        exact hK0 6 ⟨false,sq.x,sq.k⟩ (by decide)
      | some v=>
        obtain ⟨b',x',k'⟩:=v
        obtain ⟨g1,g2,g3,g4⟩:=get_some hsq.x (by omega) (by rw [hsq.sl]; omega) eg
        have hs3:Dc.St kx code N ⟨true,x',k'⟩:=⟨rfl,g2,by rw [g3]; exact hsq.sl,g4⟩
        try dsimp only
        refine Eq.trans (fine_0 (s:=⟨true,x',k'⟩)) ?_
        try dsimp only
        rw [cond_f (b:=!true) rfl]
        rcases g1 with rfl | rfl
        · rw [cond_f (b:=(0:Int)==1) rfl,if_neg (by decide),cond_t (b:=(0:Int)==0) rfl,dec_t (hlen l hl)]
          rfl
        · rw [cond_t (b:=(1:Int)==1) rfl,if_pos rfl]
          refine Eq.trans (bitmap_ok hfl hc T hN rfl hid hlt hs3 (R:=R) (fun dx dy e s he=> ?_) (fun dx dy w h p e s he=> ?_)) ?_
          · try dsimp only
            rw [cond_f (by simp [he])]
            exact hK0 e s he
          · try dsimp only
            rw [cond_f (by simp [he])]
            exact hK0 e s he
          refine fin_congr (refD_all T hN rfl hid hlt) hs3 (fun i s5 _ hs5=> ?_) (fun e s he=>rfl)
          try dsimp only
          rw [cond_t (b:=(0:Int)==0) rfl,dec_t (hlen l hl)]
  · rw [dec_f h1,if_neg h1,w6 (x:=st * o0),near_ok (by omega) (by omega)]
    try dsimp only
    simp only [Dec.bind]
    rw [Int.add_zero]
    by_cases hnr:near (st * o0) 100000
    rotate_left
    · rw [decide_eq_false hnr,check_0]
      try dsimp only
      rw [cond_t (b:=!false) rfl,if_neg hnr]
      exact hK0 3 s (by decide)
    rw [decide_eq_true hnr,check_1,if_pos hnr]
    try dsimp only
    rw [cond_f (b:=!true) rfl,hs.ok,Bool.not_true]
    refine Eq.trans (GetId_ok hfl hc (Q:=tk symbols) (by omega) (by omega) (by rw [e2]; unfold lik at *; omega) hs) ?_
    rw [fin_bind]
    refine fin_congr (idD_all (P:=fun id:Int=>0≤id) (by omega) (by rw [e2]; unfold lik at *; omega) (fun p hp _=>by show (0:Int)≤p - ((2 ^ tk symbols:Nat):Int); rw [← e2]; omega) _ 0 1 (by omega) (by decide) (by decide)) hs (fun id sq hid hsq=> ?_) (fun e s he=> ?_)
    rotate_left
    · try dsimp only
      rw [fine_e he]
      try dsimp only
      rw [cond_t (b:=!false) rfl]
      exact hK0 e s he
    try dsimp only
    rw [fine_0]
    try dsimp only
    rw [cond_f (b:=!true) rfl]
    by_cases hlt:id < (symbols.length:Int)
    rotate_left
    · rw [decide_eq_false hlt,check_0]
      try dsimp only
      rw [cond_t (b:=!false) rfl,if_neg hlt]
      exact hK0 3 sq (by decide)
    rw [decide_eq_true hlt,check_1]
    try dsimp only
    rw [cond_f (b:=!true) rfl,if_pos hlt]
    cases rf with
    | false=>
      rw [cond_false,if_neg (by simp),cond_t (b:=(0:Int)==0) rfl,dec_t (hlen l hl)]
      rfl
    | true=>
      have hs4:=s4 rfl
      rw [cond_true,if_pos rfl,hsq.ok,Bool.not_true,Co.get_okB hfl hsq.x (by omega) (by rw [hsq.sl]; omega) hc.b hcl (by have:=hsq.k; omega)]
      simp only [Dec.run]
      cases eg:Co.get kx code sq.x sq.k 384 with
      | none=>
        try dsimp only
        refine Eq.trans (fine_e (s:=⟨false,sq.x,sq.k⟩) (by decide)) ?_
        try dsimp only
        rw [cond_t (b:=!false) rfl]
        exact hK0 6 ⟨false,sq.x,sq.k⟩ (by decide)
      | some v=>
        obtain ⟨b',x',k'⟩:=v
        obtain ⟨g1,g2,g3,g4⟩:=get_some hsq.x (by omega) (by rw [hsq.sl]; omega) eg
        have hs3:Dc.St kx code N ⟨true,x',k'⟩:=⟨rfl,g2,by rw [g3]; exact hsq.sl,g4⟩
        try dsimp only
        refine Eq.trans (fine_0 (s:=⟨true,x',k'⟩)) ?_
        try dsimp only
        rw [cond_f (b:=!true) rfl]
        rcases g1 with rfl | rfl
        · rw [cond_f (b:=(0:Int)==1) rfl,if_neg (by decide),cond_t (b:=(0:Int)==0) rfl,dec_t (hlen l hl)]
          rfl
        · rw [cond_t (b:=(1:Int)==1) rfl,if_pos rfl]
          refine Eq.trans (bitmap_ok hfl hc T hN rfl hid hlt hs3 (R:=R) (fun dx dy e s he=> ?_) (fun dx dy w h p e s he=> ?_)) ?_
          · try dsimp only
            rw [cond_f (by simp [he])]
            exact hK0 e s he
          · try dsimp only
            rw [cond_f (by simp [he])]
            exact hK0 e s he
          refine fin_congr (refD_all T hN rfl hid hlt) hs3 (fun i s5 _ hs5=> ?_) (fun e s he=>rfl)
          try dsimp only
          rw [cond_t (b:=(0:Int)==0) rfl,dec_t (hlen l hl)]
end
end Go.Proofs.Ytipdidpalcmlhaa.Tx
set_option maxHeartbeats 2000000
namespace Go.Proofs.Ytipdidpalcmlhaa.Tx
open Go Ev Bm Co Gen Dc Rf
def nextD (o0 o3 o7:Int) (rf:Bool) (symbols:List Bmp) (n st:Int) (f:Nat) (s:Int) (l:List Item):Dec (List Item):=
  (numD 96).bind fun v=>if v.1 = true then .ret l else if (l.length:Int) < n∧near (s + (v.2 + o3)) 100000 then lineD o0 o3 o7 rf symbols n st f (s + (v.2 + o3)) l else .bad 3
theorem line_next (o0 o3 o7:Int) (rf:Bool) (symbols:List Bmp) (n st:Int) (f:Nat) (s:Int) (l:List Item):
    lineD o0 o3 o7 rf symbols n st (f + 1) s l = (itemD o0 o7 rf symbols st s).bind fun i=>nextD o0 o3 o7 rf symbols n st f s (l++ [i]):=rfl
section
variable {N:Nat} {o0 o1 o3 o4 o5 o7 n:Int} {rf tu:Bool} {symbols:List Bmp} (T:TE o0 o1 o3 o4 o5 o7 symbols) (hN:(N:Int) = tsz o7 rf symbols)
include T hN
theorem itemD_all {st s:Int}:(itemD o0 o7 rf symbols st s).All N (fun _=>True):=by
  obtain ⟨s0,s1,s2,s3,s4⟩:=lik_sz o7 rf symbols T.n
  obtain ⟨q1,_⟩:=ov_iff.1 T.ov
  obtain ⟨ka,kb,kc,kd⟩:=tk_ok T.n
  have e2:(2:Int) ^ tk symbols = ((2 ^ tk symbols:Nat):Int):=by rw [Int.natCast_pow]; rfl
  have h1:(if o0 > 1 then withinD 144 0 0 (o0 - 1) else .ret 0:Dec Int).All N (fun _=>True):=by
    split
    · exact Dec.All.mono (fun _ _=>trivial) _ (withinD_all (by omega) (by omega))
    · exact trivial
  unfold itemD
  refine Dec.All.bind (fun d _=> ?_) _ h1
  split
  rotate_left
  · rfl
  refine Dec.All.bind (fun id hid=> ?_) _ (idD_all (P:=fun id:Int=>0≤id) (by omega) (by rw [e2]; unfold lik at *; omega) (fun p hp _=>by show (0:Int)≤p - ((2 ^ tk symbols:Nat):Int); rw [← e2]; omega) _ 0 1 (by omega) (by decide) (by decide))
  split
  rotate_left
  · rfl
  rename_i hlt
  cases rf with
  | false=>exact trivial
  | true=>
    rw [if_pos rfl]
    have:=s4 rfl
    refine ⟨⟨by omega,by omega⟩,fun b _=> ?_⟩
    dsimp only
    split
    · exact refD_all T hN rfl hid hlt
    · exact trivial
theorem lineD_all {st:Int} (hn:n≤300):∀ (f:Nat) (s:Int) (l:List Item),(l.length:Int) < n→(lineD o0 o3 o7 rf symbols n st f s l).All N (fun l'=>l.length < l'.length∧l'.length≤301)
  | 0,s,l,hl=>rfl
  | f + 1,s,l,hl=>by
    obtain ⟨s0,s1,s2,s3,s4⟩:=lik_sz o7 rf symbols T.n
    rw [line_next]
    refine Dec.All.bind (fun i _=> ?_) _ (itemD_all T hN)
    unfold nextD
    refine Dec.All.bind (fun v _=> ?_) _ (numD_all (by omega) (by omega))
    have hla:(l++ [i]).length = l.length + 1:=by simp
    try dsimp only
    split
    · exact ⟨by omega,by omega⟩
    · split
      · rename_i h
        exact Dec.All.mono (fun l' h'=>⟨by omega,h'.2⟩) _ (lineD_all hn f _ (l++ [i]) h.1)
      · rfl
end
section
variable {fl:Nat} (hfl:9223372036854775808≤fl) {kx:Int} {code:List Int} {N:Nat} (hc:Cd code N)
variable {o0 o1 o3 o4 o5 o7 n:Int} {rf tu:Bool} {symbols:List Bmp} (T:TE o0 o1 o3 o4 o5 o7 symbols) (hN:(N:Int) = tsz o7 rf symbols) (hn:n≤300)
omit hc in
theorem strip_stop {st S' e:Int} (he:e ≠ 0) {s:S} {l:List Item} {ret b} {m:Nat} (hm:0 < m):iter (S_text_reader_strip_457_0 fl) m (st,S',o0,o1,tu,o3,o4,o5,rf,o7,(tk symbols:Int),lik symbols,tsz o7 rf symbols,symbols,n,e,kx,s.x.lo,s.x.hi,((4 + s.k:Nat):Int),win (strm code) s.k,byd code s.k,!s.ok,true,l,s.x.st,code) (ret,b) = b (o0,o1,tu,o3,o4,o5,rf,o7,(tk symbols:Int),lik symbols,tsz o7 rf symbols,symbols,n,e,kx,s.x.lo,s.x.hi,((4 + s.k:Nat):Int),win (strm code) s.k,byd code s.k,!s.ok,true,l,s.x.st,code):=by
  obtain ⟨m,rfl⟩:∃ j,m = j + 1:=⟨m - 1,by omega⟩
  simp only [iter,S_text_reader_strip_457_0,Sg_text_reader_strip_457_0]
  rw [cond_f (by simp [he])]
include hfl hc T hN hn
theorem next_loop {st:Int} (hst: -1000000000≤st∧st≤1000000000) {K:_→Option Ans} {R:Int→S→Option Ans} {ret b} (hret:∀ e (s:S) (l:List Item),ret (o0,o1,tu,o3,o4,o5,rf,o7,(tk symbols:Int),lik symbols,tsz o7 rf symbols,symbols,n,e,kx,s.x.lo,s.x.hi,((4 + s.k:Nat):Int),win (strm code) s.k,byd code s.k,!s.ok,true,l,s.x.st,code) = K (o0,o1,tu,o3,o4,o5,rf,o7,(tk symbols:Int),lik symbols,tsz o7 rf symbols,symbols,n,e,kx,s.x.lo,s.x.hi,((4 + s.k:Nat):Int),win (strm code) s.k,byd code s.k,!s.ok,true,l,s.x.st,code)) (hbb:∀ e (s:S) (l:List Item),b (o0,o1,tu,o3,o4,o5,rf,o7,(tk symbols:Int),lik symbols,tsz o7 rf symbols,symbols,n,e,kx,s.x.lo,s.x.hi,((4 + s.k:Nat):Int),win (strm code) s.k,byd code s.k,!s.ok,true,l,s.x.st,code) = K (o0,o1,tu,o3,o4,o5,rf,o7,(tk symbols:Int),lik symbols,tsz o7 rf symbols,symbols,n,e,kx,s.x.lo,s.x.hi,((4 + s.k:Nat):Int),win (strm code) s.k,byd code s.k,!s.ok,true,l,s.x.st,code)) (hK:∀ e (s:S) (l:List Item),e ≠ 0→K (o0,o1,tu,o3,o4,o5,rf,o7,(tk symbols:Int),lik symbols,tsz o7 rf symbols,symbols,n,e,kx,s.x.lo,s.x.hi,((4 + s.k:Nat):Int),win (strm code) s.k,byd code s.k,!s.ok,true,l,s.x.st,code) = R e s):
    ∀ (f:Nat) (S':Int) (l:List Item) (s:S) (m:Nat),301≤l.length + f→l.length≤301→near S' 100000→Dc.St kx code N s→f + 2 < m→iter (S_text_reader_strip_457_0 fl) m (st,S',o0,o1,tu,o3,o4,o5,rf,o7,(tk symbols:Int),lik symbols,tsz o7 rf symbols,symbols,n,0,kx,s.x.lo,s.x.hi,((4 + s.k:Nat):Int),win (strm code) s.k,byd code s.k,!s.ok,true,l,s.x.st,code) (ret,b) = Aft (fun l s=>K (o0,o1,tu,o3,o4,o5,rf,o7,(tk symbols:Int),lik symbols,tsz o7 rf symbols,symbols,n,0,kx,s.x.lo,s.x.hi,((4 + s.k:Nat):Int),win (strm code) s.k,byd code s.k,!s.ok,true,l,s.x.st,code)) R ((nextD o0 o3 o7 rf symbols n st f S' l).run kx code s):=by
  intro f
  induction f with
  | zero=>
    intro S' l s m hlf hl hS hs hm
    obtain ⟨m,rfl⟩:∃ j,m = j + 1:=⟨m - 1,by omega⟩
    obtain ⟨s0,s1,s2,s3,s4⟩:=lik_sz o7 rf symbols T.n
    obtain ⟨q1,_,_,g1,g2,_⟩:=ov_iff.1 T.ov
    obtain ⟨S1,S2⟩:=hS
    simp only [iter,S_text_reader_strip_457_0,Sg_text_reader_strip_457_0,both_same]
    rw [cond_t (b:=(0:Int)==0) rfl]
    refine Eq.trans (num_ok hfl hc (by omega) (by omega) hs) ?_
    unfold nextD
    rw [fin_bind]
    refine fin_congr (numD_all (by omega) (by omega)) hs (fun v sv hv hsv=> ?_) (fun e s he=> ?_)
    rotate_left
    · try dsimp only
      rw [cond_t (by simp [he])]
      exact (hret e s l).trans (hK e s l he)
    obtain ⟨v1,v2,v3⟩:=hv
    try dsimp only
    rw [cond_f (b:=(0:Int) != 0) rfl]
    cases hv1:v.1 with
    | true=>
      rw [cond_true,if_pos rfl]
      exact hret 0 sv l
    | false=>
      rw [cond_false,if_neg (by simp),w6 (x:=v.2 + o3),w6 (x:=S' + (v.2 + o3))]
      have hstop:∀ e (s:S),e ≠ 0→iter (S_text_reader_strip_457_0 fl) m (st,S' + (v.2 + o3),o0,o1,tu,o3,o4,o5,rf,o7,(tk symbols:Int),lik symbols,tsz o7 rf symbols,symbols,n,e,kx,s.x.lo,s.x.hi,((4 + s.k:Nat):Int),win (strm code) s.k,byd code s.k,!s.ok,true,l,s.x.st,code) (ret,b) = R e s:=fun e s he=>(strip_stop (fl:=fl) he (by omega)).trans ((hbb e s l).trans (hK e s l he))
      by_cases hln:(l.length:Int) < n
      rotate_left
      · rw [dec_f hln,check_0]
        try dsimp only
        rw [cond_false,if_neg (fun h=>hln h.1)]
        exact hstop 3 sv (by decide)
      rw [dec_t hln,near_ok (by omega) (by omega)]
      try dsimp only
      by_cases hnr:near (S' + (v.2 + o3)) 100000
      rotate_left
      · rw [decide_eq_false hnr,check_0]
        try dsimp only
        rw [cond_false,if_neg (fun h=>hnr h.2)]
        exact hstop 3 sv (by decide)
      rw [decide_eq_true hnr,check_1,if_pos ⟨hln,hnr⟩]
      try dsimp only
      rw [cond_true]
      omega
  | succ f ih=>
    intro S' l s m hlf hl hS hs hm
    obtain ⟨m,rfl⟩:∃ j,m = j + 1:=⟨m - 1,by omega⟩
    obtain ⟨s0,s1,s2,s3,s4⟩:=lik_sz o7 rf symbols T.n
    obtain ⟨q1,_,_,g1,g2,_⟩:=ov_iff.1 T.ov
    obtain ⟨S1,S2⟩:=hS
    simp only [iter,S_text_reader_strip_457_0,Sg_text_reader_strip_457_0,both_same]
    rw [cond_t (b:=(0:Int)==0) rfl]
    refine Eq.trans (num_ok hfl hc (by omega) (by omega) hs) ?_
    unfold nextD
    rw [fin_bind]
    refine fin_congr (numD_all (by omega) (by omega)) hs (fun v sv hv hsv=> ?_) (fun e s he=> ?_)
    rotate_left
    · try dsimp only
      rw [cond_t (by simp [he])]
      exact (hret e s l).trans (hK e s l he)
    obtain ⟨v1,v2,v3⟩:=hv
    try dsimp only
    rw [cond_f (b:=(0:Int) != 0) rfl]
    cases hv1:v.1 with
    | true=>
      rw [cond_true,if_pos rfl]
      exact hret 0 sv l
    | false=>
      rw [cond_false,if_neg (by simp),w6 (x:=v.2 + o3),w6 (x:=S' + (v.2 + o3))]
      have hstop:∀ e (s:S),e ≠ 0→iter (S_text_reader_strip_457_0 fl) m (st,S' + (v.2 + o3),o0,o1,tu,o3,o4,o5,rf,o7,(tk symbols:Int),lik symbols,tsz o7 rf symbols,symbols,n,e,kx,s.x.lo,s.x.hi,((4 + s.k:Nat):Int),win (strm code) s.k,byd code s.k,!s.ok,true,l,s.x.st,code) (ret,b) = R e s:=fun e s he=>(strip_stop (fl:=fl) he (by omega)).trans ((hbb e s l).trans (hK e s l he))
      by_cases hln:(l.length:Int) < n
      rotate_left
      · rw [dec_f hln,check_0]
        try dsimp only
        rw [cond_false,if_neg (fun h=>hln h.1)]
        exact hstop 3 sv (by decide)
      rw [dec_t hln,near_ok (by omega) (by omega)]
      try dsimp only
      by_cases hnr:near (S' + (v.2 + o3)) 100000
      rotate_left
      · rw [decide_eq_false hnr,check_0]
        try dsimp only
        rw [cond_false,if_neg (fun h=>hnr h.2)]
        exact hstop 3 sv (by decide)
      rw [decide_eq_true hnr,check_1,if_pos ⟨hln,hnr⟩]
      try dsimp only
      rw [cond_true]
      refine Eq.trans (item_ok hfl hc T hN hst hsv (by omega) (R:=R) (fun e s he=>hstop e s he)) ?_
      rw [line_next,fin_bind]
      refine fin_congr (itemD_all T hN) hsv (fun i s6 _ hs6=> ?_) (fun e s he=>rfl)
      exact ih (S' + (v.2 + o3)) (l++ [i]) s6 m (by rw [List.length_append,List.length_singleton]; omega) (by rw [List.length_append,List.length_singleton]; omega) hnr hs6 (by omega)
theorem strip_ok7 {st:Int} (hst: -1000000000≤st∧st≤1000000000) {S':Int} (hS:near S' 100000) {s:S} (hs:Dc.St kx code N s) {l:List Item} (hl:(l.length:Int) < n) {K:_→Option Ans} {R:Int→S→Option Ans} (hK:∀ e (s:S) (l:List Item),e ≠ 0→K (o0,o1,tu,o3,o4,o5,rf,o7,(tk symbols:Int),lik symbols,tsz o7 rf symbols,symbols,n,e,kx,s.x.lo,s.x.hi,((4 + s.k:Nat):Int),win (strm code) s.k,byd code s.k,!s.ok,true,l,s.x.st,code) = R e s):
    F_text_reader_strip_457 fl st S' o0 o1 tu o3 o4 o5 rf o7 (tk symbols:Int) (lik symbols) (tsz o7 rf symbols) symbols n 0 kx s.x.lo s.x.hi ((4 + s.k:Nat):Int) (win (strm code) s.k) (byd code s.k) (!s.ok) true l s.x.st code K = Aft (fun l s=>K (o0,o1,tu,o3,o4,o5,rf,o7,(tk symbols:Int),lik symbols,tsz o7 rf symbols,symbols,n,0,kx,s.x.lo,s.x.hi,((4 + s.k:Nat):Int),win (strm code) s.k,byd code s.k,!s.ok,true,l,s.x.st,code)) R ((lineD o0 o3 o7 rf symbols n st 301 S' l).run kx code s):=by
  unfold F_text_reader_strip_457 Fg_text_reader_strip_457
  refine Eq.trans (item_ok hfl hc T hN hst hs (by omega) (R:=R) (fun e s he=> ?_)) ?_
  · try dsimp only
    unfold L_text_reader_strip_457_0
    exact (strip_stop (fl:=fl) he (by omega)).trans (hK e s l he)
  rw [line_next,fin_bind]
  refine fin_congr (itemD_all T hN) hs (fun i s6 _ hs6=> ?_) (fun e s he=>rfl)
  try dsimp only
  unfold L_text_reader_strip_457_0
  exact next_loop hfl hc T hN hn hst (K:=K) (fun e s l=>rfl) (fun e s l=>rfl) hK 300 S' (l++ [i]) s6 fl (by rw [List.length_append,List.length_singleton]; omega) (by rw [List.length_append,List.length_singleton]; omega) hS hs6 (by omega)
omit hc T hN hn in
theorem text_stop {la fi e:Int} (he:e ≠ 0) {s:S} {l:List Item} {b} {m:Nat} (hm:0 < m):iter (S_text_Decode_0 fl) m (n,la,fi,o0,o1,tu,o3,o4,o5,rf,o7,o0,o1,tu,o3,o4,o5,rf,o7,(tk symbols:Int),lik symbols,tsz o7 rf symbols,symbols,n,e,kx,s.x.lo,s.x.hi,((4 + s.k:Nat):Int),win (strm code) s.k,byd code s.k,!s.ok,true,l,s.x.st,code) b = b (o0,o1,tu,o3,o4,o5,rf,o7,(tk symbols:Int),lik symbols,tsz o7 rf symbols,symbols,n,e,kx,s.x.lo,s.x.hi,((4 + s.k:Nat):Int),win (strm code) s.k,byd code s.k,!s.ok,true,l,s.x.st,code):=by
  obtain ⟨m,rfl⟩:∃ j,m = j + 1:=⟨m - 1,by omega⟩
  simp only [iter,S_text_Decode_0,Sg_text_Decode_0]
  rw [cond_f (by simp [he])]
theorem text_loop {K:_→Option Ans} {R:Int→S→Option Ans} (hK:∀ e (s:S) (l:List Item),e ≠ 0→K (o0,o1,tu,o3,o4,o5,rf,o7,(tk symbols:Int),lik symbols,tsz o7 rf symbols,symbols,n,e,kx,s.x.lo,s.x.hi,((4 + s.k:Nat):Int),win (strm code) s.k,byd code s.k,!s.ok,true,l,s.x.st,code) = R e s):
    ∀ (f:Nat) (la fi:Int) (l:List Item) (s:S) (m:Nat),301≤l.length + f→l.length≤301→ -1048576 * (l.length:Int)≤la→la≤1048576 * (l.length:Int)→near fi 100000→Dc.St kx code N s→f + 2 < m→iter (S_text_Decode_0 fl) m (n,la,fi,o0,o1,tu,o3,o4,o5,rf,o7,o0,o1,tu,o3,o4,o5,rf,o7,(tk symbols:Int),lik symbols,tsz o7 rf symbols,symbols,n,0,kx,s.x.lo,s.x.hi,((4 + s.k:Nat):Int),win (strm code) s.k,byd code s.k,!s.ok,true,l,s.x.st,code) K = Aft (fun l s=>K (o0,o1,tu,o3,o4,o5,rf,o7,(tk symbols:Int),lik symbols,tsz o7 rf symbols,symbols,n,0,kx,s.x.lo,s.x.hi,((4 + s.k:Nat):Int),win (strm code) s.k,byd code s.k,!s.ok,true,l,s.x.st,code)) R ((textD o0 o3 o7 rf symbols n f la fi l).run kx code s):=by
  intro f
  induction f with
  | zero=>
    intro la fi l s m hlf hl h1 h2 hF hs hm
    obtain ⟨m,rfl⟩:∃ j,m = j + 1:=⟨m - 1,by omega⟩
    simp only [iter,S_text_Decode_0,Sg_text_Decode_0]
    rw [cond_t (b:=(0:Int)==0) rfl,dec_f (by omega)]
    rfl
  | succ f ih=>
    intro la fi l s m hlf hl h1 h2 hF hs hm
    obtain ⟨m,rfl⟩:∃ j,m = j + 1:=⟨m - 1,by omega⟩
    obtain ⟨s0,s1,s2,s3,s4⟩:=lik_sz o7 rf symbols T.n
    obtain ⟨F1,F2⟩:=hF
    simp only [iter,S_text_Decode_0,Sg_text_Decode_0]
    rw [cond_t (b:=(0:Int)==0) rfl]
    unfold textD
    by_cases hln:(l.length:Int) < n
    rotate_left
    · rw [dec_f hln,if_neg hln]
      rfl
    rw [dec_t hln,if_pos hln]
    refine Eq.trans (num_ok hfl hc (by omega) (by omega) hs) ?_
    rw [fin_bind]
    refine fin_congr (numD_all (by omega) (by omega)) hs (fun v sv hv hsv=> ?_) (fun e s he=> ?_)
    rotate_left
    · try dsimp only
      have hstop:iter (S_text_Decode_0 fl) m (n,IntKind.i64.wrap (la + 0),fi,o0,o1,tu,o3,o4,o5,rf,o7,o0,o1,tu,o3,o4,o5,rf,o7,(tk symbols:Int),lik symbols,tsz o7 rf symbols,symbols,n,e,kx,s.x.lo,s.x.hi,((4 + s.k:Nat):Int),win (strm code) s.k,byd code s.k,!s.ok,true,l,s.x.st,code) K = R e s:=(text_stop hfl he (by omega)).trans (hK e s l he)
      rw [cond_t (b:=!false) rfl,dec_f (by omega)]
      by_cases hl0:(l.length:Int) = 0
      · rw [cond_t (by simp [hl0])]
        by_cases h8:o0 > 1
        · rw [dec_t h8,check_e he]
          try dsimp only
          rw [within_err he (by omega)]
          try dsimp only
          rw [cond_f (by simp [he])]
          exact hstop
        · rw [dec_f h8,near_ok (by omega) (by omega)]
          try dsimp only
          rw [check_e he]
          try dsimp only
          rw [within_err he (by omega)]
          try dsimp only
          rw [cond_f (by simp [he])]
          exact hstop
      · rw [cond_f (by simpa using hl0),check_e he]
        try dsimp only
        rw [within_err he (by omega)]
        try dsimp only
        rw [cond_f (by simp [he])]
        exact hstop
    obtain ⟨v1,v2,v3⟩:=hv
    try dsimp only
    rw [w6 (x:=la + v.2)]
    have good:(F_text_reader_within_b14 fl 48 fi (-100000) 100000 o0 o1 tu o3 o4 o5 rf o7 (tk symbols:Int) (lik symbols) (tsz o7 rf symbols) symbols n 0 kx sv.x.lo sv.x.hi ((4 + sv.k:Nat):Int) (win (strm code) sv.k) (byd code sv.k) (!sv.ok) true l sv.x.st code fun y=>
        bif y.2.2.2.2.2.2.2.2.2.2.2.2.2.2.1==0 then (F_text_reader_strip_457 fl (la + v.2) y.1 y.2.1 y.2.2.1 y.2.2.2.1 y.2.2.2.2.1 y.2.2.2.2.2.1 y.2.2.2.2.2.2.1 y.2.2.2.2.2.2.2.1 y.2.2.2.2.2.2.2.2.1 y.2.2.2.2.2.2.2.2.2.1 y.2.2.2.2.2.2.2.2.2.2.1 y.2.2.2.2.2.2.2.2.2.2.2.1 y.2.2.2.2.2.2.2.2.2.2.2.2.1 y.2.2.2.2.2.2.2.2.2.2.2.2.2.1 y.2.2.2.2.2.2.2.2.2.2.2.2.2.2.1 y.2.2.2.2.2.2.2.2.2.2.2.2.2.2.2.1 y.2.2.2.2.2.2.2.2.2.2.2.2.2.2.2.2.1 y.2.2.2.2.2.2.2.2.2.2.2.2.2.2.2.2.2.1 y.2.2.2.2.2.2.2.2.2.2.2.2.2.2.2.2.2.2.1 y.2.2.2.2.2.2.2.2.2.2.2.2.2.2.2.2.2.2.2.1 y.2.2.2.2.2.2.2.2.2.2.2.2.2.2.2.2.2.2.2.2.1 y.2.2.2.2.2.2.2.2.2.2.2.2.2.2.2.2.2.2.2.2.2.1 y.2.2.2.2.2.2.2.2.2.2.2.2.2.2.2.2.2.2.2.2.2.2.1 y.2.2.2.2.2.2.2.2.2.2.2.2.2.2.2.2.2.2.2.2.2.2.2.1 y.2.2.2.2.2.2.2.2.2.2.2.2.2.2.2.2.2.2.2.2.2.2.2.2.1 y.2.2.2.2.2.2.2.2.2.2.2.2.2.2.2.2.2.2.2.2.2.2.2.2.2 fun z=>iter (S_text_Decode_0 fl) m (n,la + v.2,y.1,o0,o1,tu,o3,o4,o5,rf,o7,z) K)
        else iter (S_text_Decode_0 fl) m (n,la + v.2,y.1,o0,o1,tu,o3,o4,o5,rf,o7,y.2) K)
        = Aft (fun l s=>K (o0,o1,tu,o3,o4,o5,rf,o7,(tk symbols:Int),lik symbols,tsz o7 rf symbols,symbols,n,0,kx,s.x.lo,s.x.hi,((4 + s.k:Nat):Int),win (strm code) s.k,byd code s.k,!s.ok,true,l,s.x.st,code)) R (((withinD 48 fi (-100000) 100000).bind fun fi'=>(lineD o0 o3 o7 rf symbols n (la + v.2) 301 fi' l).bind fun l'=>textD o0 o3 o7 rf symbols n f (la + v.2) fi' l').run kx code sv):=by
      refine Eq.trans (within_ok hfl hc (by omega) (by omega) (by omega) hsv (R:=R) (fun w e s he=> ?_)) ?_
      · try dsimp only
        rw [cond_f (by simp [he])]
        exact (text_stop hfl he (by omega)).trans (hK e s l he)
      rw [fin_bind]
      refine fin_congr (withinD_all (by omega) (by omega)) hsv (fun fi' sw hw hsw=> ?_) (fun e s he=>rfl)
      try dsimp only
      rw [cond_t (b:=(0:Int)==0) rfl]
      refine Eq.trans (strip_ok7 hfl hc T hN hn (by omega) ⟨hw.1,hw.2⟩ hsw hln (R:=R) (fun e s l he=>(text_stop hfl he (by omega)).trans (hK e s l he))) ?_
      rw [fin_bind]
      refine fin_congr (lineD_all T hN hn 301 fi' l hln) hsw (fun l' sl hl' hsl=> ?_) (fun e s he=>rfl)
      exact ih (la + v.2) fi' l' sl m (by omega) hl'.2 (by omega) (by omega) ⟨hw.1,hw.2⟩ hsl (by omega)
    have bad:iter (S_text_Decode_0 fl) m (n,la + v.2,fi,o0,o1,tu,o3,o4,o5,rf,o7,o0,o1,tu,o3,o4,o5,rf,o7,(tk symbols:Int),lik symbols,tsz o7 rf symbols,symbols,n,3,kx,sv.x.lo,sv.x.hi,((4 + sv.k:Nat):Int),win (strm code) sv.k,byd code sv.k,!sv.ok,true,l,sv.x.st,code) K = R 3 sv:=(text_stop hfl (by decide) (by omega)).trans (hK 3 sv l (by decide))
    cases hv1:v.1 with
    | true=>
      rw [cond_f (b:=!true) rfl,if_neg (by simp),check_0]
      try dsimp only
      rw [within_err (by decide) (by omega)]
      try dsimp only
      rw [cond_f (b:=(3:Int)==0) rfl]
      exact bad
    | false=>
    rw [cond_t (b:=!false) rfl]
    by_cases c1:v.2 > 0∨l.length = 0
    rotate_left
    · rw [dec_f (fun h=>c1 (.inl h)),cond_f (by have:¬ l.length = 0:=fun h=>c1 (.inr h); simpa using this),check_0,if_neg (fun h=>c1 h.2.1)]
      try dsimp only
      rw [within_err (by decide) (by omega)]
      try dsimp only
      rw [cond_f (b:=(3:Int)==0) rfl]
      exact bad
    have fin:∀ Q:Option Ans,(o0 > 1∨near (la + v.2) 100000→Q = Aft (fun l s=>K (o0,o1,tu,o3,o4,o5,rf,o7,(tk symbols:Int),lik symbols,tsz o7 rf symbols,symbols,n,0,kx,s.x.lo,s.x.hi,((4 + s.k:Nat):Int),win (strm code) s.k,byd code s.k,!s.ok,true,l,s.x.st,code)) R (((withinD 48 fi (-100000) 100000).bind fun fi'=>(lineD o0 o3 o7 rf symbols n (la + v.2) 301 fi' l).bind fun l'=>textD o0 o3 o7 rf symbols n f (la + v.2) fi' l').run kx code sv))→(¬ (o0 > 1∨near (la + v.2) 100000)→Q = R 3 sv)→
        Q = Aft (fun l s=>K (o0,o1,tu,o3,o4,o5,rf,o7,(tk symbols:Int),lik symbols,tsz o7 rf symbols,symbols,n,0,kx,s.x.lo,s.x.hi,((4 + s.k:Nat):Int),win (strm code) s.k,byd code s.k,!s.ok,true,l,s.x.st,code)) R ((if false = false∧(v.2 > 0∨l.length = 0)∧(o0 > 1∨near (la + v.2) 100000) then (withinD 48 fi (-100000) 100000).bind fun fi'=>(lineD o0 o3 o7 rf symbols n (la + v.2) 301 fi' l).bind fun l'=>textD o0 o3 o7 rf symbols n f (la + v.2) fi' l' else .bad 3).run kx code sv):=by
      intro Q q1 q2
      by_cases c2:o0 > 1∨near (la + v.2) 100000
      · rw [if_pos ⟨rfl,c1,c2⟩]
        exact q1 c2
      · rw [if_neg (fun h=>c2 h.2.2)]
        exact q2 c2
    refine fin _ (fun c2=> ?_) (fun c2=> ?_)
    · by_cases c3:v.2 > 0
      · rw [dec_t c3]
        by_cases h8:o0 > 1
        · rw [dec_t h8,check_1]
          exact good
        · have hnr:=c2.resolve_left h8
          rw [dec_f h8,near_ok (by omega) (by omega)]
          try dsimp only
          rw [decide_eq_true hnr,check_1]
          exact good
      · have hl0:=c1.resolve_left c3
        rw [dec_f c3,cond_t (by simp [hl0])]
        by_cases h8:o0 > 1
        · rw [dec_t h8,check_1]
          exact good
        · have hnr:=c2.resolve_left h8
          rw [dec_f h8,near_ok (by omega) (by omega)]
          try dsimp only
          rw [decide_eq_true hnr,check_1]
          exact good
    · have h8:¬ o0 > 1:=fun h=>c2 (.inl h)
      have hnr:¬ near (la + v.2) 100000:=fun h=>c2 (.inr h)
      by_cases c3:v.2 > 0
      · rw [dec_t c3,dec_f h8,near_ok (by omega) (by omega)]
        try dsimp only
        rw [decide_eq_false hnr,check_0]
        try dsimp only
        rw [within_err (by decide) (by omega)]
        try dsimp only
        rw [cond_f (b:=(3:Int)==0) rfl]
        exact bad
      · have hl0:=c1.resolve_left c3
        rw [dec_f c3,cond_t (by simp [hl0]),dec_f h8,near_ok (by omega) (by omega)]
        try dsimp only
        rw [decide_eq_false hnr,check_0]
        try dsimp only
        rw [within_err (by decide) (by omega)]
        try dsimp only
        rw [cond_f (b:=(3:Int)==0) rfl]
        exact bad
end
end Go.Proofs.Ytipdidpalcmlhaa.Tx
set_option maxHeartbeats 2000000
namespace Go.Proofs.Ytipdidpalcmlhaa.Tx
open Go Ev Bm Co Gen Dc Rf
def x0T (o7:Int) (rf:Bool) (symbols:List Bmp):Iv:=⟨List.replicate (tsz o7 rf symbols).toNat 0,0,4294967295⟩
def codeT (o0 o3 o5 o7:Int) (rf:Bool) (symbols:List Bmp) (l:List Item):List Int:=
  (run o5 (x0T o7 rf symbols) [] (textEv o0 o3 o7 rf symbols l)).2++endB (run o5 (x0T o7 rf symbols) [] (textEv o0 o3 o7 rf symbols l)).1.lo (run o5 (x0T o7 rf symbols) [] (textEv o0 o3 o7 rf symbols l)).1.hi
def encT (o0 o1 o3 o4 o5 o7:Int) (rf:Bool) (symbols:List Bmp) (l:List Item):Int×List Int:=
  if bErr o0 o1 o3 o4 o5 o7 symbols l = 0 then (if rights rf (symbols.length:Int) l = true∧asc o0 l = true then (0,codeT o0 o3 o5 o7 rf symbols l) else (2,[])) else (bErr o0 o1 o3 o4 o5 o7 symbols l,[])
def decT (o0 o1 o3 o4 o5 o7:Int) (rf:Bool) (symbols:List Bmp) (n:Int) (code:List Int):Int×List Item:=
  if bErr o0 o1 o3 o4 o5 o7 symbols [] = 0 then (if symbols.length≤60∧0≤n∧n≤300 then (match (textD o0 o3 o7 rf symbols n 301 0 0 []).run o5 code ⟨true,x0T o7 rf symbols,0⟩ with | (.inr l,_)=>(0,l) | (.inl e,_)=>(e,[])) else (2,[])) else (bErr o0 o1 o3 o4 o5 o7 symbols [],[])
theorem te_of {o0 o1 o3 o4 o5 o7:Int} {symbols:List Bmp} {l:List Item} (h:bErr o0 o1 o3 o4 o5 o7 symbols l = 0) (hn:symbols.length≤60) (hz:∀ b ∈ symbols,∀ v ∈ b.2.2,0≤v):TE o0 o1 o3 o4 o5 o7 symbols∧l.all shpI = true:=by
  unfold bErr at h
  split at h
  · rename_i h1
    split at h
    · rename_i h2
      split at h
      · rename_i h3
        exact ⟨⟨h1,hn,List.all_eq_true.1 h2,hz⟩,h3⟩
      · exact absurd h (by decide)
    · exact absurd h (by decide)
  · exact absurd h (by decide)
theorem it_of {rf:Bool} {symbols:List Bmp} {l:List Item} (h:l.all shpI = true) (hr:rights rf (symbols.length:Int) l = true) (hz:∀ i ∈ l,∀ v ∈ i.2.2.2.2.2.2.2.2,0≤v):symbols.length≤60∧l.length≤300∧∀ i ∈ l,ItOk rf symbols i:=by
  unfold rights at hr
  simp only [Bool.and_eq_true,decide_eq_true_eq,List.all_eq_true] at hr
  exact ⟨by omega,by omega,fun i hi=>⟨hr.2 i hi,List.all_eq_true.1 h i hi,hz i hi⟩⟩
theorem x0_ok {o0 o1 o3 o4 o5 o7:Int} {rf:Bool} {symbols:List Bmp} (T:TE o0 o1 o3 o4 o5 o7 symbols):vM o5 (List.replicate (tsz o7 rf symbols).toNat 0) = true∧(x0T o7 rf symbols).Ok o5∧((x0T o7 rf symbols).st.length:Int) = tsz o7 rf symbols∧(x0T o7 rf symbols).st.length≤8192:=by
  obtain ⟨s0,s1,s2,s3,s4⟩:=lik_sz o7 rf symbols T.n
  obtain ⟨_,_,_,_,_,_,_,kk,tt⟩:=ov_iff.1 T.ov
  have hv:vM o5 (List.replicate (tsz o7 rf symbols).toNat 0) = true:=vM_zeros kk (by omega)
  have hl:(x0T o7 rf symbols).st.length = (tsz o7 rf symbols).toNat:=List.length_replicate
  exact ⟨hv,ok_new hv,by rw [hl]; omega,by rw [hl]; omega⟩
section
variable {fl:Nat} (hfl:9223372036854775808≤fl) {o0 o1 o3 o4 o5 o7:Int} {rf tu:Bool} {symbols:List Bmp} {l:List Item}
include hfl
theorem cnew {kd n:Int} (hk:kd = 0∨kd = 1) (h0:0≤n) (h1:n≤8192) {K:Int×Int×List Int→Option Ans}:F_coder_New fl kd n K = K (kd,0,List.replicate n.toNat 0):=by
  unfold F_coder_New
  rcases hk with rfl | rfl
  · rw [cond_f (b:=(0:Int) != 0) rfl,dec_f (by omega),dec_f (by omega),dec_t (by refine ⟨by omega, ?_,by omega,by omega⟩; first | rfl | trivial)]
  · rw [cond_t (b:=(1:Int) != 0) rfl,cond_f (b:=(1:Int) != 1) rfl,dec_f (by omega),dec_f (by omega),dec_t (by refine ⟨by omega, ?_,by omega,by omega⟩; first | rfl | trivial)]
theorem tenc (hs:symbols.length≤1000000000000000) (hl:l.length≤1000000000000000) (hz:∀ b ∈ symbols,∀ v ∈ b.2.2,0≤v) (hzi:∀ i ∈ l,∀ v ∈ i.2.2.2.2.2.2.2.2,0≤v) {K:Int×List Int→Option Ans}:
    F_text_Encode fl o0 o1 tu o3 o4 o5 rf o7 symbols l K = K (encT o0 o1 o3 o4 o5 o7 rf symbols l):=by
  unfold F_text_Encode Fg_text_Encode encT
  rw [begun_ok hfl hs hl]
  try dsimp only
  rw [cn]
  by_cases he:bErr o0 o1 o3 o4 o5 o7 symbols l = 0
  rotate_left
  · rw [if_neg he,if_neg he]
  rw [if_pos he,if_pos he]
  have hov:ov o0 o1 o3 o4 o5 o7 = true:=by
    unfold bErr at he
    split at he
    · assumption
    · exact absurd he (by decide)
  obtain ⟨q1,_,_,_,_,_,_,kk,tt⟩:=ov_iff.1 hov
  obtain ⟨b,hb,hb2⟩:=sorted_ok (fl:=fl) hfl (o0:=o0) (o1:=o1) (o3:=o3) (o4:=o4) (o5:=o5) (o7:=o7) (tu:=tu) (rf:=rf) q1 (l:=l) hl
  rw [hb2]
  try dsimp only
  rw [right_ok hfl]
  try dsimp only
  cases hr:rights rf (symbols.length:Int) l with
  | false=>rw [cond_t (b:=!false) rfl,if_neg (fun h=>by cases h.1)]
  | true=>
  rw [cond_f (b:=!true) rfl]
  have hn60:symbols.length≤60:=by
    unfold rights at hr
    simp only [Bool.and_eq_true,decide_eq_true_eq] at hr
    omega
  obtain ⟨T,hsi⟩:=te_of he hn60 hz
  obtain ⟨_,hl3,hI⟩:=it_of hsi hr hzi
  have hba:=hb (fun i hi=>by
    obtain ⟨_,_,_,⟨t0,t1⟩⟩:=(hI i hi).num
    exact ⟨by omega,by omega⟩)
  rw [← hba]
  cases b with
  | false=>rw [cond_t (b:=!false) rfl,if_neg (fun h=>by cases h.2)]
  | true=>
  rw [cond_f (b:=!true) rfl,if_pos ⟨rfl,rfl⟩,lay_ok hn60 tt]
  try dsimp only
  obtain ⟨s0,s1,s2,s3,s4⟩:=lik_sz o7 rf symbols hn60
  obtain ⟨hv,hx,hN,hn8⟩:=x0_ok (rf:=rf) T
  rw [cnew hfl kk (by omega) (by omega)]
  try dsimp only
  rw [new_enc hfl hv]
  try dsimp only
  unfold L_text_Encode_0
  have hE:=(allE_ok T hI hN l.length (Nat.le_refl _))
  have hlo:=hx.r
  refine all_loop hfl hx hn8 T hI hl3 hN ?_ l.length 0 [] 0 0 fl (by omega) (by rw [if_pos rfl]; exact ⟨rfl,rfl,rfl⟩) (by omega)
  try dsimp only
  have hT:Evs (x0T o7 rf symbols).st.length (textEv o0 o3 o7 rf symbols l)∧(textEv o0 o3 o7 rf symbols l).length≤1000000:=by
    unfold textEv
    split
    · exact ⟨Evs.nil _,by simp⟩
    · obtain ⟨n1,n2⟩:=numEv_ok (base:=96) (n:=(x0T o7 rf symbols).st.length) (by omega) (by omega) true (v:=0) (by omega) (by omega)
      exact ⟨Evs.app hE.1 n1,by rw [List.length_append]; omega⟩
  have hol:=run_len_le (textEv o0 o3 o7 rf symbols l) (kd:=o5) (x:=x0T o7 rf symbols) (out:=[])
  rw [end_ok hfl (run_ok (textEv o0 o3 o7 rf symbols l) (out:=[]) hx hT.1).1.r (by rw [List.length_nil] at hol; omega)]
  rfl
theorem tdec {n:Int} {code:List Int} (hs:symbols.length≤1000000000000000) (hz:∀ b ∈ symbols,∀ v ∈ b.2.2,0≤v) (hcb:Bytes code) (hcl:code.length≤10000000) {K:Int×List Item→Option Ans}:
    F_text_Decode fl o0 o1 tu o3 o4 o5 rf o7 symbols n code K = K (decT o0 o1 o3 o4 o5 o7 rf symbols n code):=by
  unfold F_text_Decode Fg_text_Decode decT
  rw [begun_ok hfl hs (by simp)]
  try dsimp only
  rw [cn]
  by_cases he:bErr o0 o1 o3 o4 o5 o7 symbols [] = 0
  rotate_left
  · rw [if_neg he,if_neg he]
  rw [if_pos he,if_pos he]
  by_cases h1:(symbols.length:Int) > 60
  · rw [dec_t h1,if_neg (by omega)]
  rw [dec_f h1]
  by_cases h2:n < 0
  · rw [dec_t h2,if_neg (by omega)]
  rw [dec_f h2]
  by_cases h3:n > 300
  · rw [dec_t h3,if_neg (by omega)]
  rw [dec_f h3,if_pos (by omega)]
  have hn60:symbols.length≤60:=by omega
  obtain ⟨T,_⟩:=te_of he hn60 hz
  obtain ⟨q1,_,_,_,_,_,_,kk,tt⟩:=ov_iff.1 T.ov
  obtain ⟨s0,s1,s2,s3,s4⟩:=lik_sz o7 rf symbols hn60
  obtain ⟨hv,hx,hN,hn8⟩:=x0_ok (rf:=rf) T
  rw [lay_ok hn60 tt]
  try dsimp only
  rw [cnew hfl kk (by omega) (by omega)]
  try dsimp only
  rw [new_decB hfl hv hcb hcl]
  try dsimp only
  unfold L_text_Decode_0
  have hst:Dc.St o5 code (x0T o7 rf symbols).st.length ⟨true,x0T o7 rf symbols,0⟩:=⟨rfl,hx,rfl,Nat.zero_le _⟩
  have main:=text_loop (fl:=fl) hfl (kx:=o5) (code:=code) (N:=(x0T o7 rf symbols).st.length) ⟨hcb,hcl,hn8⟩ (tu:=tu) (n:=n) T hN (by omega) (K:=fun b=>bif b.2.2.2.2.2.2.2.2.2.2.2.2.2.1 != 0 then K (b.2.2.2.2.2.2.2.2.2.2.2.2.2.1,[]) else K (0,b.2.2.2.2.2.2.2.2.2.2.2.2.2.2.2.2.2.2.2.2.2.2.1)) (R:=fun e _=>K (e,[])) (fun e s l he=>by
    try dsimp only
    rw [cond_t (by simp [he])]) 301 0 0 [] ⟨true,x0T o7 rf symbols,0⟩ fl (by simp) (by simp) (by simp) (by simp) ⟨by omega,by omega⟩ hst (by omega)
  refine Eq.trans main ?_
  cases (textD o0 o3 o7 rf symbols n 301 0 0 []).run o5 code ⟨true,x0T o7 rf symbols,0⟩ with
  | mk r s=>
    cases r <;> rfl
end
end Go.Proofs.Ytipdidpalcmlhaa.Tx
set_option maxHeartbeats 2000000
namespace Go.Proofs.Ytipdidpalcmlhaa.Tx
open Go Ev Bm Co Gen Dc Rf
theorem fol_within {base add low high v:Int} (h0: -1048576≤v - add) (h1:v - add≤1048576) (h2:low≤v) (h3:v≤high):Fol (withinD base add low high) (numEv base false (v - add)) v:=by
  unfold withinD
  have:=fol_bind (f:=fun v:Bool×Int=>if v.1 = false∧low≤v.2 + add∧v.2 + add≤high then (.ret (v.2 + add):Dec Int) else .bad 3) (b:=v) (F:=[]) (numD base) (fol_num (base:=base) (none:=false) (n:=v - add) (fun h=>absurd h (by simp)) h0 h1) (by
    dsimp only
    rw [if_pos ⟨rfl,by omega,by omega⟩]
    exact ⟨rfl,by omega⟩)
  rwa [List.append_nil] at this
section
variable {o0 o1 o3 o4 o5 o7:Int} {rf:Bool} {symbols:List Bmp} (T:TE o0 o1 o3 o4 o5 o7 symbols)
include T
theorem fol_item {i:Item} (h:ItOk rf symbols i):Fol (itemD o0 o7 rf symbols (i.2.2.1 / o0) i.2.1) (itemEv o0 o7 rf symbols i) i:=by
  obtain ⟨n0,n1,n2,n3⟩:=h.num
  obtain ⟨q1,_⟩:=ov_iff.1 T.ov
  obtain ⟨ka,kb,kc,kd⟩:=tk_ok T.n
  have em:i.2.2.1 - i.2.2.1 / o0 * o0 = i.2.2.1 % o0:=by
    have:=Int.emod_add_mul_ediv i.2.2.1 o0
    rw [Int.mul_comm] at this
    omega
  have eb:0≤i.2.2.1 % o0∧i.2.2.1 % o0≤o0 - 1:=by rcases q1 with rfl | rfl | rfl | rfl <;> omega
  have hT:i.2.2.1 / o0 * o0 + (i.2.2.1 - i.2.2.1 / o0 * o0) = i.2.2.1:=by omega
  unfold itemD itemEv
  rw [List.append_assoc]
  refine fol_bind (a:=i.2.2.1 - i.2.2.1 / o0 * o0) _ ?_ ?_
  · by_cases h1:o0 > 1
    · rw [if_pos h1,if_pos h1]
      have:=fol_within (base:=144) (add:=0) (low:=0) (high:=o0 - 1) (v:=i.2.2.1 - i.2.2.1 / o0 * o0) (by omega) (by omega) (by omega) (by omega)
      rwa [Int.sub_zero] at this
    · rw [if_neg h1,if_neg h1]
      have:o0 = 1:=by omega
      subst this
      exact ⟨rfl,by omega⟩
  rw [hT,if_pos n3]
  have hidk:=fol_idK (base:=385) (K:=tk symbols) (id:=i.1.toNat) (by omega)
  refine fol_bind (a:=((i.1.toNat:Nat):Int)) _ hidk ?_
  rw [Int.toNat_of_nonneg n0,if_pos n1]
  have hit:=h.it
  unfold itm at hit
  simp only [Bool.and_eq_true,decide_eq_true_eq] at hit
  have plain:i.2.2.2.1 = false→i = (i.1,i.2.1,i.2.2.1,false,0,0,0,0,[]):=by
    intro hr
    have h2:=hit.2
    rw [hr,if_neg (by simp),decide_eq_true_eq] at h2
    obtain ⟨a,s,t,r,dx,dy,w,hh,p⟩:=i
    obtain ⟨e1,e2,e3,e4,e5⟩:=h2
    have e6:p = []:=List.length_eq_zero_iff.1 (by simpa using e5)
    simp only at hr e1 e2 e3 e4
    subst hr e1 e2 e3 e4 e6
    rfl
  cases hrf:rf with
  | false=>
    rw [if_neg (by simp),if_neg (by simp)]
    refine ⟨rfl, ?_⟩
    have:i.2.2.2.1 = false:=by
      cases hr:i.2.2.2.1 with
      | false=>rfl
      | true=>
        have:=(h.rfd hr).1
        rw [hrf] at this
        exact absurd this (by simp)
    exact (plain this).symm
  | true=>
    rw [if_pos rfl,if_pos rfl]
    cases hr:i.2.2.2.1 with
    | false=>
      rw [if_neg (by simp)]
      refine ⟨0,[],rfl, ?_⟩
      dsimp only
      rw [if_neg (by decide)]
      exact ⟨rfl,(plain hr).symm⟩
    | true=>
      rw [if_pos rfl]
      obtain ⟨_,⟨d1,d2⟩,⟨d3,d4⟩,p,w0,w1,h0,h1⟩:=h.rfd hr
      obtain ⟨pb,b0,b1,b2,b3⟩:=T.bm n0 n1
      unfold refEv
      simp only [List.append_assoc,List.cons_append,List.nil_append]
      refine ⟨1,_,rfl, ?_⟩
      dsimp only
      rw [if_pos rfl]
      unfold refD
      refine fol_bind (a:=i.2.2.2.2.2.2.1) _ (fol_within (base:=192) (add:=(bmAt symbols i.1).1) (low:=1) (high:=40) (v:=i.2.2.2.2.2.2.1) (by omega) (by omega) (by omega) (by omega)) ?_
      refine fol_bind (a:=i.2.2.2.2.2.2.2.1) _ (fol_within (base:=240) (add:=(bmAt symbols i.1).2.1) (low:=1) (high:=40) (v:=i.2.2.2.2.2.2.2.1) (by omega) (by omega) (by omega) (by omega)) ?_
      have hx:=fol_within (base:=288) (add:=0) (low:= -200) (high:=200) (v:=i.2.2.2.2.1) (by omega) (by omega) (by omega) (by omega)
      have hy:=fol_within (base:=336) (add:=0) (low:= -200) (high:=200) (v:=i.2.2.2.2.2.1) (by omega) (by omega) (by omega) (by omega)
      rw [Int.sub_zero] at hx hy
      refine fol_bind (a:=i.2.2.2.2.1) _ hx ?_
      refine fol_bind (a:=i.2.2.2.2.2.1) _ hy ?_
      rw [← List.append_nil (rwE _ _ _ _ _ _ _ _ _ _ _)]
      refine fol_bind (a:=i.2.2.2.2.2.2.2.2) _ (reg_fol p) ⟨rfl, ?_⟩
      obtain ⟨a,s,t,r,dx,dy,w,hh,pp⟩:=i
      simp only at hr
      subst hr
      rfl
end
def eS (o0:Int) (l:List Item):Nat→Nat→Nat
  | 0,j=>j + 1
  | d + 1,j=>if stp o0 l (j + 1) = stp o0 l j then eS o0 l d (j + 1) else j + 1
def tailE (o0 o3 o7:Int) (rf:Bool) (symbols:List Bmp) (l:List Item):Nat→Nat→List (Int×Int)
  | 0,j=>numEv 96 true 0
  | d + 1,j=>if stp o0 l (j + 1) = stp o0 l j then preEv o0 o3 l (j + 1)++(itemEv o0 o7 rf symbols (itAt l (j + 1))++tailE o0 o3 o7 rf symbols l d (j + 1)) else numEv 96 true 0
theorem eS_ok (o0:Int) (l:List Item):∀ d j,j + 1 + d = l.length→j < eS o0 l d j∧eS o0 l d j≤l.length∧(∀ k,j≤k→k < eS o0 l d j→stp o0 l k = stp o0 l j)∧(eS o0 l d j < l.length→stp o0 l (eS o0 l d j) ≠ stp o0 l j)
  | 0,j,h=>by
    unfold eS
    exact ⟨by omega,by omega,fun k h1 h2=>by rw [show k = j by omega],fun h'=>by omega⟩
  | d + 1,j,h=>by
    unfold eS
    by_cases hc:stp o0 l (j + 1) = stp o0 l j
    · rw [if_pos hc]
      obtain ⟨a,b,c,e⟩:=eS_ok o0 l d (j + 1) (by omega)
      refine ⟨by omega,b,fun k h1 h2=> ?_,fun h'=>by rw [← hc]; exact e h'⟩
      rcases Nat.lt_or_ge j k with h3 | h3
      · rw [c k h3 h2,hc]
      · rw [show k = j by omega]
    · rw [if_neg hc]
      exact ⟨by omega,by omega,fun k h1 h2=>by rw [show k = j by omega],fun _=>hc⟩
theorem tail_all (o0 o3 o7:Int) (rf:Bool) (symbols:List Bmp) (l:List Item):∀ d j,allE o0 o3 o7 rf symbols l (j + 1)++tailE o0 o3 o7 rf symbols l d j = allE o0 o3 o7 rf symbols l (eS o0 l d j)++numEv 96 true 0
  | 0,j=>rfl
  | d + 1,j=>by
    unfold eS tailE
    by_cases hc:stp o0 l (j + 1) = stp o0 l j
    · rw [if_pos hc,if_pos hc, ← tail_all o0 o3 o7 rf symbols l d (j + 1),show allE o0 o3 o7 rf symbols l (j + 1 + 1) = (allE o0 o3 o7 rf symbols l (j + 1)++preEv o0 o3 l (j + 1))++itemEv o0 o7 rf symbols (itAt l (j + 1)) from rfl]
      simp only [List.append_assoc]
    · rw [if_neg hc,if_neg hc]
theorem take_snoc {l:List Item} {j:Nat} (h:j < l.length):l.take j++ [itAt l j] = l.take (j + 1):=(take_succ_getD h _).symm
section
variable {o0 o1 o3 o4 o5 o7:Int} {rf:Bool} {symbols:List Bmp} {l:List Item} (T:TE o0 o1 o3 o4 o5 o7 symbols) (hI:∀ i ∈ l,ItOk rf symbols i)
include T hI
theorem fol_next:∀ (d j f:Nat),j + 1 + d = l.length→d≤f→Fol (nextD o0 o3 o7 rf symbols (l.length:Int) (stp o0 l j) f (itAt l j).2.1 (l.take (j + 1))) (tailE o0 o3 o7 rf symbols l d j) (l.take (eS o0 l d j))
  | 0,j,f,hj,hf=>by
    unfold nextD tailE eS
    have:=fol_bind (F:=[]) (b:=l.take (j + 1)) (f:=fun v:Bool×Int=>if v.1 = true then (.ret (l.take (j + 1)):Dec (List Item)) else if ((l.take (j + 1)).length:Int) < (l.length:Int)∧near ((itAt l j).2.1 + (v.2 + o3)) 100000 then lineD o0 o3 o7 rf symbols (l.length:Int) (stp o0 l j) f ((itAt l j).2.1 + (v.2 + o3)) (l.take (j + 1)) else .bad 3) (numD 96) (fol_num (base:=96) (none:=true) (n:=0) (fun _=>rfl) (by omega) (by omega)) ⟨rfl,rfl⟩
    rwa [List.append_nil] at this
  | d + 1,j,f,hj,hf=>by
    obtain ⟨f,rfl⟩:∃ g,f = g + 1:=⟨f - 1,by omega⟩
    by_cases hc:stp o0 l (j + 1) = stp o0 l j
    rotate_left
    · unfold nextD tailE eS
      rw [if_neg hc,if_neg hc]
      have:=fol_bind (F:=[]) (b:=l.take (j + 1)) (f:=fun v:Bool×Int=>if v.1 = true then (.ret (l.take (j + 1)):Dec (List Item)) else if ((l.take (j + 1)).length:Int) < (l.length:Int)∧near ((itAt l j).2.1 + (v.2 + o3)) 100000 then lineD o0 o3 o7 rf symbols (l.length:Int) (stp o0 l j) (f + 1) ((itAt l j).2.1 + (v.2 + o3)) (l.take (j + 1)) else .bad 3) (numD 96) (fol_num (base:=96) (none:=true) (n:=0) (fun _=>rfl) (by omega) (by omega)) ⟨rfl,rfl⟩
      rwa [List.append_nil] at this
    obtain ⟨a1,a2,a3,a4,_⟩:=stp_rg T hI (i:=j + 1) (by omega)
    obtain ⟨b1,b2,b3,b4,_⟩:=stp_rg T hI (i:=j) (by omega)
    obtain ⟨_,_,_,g1,g2,_⟩:=ov_iff.1 T.ov
    have ih:=fol_next d (j + 1) f (by omega) (by omega)
    have hS:(itAt l j).2.1 + ((itAt l (j + 1)).2.1 - (itAt l j).2.1 - o3 + o3) = (itAt l (j + 1)).2.1:=by omega
    have hl1:(l.take (j + 1)).length = j + 1:=by rw [List.length_take]; omega
    unfold nextD tailE eS
    rw [if_pos hc,if_pos hc,preEv,if_pos hc]
    refine fol_bind (a:=(false,(itAt l (j + 1)).2.1 - (itAt l j).2.1 - o3)) _ (fol_num (fun h=>absurd h (by simp)) (by omega) (by omega)) ?_
    dsimp only
    rw [if_neg (by simp),hS,if_pos ⟨by rw [hl1]; omega,⟨a3,a4⟩⟩,line_next]
    refine fol_bind (a:=itAt l (j + 1)) _ ?_ ?_
    · rw [← hc]
      exact fol_item T (hI _ (itAt_mem (by omega)))
    · rw [take_snoc (by omega), ← hc]
      exact ih
theorem fol_text:∀ (d i f:Nat) (la fi:Int),i + d = l.length→d≤f→l.length≤300→(if i = 0 then la = 0∧fi = 0 else la = stp o0 l (i - 1)∧fi = fstS o0 l (i - 1)∧(i < l.length→stp o0 l i ≠ stp o0 l (i - 1)))→asc o0 l = true→
    ∃ F,Fol (textD o0 o3 o7 rf symbols (l.length:Int) f la fi (l.take i)) F l∧(if i = 0 then [] else allE o0 o3 o7 rf symbols l i++numEv 96 true 0)++F = textEv o0 o3 o7 rf symbols l:=by
  intro d
  induction d using Nat.strongRecOn with
  | ind d ih=>
  intro i f la fi hi hf hl hE hasc
  have hlen:(l.take i).length = i:=by rw [List.length_take]; omega
  by_cases hil:i = l.length
  · refine ⟨[], ?_, ?_⟩
    · have e:l.take i = l:=by rw [hil,List.take_length]
      cases f with
      | zero=>exact ⟨rfl,e⟩
      | succ f=>
        unfold textD
        rw [if_neg (by rw [hlen]; omega)]
        exact ⟨rfl,e⟩
    · rw [List.append_nil]
      unfold textEv
      by_cases h0:i = 0
      · rw [if_pos h0,if_pos (by omega)]
      · rw [if_neg h0,if_neg (by omega),hil]
  have hjl:i < l.length:=by omega
  obtain ⟨f,rfl⟩:∃ g,f = g + 1:=⟨f - 1,by omega⟩
  obtain ⟨a1,a2,a3,a4,a5⟩:=stp_rg T hI hjl
  obtain ⟨q1,_⟩:=ov_iff.1 T.ov
  obtain ⟨w1,w2,w3,w4⟩:=eS_ok o0 l (l.length - 1 - i) i (by omega)
  generalize he:eS o0 l (l.length - 1 - i) i = e at w1 w2 w3 w4
  have hla: -100000≤la∧la≤100000∧ -100000≤fi∧fi≤100000∧(i ≠ 0→stp o0 l i - la > 0)∧(if i = 0 then [] else allE o0 o3 o7 rf symbols l i++numEv 96 true 0)++(numEv 0 false (stp o0 l i - la)++numEv 48 false ((itAt l i).2.1 - fi)) = allE o0 o3 o7 rf symbols l i++preEv o0 o3 l i:=by
    by_cases h0:i = 0
    · rw [if_pos h0] at hE
      obtain ⟨rfl,rfl⟩:=hE
      subst h0
      exact ⟨by omega,by omega,by omega,by omega,fun h=>absurd rfl h,by rw [if_pos rfl,Int.sub_zero,Int.sub_zero]; rfl⟩
    · rw [if_neg h0] at hE
      obtain ⟨rfl,rfl,hne⟩:=hE
      obtain ⟨b1,b2,_⟩:=stp_rg T hI (i:=i - 1) (by omega)
      obtain ⟨f1,f2⟩:=fstS_rg T hI (i - 1) (by omega)
      have hne:=hne hjl
      obtain ⟨i',rfl⟩:∃ i',i = i' + 1:=⟨i - 1,by omega⟩
      have ha:stp o0 l i'≤stp o0 l (i' + 1):=by
        unfold asc at hasc
        have:=List.all_eq_true.1 hasc i' (List.mem_range.2 (by omega))
        exact of_decide_eq_true this
      simp only [Nat.add_sub_cancel] at *
      refine ⟨b1,b2,f1,f2,fun _=>by omega, ?_⟩
      rw [if_neg (by omega),preEv,if_neg hne]
      simp only [List.append_assoc]
  obtain ⟨l1,l2,l3,l4,l5,l6⟩:=hla
  have hstart:i = 0∨stp o0 l i ≠ stp o0 l (i - 1):=by
    by_cases h0:i = 0
    · exact .inl h0
    · rw [if_neg h0] at hE
      exact .inr (hE.2.2 hjl)
  have hf2:fstS o0 l (e - 1) = (itAt l i).2.1:=by
    have:=fst_const (l:=l) hstart (e - 1 - i) fun k h1 h2=>w3 k h1 (by omega)
    rwa [show i + (e - 1 - i) = e - 1 by omega] at this
  have hst:stp o0 l (e - 1) = stp o0 l i:=w3 (e - 1) (by omega) (by omega)
  obtain ⟨F',k1,k2⟩:=ih (l.length - e) (by omega) e f (stp o0 l i) (itAt l i).2.1 (by omega) (by omega) hl (by
    rw [if_neg (by omega)]
    exact ⟨hst.symm,hf2.symm,fun h=>by rw [hst]; exact w4 h⟩) hasc
  rw [if_neg (by omega)] at k2
  refine ⟨numEv 0 false (stp o0 l i - la)++(numEv 48 false ((itAt l i).2.1 - fi)++((itemEv o0 o7 rf symbols (itAt l i)++tailE o0 o3 o7 rf symbols l (l.length - 1 - i) i)++F')), ?_, ?_⟩
  · unfold textD
    rw [if_pos (by rw [hlen]; omega)]
    refine fol_bind (a:=(false,stp o0 l i - la)) _ (fol_num (fun h=>absurd h (by simp)) (by omega) (by omega)) ?_
    dsimp only
    have hla2:la + (stp o0 l i - la) = stp o0 l i:=by omega
    rw [hla2,if_pos ⟨rfl,by
      by_cases h0:i = 0
      · exact .inr (by rw [hlen,h0])
      · exact .inl (l5 h0),by
      by_cases h8:o0 > 1
      · exact .inl h8
      · exact .inr ⟨by omega,by omega⟩⟩]
    refine fol_bind (a:=(itAt l i).2.1) _ (fol_within (base:=48) (add:=fi) (low:= -100000) (high:=100000) (v:=(itAt l i).2.1) (by omega) (by omega) (by omega) (by omega)) ?_
    refine fol_bind (a:=l.take e) _ ?_ k1
    rw [line_next]
    refine fol_bind (a:=itAt l i) _ (fol_item T (hI _ (itAt_mem hjl))) ?_
    rw [take_snoc hjl, ← he]
    exact fol_next T hI (l.length - 1 - i) i 300 (by omega) (by omega)
  · have t1:=tail_all o0 o3 o7 rf symbols l (l.length - 1 - i) i
    rw [he] at t1
    rw [← k2, ← t1,allE, ← l6]
    simp only [List.append_assoc]
theorem round (hl:l.length≤300) (hasc:asc o0 l = true):(textD o0 o3 o7 rf symbols (l.length:Int) 301 0 0 []).run o5 (codeT o0 o3 o5 o7 rf symbols l) ⟨true,x0T o7 rf symbols,0⟩ = (.inr l,⟨true,(run o5 (x0T o7 rf symbols) [] (textEv o0 o3 o7 rf symbols l)).1,(run o5 (x0T o7 rf symbols) [] (textEv o0 o3 o7 rf symbols l)).2.length⟩):=by
  obtain ⟨hv,hx,hN,hn8⟩:=x0_ok (rf:=rf) T
  obtain ⟨s0,s1,s2,s3,s4⟩:=lik_sz o7 rf symbols T.n
  obtain ⟨F,h1,h2⟩:=fol_text T hI l.length 0 301 0 0 (by omega) (by omega) hl (by rw [if_pos rfl]; exact ⟨rfl,rfl⟩) hasc (o3:=o3)
  rw [if_pos rfl,List.nil_append] at h2
  subst h2
  have hT:Evs (x0T o7 rf symbols).st.length (textEv o0 o3 o7 rf symbols l):=by
    unfold textEv
    split
    · exact Evs.nil _
    · obtain ⟨n1,n2⟩:=numEv_ok (base:=96) (n:=(x0T o7 rf symbols).st.length) (by omega) (by omega) true (v:=0) (by omega) (by omega)
      exact Evs.app (allE_ok T hI hN l.length (Nat.le_refl _)).1 n1
  have:=fol_run hx hT 0 _ (L:=[]) ⟨[],by rw [List.append_nil,List.nil_append]⟩ h1
  have hc:codeOf o5 (x0T o7 rf symbols) (textEv o0 o3 o7 rf symbols l) 0 = codeT o0 o3 o5 o7 rf symbols l:=by
    unfold codeOf codeT
    rw [List.replicate_zero,List.append_nil]
  rw [hc] at this
  exact this
end
open Go Ev Bm
section
variable {fl:Nat} (hfl:9223372036854775808≤fl)
include hfl
theorem sameB {w h:Int} {p:List Int} (hl:p.length≤1000000000000000) {K:Bool→Option Ans}:F_ref06_SameBitmap fl w h p w h p K = K true:=by
  unfold F_ref06_SameBitmap
  rw [cond_f (by simp),cond_f (by simp),cond_f (by simp)]
  unfold L_ref06_SameBitmap_0
  refine iter_seq (step:=S_ref06_SameBitmap_0 fl) (fun i:Nat=>((p.length:Int),(i:Int),w,h,p,w,h,p)) p.length rfl (fun i hi c=> ?_) (fun c=> ?_) (by omega)
  · simp only [S_ref06_SameBitmap_0]
    rw [dec_t (by omega),dec_t (by omega),dec_t (by omega),cond_f (by simp),wrap64 (by omega) (by omega)]
    rfl
  · simp only [S_ref06_SameBitmap_0]
    rw [dec_f (by omega)]
theorem sameI {l:List (Int×Int×Int×Bool×Int×Int×Int×Int×List Int)} (hl:l.length≤1000000000000000) (hp:∀ i ∈ l,i.2.2.2.2.2.2.2.2.length≤1000000000000000) {K:Bool→Option Ans}:F_ref10_SameItems fl l l K = K true:=by
  unfold F_ref10_SameItems Fg_ref10_SameItems
  rw [cond_f (by simp)]
  unfold L_ref10_SameItems_0
  refine iter_seq (step:=S_ref10_SameItems_0 fl) (fun i:Nat=>(l,l,(l.length:Int),(i:Int))) l.length rfl (fun i hi c=> ?_) (fun c=> ?_) (by omega)
  · have hm:=hp _ (getD_mem hi (0,0,0,false,0,0,0,0,[]))
    simp only [S_ref10_SameItems_0,Sg_ref10_SameItems_0]
    rw [dec_t (by omega),dec_t (by omega),dec_t (by omega),Int.toNat_natCast]
    unfold F_ref10_SameItem Fg_ref10_SameItem
    rw [cond_t (by simp),cond_t (by simp),cond_t (by simp),cond_t (by simp),cond_t (by simp),cond_t (by simp),sameB hfl hm]
    try dsimp only
    rw [cond_f (b:=!true) rfl,wrap64 (by omega) (by omega)]
    rfl
  · simp only [S_ref10_SameItems_0,Sg_ref10_SameItems_0]
    rw [dec_f (by omega)]
theorem awake {K:Bool→Option Ans}:F_law10_Awake fl K = K true:=rfl
end
open Go Ev Bm Co Gen Dc Rf
section
variable {fl:Nat} (hfl:9223372036854775808≤fl)
include hfl
theorem code_ok {o0 o1 o3 o4 o5 o7:Int} {rf:Bool} {symbols:List Bmp} {l:List Item} (T:TE o0 o1 o3 o4 o5 o7 symbols) (hI:∀ i ∈ l,ItOk rf symbols i) (hl:l.length≤300):Bytes (codeT o0 o3 o5 o7 rf symbols l)∧(codeT o0 o3 o5 o7 rf symbols l).length≤4000000:=by
  obtain ⟨hv,hx,hN,hn8⟩:=x0_ok (rf:=rf) T
  obtain ⟨s0,s1,s2,s3,s4⟩:=lik_sz o7 rf symbols T.n
  have hE:=allE_ok T hI hN l.length (Nat.le_refl _) (o3:=o3)
  have hT:Evs (x0T o7 rf symbols).st.length (textEv o0 o3 o7 rf symbols l)∧(textEv o0 o3 o7 rf symbols l).length≤646000:=by
    unfold textEv
    split
    · exact ⟨Evs.nil _,by simp⟩
    · obtain ⟨n1,n2⟩:=numEv_ok (base:=96) (n:=(x0T o7 rf symbols).st.length) (by omega) (by omega) true (v:=0) (by omega) (by omega)
      exact ⟨Evs.app hE.1 n1,by rw [List.length_append]; omega⟩
  have hol:=run_len_le (textEv o0 o3 o7 rf symbols l) (kd:=o5) (x:=x0T o7 rf symbols) (out:=[])
  have hby:=run_byte (textEv o0 o3 o7 rf symbols l) (out:=[]) hx hT.1 (fun v hv=>by cases hv)
  have hr:=(run_ok (textEv o0 o3 o7 rf symbols l) (out:=[]) hx hT.1).1.r
  have he:=endB_len (run o5 (x0T o7 rf symbols) [] (textEv o0 o3 o7 rf symbols l)).1.lo (run o5 (x0T o7 rf symbols) [] (textEv o0 o3 o7 rf symbols l)).1.hi
  refine ⟨fun v hv=> ?_, ?_⟩
  · rcases List.mem_append.1 hv with hv | hv
    · exact hby v hv
    · exact endB_byte hr v hv
  · unfold codeT
    rw [List.length_append]
    rw [List.length_nil] at hol
    omega
omit hfl in
theorem bErr_nil {o0 o1 o3 o4 o5 o7:Int} {symbols:List Bmp} {l:List Item} (h:bErr o0 o1 o3 o4 o5 o7 symbols l = 0):bErr o0 o1 o3 o4 o5 o7 symbols [] = 0:=by
  unfold bErr at *
  split at h
  · rename_i h1
    rw [if_pos h1]
    split at h
    · rename_i h2
      rw [if_pos h2]
      rfl
    · exact absurd h (by decide)
  · exact absurd h (by decide)
omit hfl in
theorem back_ok {o0 o1 o3 o4 o5 o7:Int} {rf:Bool} {symbols:List Bmp} {l:List Item} (he:bErr o0 o1 o3 o4 o5 o7 symbols l = 0) (hr:rights rf (symbols.length:Int) l = true) (ha:asc o0 l = true) (hz:∀ b ∈ symbols,∀ v ∈ b.2.2,0≤v) (hzi:∀ i ∈ l,∀ v ∈ i.2.2.2.2.2.2.2.2,0≤v):
    decT o0 o1 o3 o4 o5 o7 rf symbols (l.length:Int) (codeT o0 o3 o5 o7 rf symbols l) = (0,l):=by
  have hn60:symbols.length≤60:=by
    unfold rights at hr
    simp only [Bool.and_eq_true,decide_eq_true_eq] at hr
    omega
  obtain ⟨T,hsi⟩:=te_of he hn60 hz
  obtain ⟨_,hl3,hI⟩:=it_of hsi hr hzi
  unfold decT
  rw [if_pos (bErr_nil he),if_pos ⟨hn60,by omega,by omega⟩,round T hI hl3 ha]
end
end Go.Proofs.Ytipdidpalcmlhaa.Tx
namespace Go.Proofs.Ytipdidpalcmlhaa.PureTextBack
open Go Ev Bm Gen Tx
theorem pure_fl {fl:Nat} (hfl:9223372036854775808≤fl) (o0 o1:Int) (tu:Bool) (o3 o4 o5:Int) (rf:Bool) (o7:Int) (symbols:List Tx.Bmp) (l:List Tx.Item) (K:Bool→Option Ans) (hz:∀ b ∈ symbols,∀ v ∈ b.2.2,0≤v) (hzi:∀ i ∈ l,∀ v ∈ i.2.2.2.2.2.2.2.2,0≤v) (hp:∀ i ∈ l,i.2.2.2.2.2.2.2.2.length≤1000000000000000):
    F_law10_TextBack fl o0 o1 tu o3 o4 o5 rf o7 symbols l K = K true:=by
  unfold F_law10_TextBack Fg_law10_TextBack F_law10_long
  by_cases h1:(symbols.length:Int) > 120
  · rw [dec_t h1]
    try dsimp only
    rw [cond_true,awake hfl]
  rw [dec_f h1]
  try dsimp only
  by_cases h2:(l.length:Int) > 600
  · rw [decide_eq_true h2,cond_true,awake hfl]
  rw [decide_eq_false h2,cond_false,tenc hfl (by omega) (by omega) hz hzi]
  unfold encT
  by_cases he:bErr o0 o1 o3 o4 o5 o7 symbols l = 0
  rotate_left
  · rw [if_neg he]
    try dsimp only
    rw [cond_t (by simp [he]),cond_t (by rfl),awake hfl]
  rw [if_pos he]
  by_cases hr:rights rf (symbols.length:Int) l = true∧asc o0 l = true
  rotate_left
  · rw [if_neg hr]
    try dsimp only
    rw [cond_t (by rfl),cond_t (by rfl),awake hfl]
  obtain ⟨hr,ha⟩:=hr
  rw [if_pos ⟨hr,ha⟩]
  try dsimp only
  have hn60:symbols.length≤60:=by
    unfold rights at hr
    simp only [Bool.and_eq_true,decide_eq_true_eq] at hr
    omega
  obtain ⟨T,hsi⟩:=te_of he hn60 hz
  obtain ⟨_,hl3,hI⟩:=it_of hsi hr hzi
  obtain ⟨c1,c2⟩:=code_ok hfl T hI hl3
  rw [cond_f (b:=(0:Int) != 0) rfl,tdec hfl (by omega) hz c1 (by omega),back_ok he hr ha hz hzi]
  try dsimp only
  rw [cond_t (b:=(0:Int)==0) rfl,sameI hfl (by omega) hp]
  try dsimp only
  rw [cond_true,awake hfl]
theorem wf8 {u:Int} (h:(Lit.int .u8 u).wf = true):0≤u:=by
  simp [Lit.wf,IntKind.min,IntKind.max,IntKind.signed,IntKind.bits] at h
  omega
theorem pure (o0 o1:Int) (tu:Bool) (o3 o4 o5:Int) (rf:Bool) (o7:Int) (symbols:List Tx.Bmp) (l:List Tx.Item) (K:Bool→Option Ans)
    (g0:given (.pair (.int .i64) (.pair (.int .i64) (.pair .bool (.pair (.int .i64) (.pair (.int .i64) (.pair (.int .i64) (.pair .bool (.int .i64)))))))) (o0,o1,tu,o3,o4,o5,rf,o7))
    (g1:given (.sl (.pair (.int .i64) (.pair (.int .i64) (.sl (.int .u8))))) symbols)
    (g2:given (.sl (.pair (.int .i64) (.pair (.int .i64) (.pair (.int .i64) (.pair .bool (.pair (.int .i64) (.pair (.int .i64) (.pair (.int .i64) (.pair (.int .i64) (.sl (.int .u8))))))))))) l):
    F_law10_TextBack fuel o0 o1 tu o3 o4 o5 rf o7 symbols l K = K true:=by
  obtain ⟨_,h1⟩:=g1
  obtain ⟨_,h2⟩:=g2
  refine pure_fl (by rw [fuel_eq]; omega) o0 o1 tu o3 o4 o5 rf o7 symbols l K (fun b hb u hu=> ?_) (fun i hi u hu=> ?_) (fun i hi=> ?_)
  · obtain ⟨_,_,_,h3⟩:=h1 b hb
    exact wf8 (h3 u hu)
  · obtain ⟨_,_,_,_,_,_,_,_,_,h3⟩:=h2 i hi
    exact wf8 (h3 u hu)
  · obtain ⟨_,_,_,_,_,_,_,_,h3,_⟩:=h2 i hi
    have h3:i.2.2.2.2.2.2.2.2.length * 1≤140737488351232:=h3
    omega
end Go.Proofs.Ytipdidpalcmlhaa.PureTextBack
