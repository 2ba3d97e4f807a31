/- Laws of the typed texts that TextDecodes reaches, in plain Lean. No condition but what each theorem names. -/
import Derived.Test.YtipdidpalcmlhaaGreatFsTextDecodes8
import Derived.Test.YtipdidpalcmlhaaGreatFsTextDecodes7
import Derived.Test.YtipdidpalcmlhaaGreatFsTextDecodes6
import Derived.Test.YtipdidpalcmlhaaGreatPsTextDecodes1
import Derived.Test.YtipdidpalcmlhaaGreatFsTextDecodes1
import Derived.Test.YtipdidpalcmlhaaGreatFsTextDecodes3
import Derived.Test.YtipdidpalcmlhaaGreatFsTextDecodes4
import Derived.Test.YtipdidpalcmlhaaGreatFsTextDecodes5
import Derived.Test.YtipdidpalcmlhaaGreatEvS
set_option linter.unusedVariables false
set_option linter.unusedSimpArgs false
set_option linter.unusedSectionVars false
set_option maxHeartbeats 2000000
namespace Go.Proofs.YtipdidpalcmlhaaGreat.Tx
open Go Ev Bm Co Gen Dc Rf
def nextD (o0 o3 o7:Int) (rf:Bool) (symbols:List Bmp) (n st:Int) (f:Nat) (s:Int) (l:List Item):Dec (List Item):=
  (numD 96).bind fun v=>if v.1 = true then .ret l else if (l.length:Int) < n∧near (s + (v.2 + o3)) 100000 then lineD o0 o3 o7 rf symbols n st f (s + (v.2 + o3)) l else .bad 3
theorem line_next (o0 o3 o7:Int) (rf:Bool) (symbols:List Bmp) (n st:Int) (f:Nat) (s:Int) (l:List Item):
    lineD o0 o3 o7 rf symbols n st (f + 1) s l = (itemD o0 o7 rf symbols st s).bind fun i=>nextD o0 o3 o7 rf symbols n st f s (l++ [i]):=rfl
section
variable {N:Nat} {o0 o1 o3 o4 o5 o7 n:Int} {rf tu:Bool} {symbols:List Bmp} (T:TE o0 o1 o3 o4 o5 o7 symbols) (hN:(N:Int) = tsz o7 rf symbols)
include T hN
theorem itemD_all {st s:Int}:(itemD o0 o7 rf symbols st s).All N (fun _=>True):=by
  obtain ⟨s0,s1,s2,s3,s4⟩:=lik_sz o7 rf symbols T.n
  obtain ⟨q1,_⟩:=ov_iff.1 T.ov
  obtain ⟨ka,kb,kc,kd⟩:=tk_ok T.n
  have e2:(2:Int) ^ tk symbols = ((2 ^ tk symbols:Nat):Int):=by rw [Int.natCast_pow]; rfl
  have h1:(if o0 > 1 then withinD 144 0 0 (o0 - 1) else .ret 0:Dec Int).All N (fun _=>True):=by
    split
    · exact Dec.All.mono (fun _ _=>trivial) _ (withinD_all (by omega) (by omega))
    · exact trivial
  unfold itemD
  refine Dec.All.bind (fun d _=> ?_) _ h1
  split
  rotate_left
  · rfl
  refine Dec.All.bind (fun id hid=> ?_) _ (idD_all (P:=fun id:Int=>0≤id) (by omega) (by rw [e2]; unfold lik at *; omega) (fun p hp _=>by show (0:Int)≤p - ((2 ^ tk symbols:Nat):Int); rw [← e2]; omega) _ 0 1 (by omega) (by decide) (by decide))
  split
  rotate_left
  · rfl
  rename_i hlt
  cases rf with
  | false=>exact trivial
  | true=>
    rw [if_pos rfl]
    have:=s4 rfl
    refine ⟨⟨by omega,by omega⟩,fun b _=> ?_⟩
    dsimp only
    split
    · exact refD_all T hN rfl hid hlt
    · exact trivial
theorem lineD_all {st:Int} (hn:n≤300):∀ (f:Nat) (s:Int) (l:List Item),(l.length:Int) < n→(lineD o0 o3 o7 rf symbols n st f s l).All N (fun l'=>l.length < l'.length∧l'.length≤301)
  | 0,s,l,hl=>rfl
  | f + 1,s,l,hl=>by
    obtain ⟨s0,s1,s2,s3,s4⟩:=lik_sz o7 rf symbols T.n
    rw [line_next]
    refine Dec.All.bind (fun i _=> ?_) _ (itemD_all T hN)
    unfold nextD
    refine Dec.All.bind (fun v _=> ?_) _ (numD_all (by omega) (by omega))
    have hla:(l++ [i]).length = l.length + 1:=by simp
    try dsimp only
    split
    · exact ⟨by omega,by omega⟩
    · split
      · rename_i h
        exact Dec.All.mono (fun l' h'=>⟨by omega,h'.2⟩) _ (lineD_all hn f _ (l++ [i]) h.1)
      · rfl
end
section
variable {fl:Nat} (hfl:9223372036854775808≤fl) {kx:Int} {code:List Int} {N:Nat} (hc:Cd code N)
variable {o0 o1 o3 o4 o5 o7 n:Int} {rf tu:Bool} {symbols:List Bmp} (T:TE o0 o1 o3 o4 o5 o7 symbols) (hN:(N:Int) = tsz o7 rf symbols) (hn:n≤300)
omit hc in
theorem strip_stop {st S' e:Int} (he:e ≠ 0) {s:S} {l:List Item} {ret b} {m:Nat} (hm:0 < m):iter (S_text_reader_strip_457_0 fl) m (st,S',o0,o1,tu,o3,o4,o5,rf,o7,(tk symbols:Int),lik symbols,tsz o7 rf symbols,symbols,n,e,kx,s.x.lo,s.x.hi,((4 + s.k:Nat):Int),win (strm code) s.k,byd code s.k,!s.ok,true,l,s.x.st,code) (ret,b) = b (o0,o1,tu,o3,o4,o5,rf,o7,(tk symbols:Int),lik symbols,tsz o7 rf symbols,symbols,n,e,kx,s.x.lo,s.x.hi,((4 + s.k:Nat):Int),win (strm code) s.k,byd code s.k,!s.ok,true,l,s.x.st,code):=by
  obtain ⟨m,rfl⟩:∃ j,m = j + 1:=⟨m - 1,by omega⟩
  simp only [iter,S_text_reader_strip_457_0,Sg_text_reader_strip_457_0]
  rw [cond_f (by simp [he])]
include hfl hc T hN hn
theorem next_loop {st:Int} (hst: -1000000000≤st∧st≤1000000000) {K:_→Option Ans} {R:Int→S→Option Ans} {ret b} (hret:∀ e (s:S) (l:List Item),ret (o0,o1,tu,o3,o4,o5,rf,o7,(tk symbols:Int),lik symbols,tsz o7 rf symbols,symbols,n,e,kx,s.x.lo,s.x.hi,((4 + s.k:Nat):Int),win (strm code) s.k,byd code s.k,!s.ok,true,l,s.x.st,code) = K (o0,o1,tu,o3,o4,o5,rf,o7,(tk symbols:Int),lik symbols,tsz o7 rf symbols,symbols,n,e,kx,s.x.lo,s.x.hi,((4 + s.k:Nat):Int),win (strm code) s.k,byd code s.k,!s.ok,true,l,s.x.st,code)) (hbb:∀ e (s:S) (l:List Item),b (o0,o1,tu,o3,o4,o5,rf,o7,(tk symbols:Int),lik symbols,tsz o7 rf symbols,symbols,n,e,kx,s.x.lo,s.x.hi,((4 + s.k:Nat):Int),win (strm code) s.k,byd code s.k,!s.ok,true,l,s.x.st,code) = K (o0,o1,tu,o3,o4,o5,rf,o7,(tk symbols:Int),lik symbols,tsz o7 rf symbols,symbols,n,e,kx,s.x.lo,s.x.hi,((4 + s.k:Nat):Int),win (strm code) s.k,byd code s.k,!s.ok,true,l,s.x.st,code)) (hK:∀ e (s:S) (l:List Item),e ≠ 0→K (o0,o1,tu,o3,o4,o5,rf,o7,(tk symbols:Int),lik symbols,tsz o7 rf symbols,symbols,n,e,kx,s.x.lo,s.x.hi,((4 + s.k:Nat):Int),win (strm code) s.k,byd code s.k,!s.ok,true,l,s.x.st,code) = R e s):
    ∀ (f:Nat) (S':Int) (l:List Item) (s:S) (m:Nat),301≤l.length + f→l.length≤301→near S' 100000→Dc.St kx code N s→f + 2 < m→iter (S_text_reader_strip_457_0 fl) m (st,S',o0,o1,tu,o3,o4,o5,rf,o7,(tk symbols:Int),lik symbols,tsz o7 rf symbols,symbols,n,0,kx,s.x.lo,s.x.hi,((4 + s.k:Nat):Int),win (strm code) s.k,byd code s.k,!s.ok,true,l,s.x.st,code) (ret,b) = Aft (fun l s=>K (o0,o1,tu,o3,o4,o5,rf,o7,(tk symbols:Int),lik symbols,tsz o7 rf symbols,symbols,n,0,kx,s.x.lo,s.x.hi,((4 + s.k:Nat):Int),win (strm code) s.k,byd code s.k,!s.ok,true,l,s.x.st,code)) R ((nextD o0 o3 o7 rf symbols n st f S' l).run kx code s):=by
  intro f
  induction f with
  | zero=>
    intro S' l s m hlf hl hS hs hm
    obtain ⟨m,rfl⟩:∃ j,m = j + 1:=⟨m - 1,by omega⟩
    obtain ⟨s0,s1,s2,s3,s4⟩:=lik_sz o7 rf symbols T.n
    obtain ⟨q1,_,_,g1,g2,_⟩:=ov_iff.1 T.ov
    obtain ⟨S1,S2⟩:=hS
    simp only [iter,S_text_reader_strip_457_0,Sg_text_reader_strip_457_0,both_same]
    rw [cond_t (b:=(0:Int)==0) rfl]
    refine Eq.trans (num_ok hfl hc (by omega) (by omega) hs) ?_
    unfold nextD
    rw [fin_bind]
    refine fin_congr (numD_all (by omega) (by omega)) hs (fun v sv hv hsv=> ?_) (fun e s he=> ?_)
    rotate_left
    · try dsimp only
      rw [cond_t (by simp [he])]
      exact (hret e s l).trans (hK e s l he)
    obtain ⟨v1,v2,v3⟩:=hv
    try dsimp only
    rw [cond_f (b:=(0:Int) != 0) rfl]
    cases hv1:v.1 with
    | true=>
      rw [cond_true,if_pos rfl]
      exact hret 0 sv l
    | false=>
      rw [cond_false,if_neg (by simp),w6 (x:=v.2 + o3),w6 (x:=S' + (v.2 + o3))]
      have hstop:∀ e (s:S),e ≠ 0→iter (S_text_reader_strip_457_0 fl) m (st,S' + (v.2 + o3),o0,o1,tu,o3,o4,o5,rf,o7,(tk symbols:Int),lik symbols,tsz o7 rf symbols,symbols,n,e,kx,s.x.lo,s.x.hi,((4 + s.k:Nat):Int),win (strm code) s.k,byd code s.k,!s.ok,true,l,s.x.st,code) (ret,b) = R e s:=fun e s he=>(strip_stop (fl:=fl) he (by omega)).trans ((hbb e s l).trans (hK e s l he))
      by_cases hln:(l.length:Int) < n
      rotate_left
      · rw [dec_f hln,check_0]
        try dsimp only
        rw [cond_false,if_neg (fun h=>hln h.1)]
        exact hstop 3 sv (by decide)
      rw [dec_t hln,near_ok (by omega) (by omega)]
      try dsimp only
      by_cases hnr:near (S' + (v.2 + o3)) 100000
      rotate_left
      · rw [decide_eq_false hnr,check_0]
        try dsimp only
        rw [cond_false,if_neg (fun h=>hnr h.2)]
        exact hstop 3 sv (by decide)
      rw [decide_eq_true hnr,check_1,if_pos ⟨hln,hnr⟩]
      try dsimp only
      rw [cond_true]
      omega
  | succ f ih=>
    intro S' l s m hlf hl hS hs hm
    obtain ⟨m,rfl⟩:∃ j,m = j + 1:=⟨m - 1,by omega⟩
    obtain ⟨s0,s1,s2,s3,s4⟩:=lik_sz o7 rf symbols T.n
    obtain ⟨q1,_,_,g1,g2,_⟩:=ov_iff.1 T.ov
    obtain ⟨S1,S2⟩:=hS
    simp only [iter,S_text_reader_strip_457_0,Sg_text_reader_strip_457_0,both_same]
    rw [cond_t (b:=(0:Int)==0) rfl]
    refine Eq.trans (num_ok hfl hc (by omega) (by omega) hs) ?_
    unfold nextD
    rw [fin_bind]
    refine fin_congr (numD_all (by omega) (by omega)) hs (fun v sv hv hsv=> ?_) (fun e s he=> ?_)
    rotate_left
    · try dsimp only
      rw [cond_t (by simp [he])]
      exact (hret e s l).trans (hK e s l he)
    obtain ⟨v1,v2,v3⟩:=hv
    try dsimp only
    rw [cond_f (b:=(0:Int) != 0) rfl]
    cases hv1:v.1 with
    | true=>
      rw [cond_true,if_pos rfl]
      exact hret 0 sv l
    | false=>
      rw [cond_false,if_neg (by simp),w6 (x:=v.2 + o3),w6 (x:=S' + (v.2 + o3))]
      have hstop:∀ e (s:S),e ≠ 0→iter (S_text_reader_strip_457_0 fl) m (st,S' + (v.2 + o3),o0,o1,tu,o3,o4,o5,rf,o7,(tk symbols:Int),lik symbols,tsz o7 rf symbols,symbols,n,e,kx,s.x.lo,s.x.hi,((4 + s.k:Nat):Int),win (strm code) s.k,byd code s.k,!s.ok,true,l,s.x.st,code) (ret,b) = R e s:=fun e s he=>(strip_stop (fl:=fl) he (by omega)).trans ((hbb e s l).trans (hK e s l he))
      by_cases hln:(l.length:Int) < n
      rotate_left
      · rw [dec_f hln,check_0]
        try dsimp only
        rw [cond_false,if_neg (fun h=>hln h.1)]
        exact hstop 3 sv (by decide)
      rw [dec_t hln,near_ok (by omega) (by omega)]
      try dsimp only
      by_cases hnr:near (S' + (v.2 + o3)) 100000
      rotate_left
      · rw [decide_eq_false hnr,check_0]
        try dsimp only
        rw [cond_false,if_neg (fun h=>hnr h.2)]
        exact hstop 3 sv (by decide)
      rw [decide_eq_true hnr,check_1,if_pos ⟨hln,hnr⟩]
      try dsimp only
      rw [cond_true]
      refine Eq.trans (item_ok hfl hc T hN hst hsv (by omega) (R:=R) (fun e s he=>hstop e s he)) ?_
      rw [line_next,fin_bind]
      refine fin_congr (itemD_all T hN) hsv (fun i s6 _ hs6=> ?_) (fun e s he=>rfl)
      exact ih (S' + (v.2 + o3)) (l++ [i]) s6 m (by rw [List.length_append,List.length_singleton]; omega) (by rw [List.length_append,List.length_singleton]; omega) hnr hs6 (by omega)
theorem strip_ok7 {st:Int} (hst: -1000000000≤st∧st≤1000000000) {S':Int} (hS:near S' 100000) {s:S} (hs:Dc.St kx code N s) {l:List Item} (hl:(l.length:Int) < n) {K:_→Option Ans} {R:Int→S→Option Ans} (hK:∀ e (s:S) (l:List Item),e ≠ 0→K (o0,o1,tu,o3,o4,o5,rf,o7,(tk symbols:Int),lik symbols,tsz o7 rf symbols,symbols,n,e,kx,s.x.lo,s.x.hi,((4 + s.k:Nat):Int),win (strm code) s.k,byd code s.k,!s.ok,true,l,s.x.st,code) = R e s):
    F_text_reader_strip_457 fl st S' o0 o1 tu o3 o4 o5 rf o7 (tk symbols:Int) (lik symbols) (tsz o7 rf symbols) symbols n 0 kx s.x.lo s.x.hi ((4 + s.k:Nat):Int) (win (strm code) s.k) (byd code s.k) (!s.ok) true l s.x.st code K = Aft (fun l s=>K (o0,o1,tu,o3,o4,o5,rf,o7,(tk symbols:Int),lik symbols,tsz o7 rf symbols,symbols,n,0,kx,s.x.lo,s.x.hi,((4 + s.k:Nat):Int),win (strm code) s.k,byd code s.k,!s.ok,true,l,s.x.st,code)) R ((lineD o0 o3 o7 rf symbols n st 301 S' l).run kx code s):=by
  unfold F_text_reader_strip_457 Fg_text_reader_strip_457
  refine Eq.trans (item_ok hfl hc T hN hst hs (by omega) (R:=R) (fun e s he=> ?_)) ?_
  · try dsimp only
    unfold L_text_reader_strip_457_0
    exact (strip_stop (fl:=fl) he (by omega)).trans (hK e s l he)
  rw [line_next,fin_bind]
  refine fin_congr (itemD_all T hN) hs (fun i s6 _ hs6=> ?_) (fun e s he=>rfl)
  try dsimp only
  unfold L_text_reader_strip_457_0
  exact next_loop hfl hc T hN hn hst (K:=K) (fun e s l=>rfl) (fun e s l=>rfl) hK 300 S' (l++ [i]) s6 fl (by rw [List.length_append,List.length_singleton]; omega) (by rw [List.length_append,List.length_singleton]; omega) hS hs6 (by omega)
omit hc T hN hn in
theorem text_stop {la fi e:Int} (he:e ≠ 0) {s:S} {l:List Item} {b} {m:Nat} (hm:0 < m):iter (S_text_Decode_0 fl) m (n,la,fi,o0,o1,tu,o3,o4,o5,rf,o7,o0,o1,tu,o3,o4,o5,rf,o7,(tk symbols:Int),lik symbols,tsz o7 rf symbols,symbols,n,e,kx,s.x.lo,s.x.hi,((4 + s.k:Nat):Int),win (strm code) s.k,byd code s.k,!s.ok,true,l,s.x.st,code) b = b (o0,o1,tu,o3,o4,o5,rf,o7,(tk symbols:Int),lik symbols,tsz o7 rf symbols,symbols,n,e,kx,s.x.lo,s.x.hi,((4 + s.k:Nat):Int),win (strm code) s.k,byd code s.k,!s.ok,true,l,s.x.st,code):=by
  obtain ⟨m,rfl⟩:∃ j,m = j + 1:=⟨m - 1,by omega⟩
  simp only [iter,S_text_Decode_0,Sg_text_Decode_0]
  rw [cond_f (by simp [he])]
theorem text_loop {K:_→Option Ans} {R:Int→S→Option Ans} (hK:∀ e (s:S) (l:List Item),e ≠ 0→K (o0,o1,tu,o3,o4,o5,rf,o7,(tk symbols:Int),lik symbols,tsz o7 rf symbols,symbols,n,e,kx,s.x.lo,s.x.hi,((4 + s.k:Nat):Int),win (strm code) s.k,byd code s.k,!s.ok,true,l,s.x.st,code) = R e s):
    ∀ (f:Nat) (la fi:Int) (l:List Item) (s:S) (m:Nat),301≤l.length + f→l.length≤301→ -1048576 * (l.length:Int)≤la→la≤1048576 * (l.length:Int)→near fi 100000→Dc.St kx code N s→f + 2 < m→iter (S_text_Decode_0 fl) m (n,la,fi,o0,o1,tu,o3,o4,o5,rf,o7,o0,o1,tu,o3,o4,o5,rf,o7,(tk symbols:Int),lik symbols,tsz o7 rf symbols,symbols,n,0,kx,s.x.lo,s.x.hi,((4 + s.k:Nat):Int),win (strm code) s.k,byd code s.k,!s.ok,true,l,s.x.st,code) K = Aft (fun l s=>K (o0,o1,tu,o3,o4,o5,rf,o7,(tk symbols:Int),lik symbols,tsz o7 rf symbols,symbols,n,0,kx,s.x.lo,s.x.hi,((4 + s.k:Nat):Int),win (strm code) s.k,byd code s.k,!s.ok,true,l,s.x.st,code)) R ((textD o0 o3 o7 rf symbols n f la fi l).run kx code s):=by
  intro f
  induction f with
  | zero=>
    intro la fi l s m hlf hl h1 h2 hF hs hm
    obtain ⟨m,rfl⟩:∃ j,m = j + 1:=⟨m - 1,by omega⟩
    simp only [iter,S_text_Decode_0,Sg_text_Decode_0]
    rw [cond_t (b:=(0:Int)==0) rfl,dec_f (by omega)]
    rfl
  | succ f ih=>
    intro la fi l s m hlf hl h1 h2 hF hs hm
    obtain ⟨m,rfl⟩:∃ j,m = j + 1:=⟨m - 1,by omega⟩
    obtain ⟨s0,s1,s2,s3,s4⟩:=lik_sz o7 rf symbols T.n
    obtain ⟨F1,F2⟩:=hF
    simp only [iter,S_text_Decode_0,Sg_text_Decode_0]
    rw [cond_t (b:=(0:Int)==0) rfl]
    unfold textD
    by_cases hln:(l.length:Int) < n
    rotate_left
    · rw [dec_f hln,if_neg hln]
      rfl
    rw [dec_t hln,if_pos hln]
    refine Eq.trans (num_ok hfl hc (by omega) (by omega) hs) ?_
    rw [fin_bind]
    refine fin_congr (numD_all (by omega) (by omega)) hs (fun v sv hv hsv=> ?_) (fun e s he=> ?_)
    rotate_left
    · try dsimp only
      have hstop:iter (S_text_Decode_0 fl) m (n,IntKind.i64.wrap (la + 0),fi,o0,o1,tu,o3,o4,o5,rf,o7,o0,o1,tu,o3,o4,o5,rf,o7,(tk symbols:Int),lik symbols,tsz o7 rf symbols,symbols,n,e,kx,s.x.lo,s.x.hi,((4 + s.k:Nat):Int),win (strm code) s.k,byd code s.k,!s.ok,true,l,s.x.st,code) K = R e s:=(text_stop hfl he (by omega)).trans (hK e s l he)
      rw [cond_t (b:=!false) rfl,dec_f (by omega)]
      by_cases hl0:(l.length:Int) = 0
      · rw [cond_t (by simp [hl0])]
        by_cases h8:o0 > 1
        · rw [dec_t h8,check_e he]
          try dsimp only
          rw [within_err he (by omega)]
          try dsimp only
          rw [cond_f (by simp [he])]
          exact hstop
        · rw [dec_f h8,near_ok (by omega) (by omega)]
          try dsimp only
          rw [check_e he]
          try dsimp only
          rw [within_err he (by omega)]
          try dsimp only
          rw [cond_f (by simp [he])]
          exact hstop
      · rw [cond_f (by simpa using hl0),check_e he]
        try dsimp only
        rw [within_err he (by omega)]
        try dsimp only
        rw [cond_f (by simp [he])]
        exact hstop
    obtain ⟨v1,v2,v3⟩:=hv
    try dsimp only
    rw [w6 (x:=la + v.2)]
    have good:(F_text_reader_within_b14 fl 48 fi (-100000) 100000 o0 o1 tu o3 o4 o5 rf o7 (tk symbols:Int) (lik symbols) (tsz o7 rf symbols) symbols n 0 kx sv.x.lo sv.x.hi ((4 + sv.k:Nat):Int) (win (strm code) sv.k) (byd code sv.k) (!sv.ok) true l sv.x.st code fun y=>
        bif y.2.2.2.2.2.2.2.2.2.2.2.2.2.2.1==0 then (F_text_reader_strip_457 fl (la + v.2) y.1 y.2.1 y.2.2.1 y.2.2.2.1 y.2.2.2.2.1 y.2.2.2.2.2.1 y.2.2.2.2.2.2.1 y.2.2.2.2.2.2.2.1 y.2.2.2.2.2.2.2.2.1 y.2.2.2.2.2.2.2.2.2.1 y.2.2.2.2.2.2.2.2.2.2.1 y.2.2.2.2.2.2.2.2.2.2.2.1 y.2.2.2.2.2.2.2.2.2.2.2.2.1 y.2.2.2.2.2.2.2.2.2.2.2.2.2.1 y.2.2.2.2.2.2.2.2.2.2.2.2.2.2.1 y.2.2.2.2.2.2.2.2.2.2.2.2.2.2.2.1 y.2.2.2.2.2.2.2.2.2.2.2.2.2.2.2.2.1 y.2.2.2.2.2.2.2.2.2.2.2.2.2.2.2.2.2.1 y.2.2.2.2.2.2.2.2.2.2.2.2.2.2.2.2.2.2.1 y.2.2.2.2.2.2.2.2.2.2.2.2.2.2.2.2.2.2.2.1 y.2.2.2.2.2.2.2.2.2.2.2.2.2.2.2.2.2.2.2.2.1 y.2.2.2.2.2.2.2.2.2.2.2.2.2.2.2.2.2.2.2.2.2.1 y.2.2.2.2.2.2.2.2.2.2.2.2.2.2.2.2.2.2.2.2.2.2.1 y.2.2.2.2.2.2.2.2.2.2.2.2.2.2.2.2.2.2.2.2.2.2.2.1 y.2.2.2.2.2.2.2.2.2.2.2.2.2.2.2.2.2.2.2.2.2.2.2.2.1 y.2.2.2.2.2.2.2.2.2.2.2.2.2.2.2.2.2.2.2.2.2.2.2.2.2 fun z=>iter (S_text_Decode_0 fl) m (n,la + v.2,y.1,o0,o1,tu,o3,o4,o5,rf,o7,z) K)
        else iter (S_text_Decode_0 fl) m (n,la + v.2,y.1,o0,o1,tu,o3,o4,o5,rf,o7,y.2) K)
        = Aft (fun l s=>K (o0,o1,tu,o3,o4,o5,rf,o7,(tk symbols:Int),lik symbols,tsz o7 rf symbols,symbols,n,0,kx,s.x.lo,s.x.hi,((4 + s.k:Nat):Int),win (strm code) s.k,byd code s.k,!s.ok,true,l,s.x.st,code)) R (((withinD 48 fi (-100000) 100000).bind fun fi'=>(lineD o0 o3 o7 rf symbols n (la + v.2) 301 fi' l).bind fun l'=>textD o0 o3 o7 rf symbols n f (la + v.2) fi' l').run kx code sv):=by
      refine Eq.trans (within_ok hfl hc (by omega) (by omega) (by omega) hsv (R:=R) (fun w e s he=> ?_)) ?_
      · try dsimp only
        rw [cond_f (by simp [he])]
        exact (text_stop hfl he (by omega)).trans (hK e s l he)
      rw [fin_bind]
      refine fin_congr (withinD_all (by omega) (by omega)) hsv (fun fi' sw hw hsw=> ?_) (fun e s he=>rfl)
      try dsimp only
      rw [cond_t (b:=(0:Int)==0) rfl]
      refine Eq.trans (strip_ok7 hfl hc T hN hn (by omega) ⟨hw.1,hw.2⟩ hsw hln (R:=R) (fun e s l he=>(text_stop hfl he (by omega)).trans (hK e s l he))) ?_
      rw [fin_bind]
      refine fin_congr (lineD_all T hN hn 301 fi' l hln) hsw (fun l' sl hl' hsl=> ?_) (fun e s he=>rfl)
      exact ih (la + v.2) fi' l' sl m (by omega) hl'.2 (by omega) (by omega) ⟨hw.1,hw.2⟩ hsl (by omega)
    have bad:iter (S_text_Decode_0 fl) m (n,la + v.2,fi,o0,o1,tu,o3,o4,o5,rf,o7,o0,o1,tu,o3,o4,o5,rf,o7,(tk symbols:Int),lik symbols,tsz o7 rf symbols,symbols,n,3,kx,sv.x.lo,sv.x.hi,((4 + sv.k:Nat):Int),win (strm code) sv.k,byd code sv.k,!sv.ok,true,l,sv.x.st,code) K = R 3 sv:=(text_stop hfl (by decide) (by omega)).trans (hK 3 sv l (by decide))
    cases hv1:v.1 with
    | true=>
      rw [cond_f (b:=!true) rfl,if_neg (by simp),check_0]
      try dsimp only
      rw [within_err (by decide) (by omega)]
      try dsimp only
      rw [cond_f (b:=(3:Int)==0) rfl]
      exact bad
    | false=>
    rw [cond_t (b:=!false) rfl]
    by_cases c1:v.2 > 0∨l.length = 0
    rotate_left
    · rw [dec_f (fun h=>c1 (.inl h)),cond_f (by have:¬ l.length = 0:=fun h=>c1 (.inr h); simpa using this),check_0,if_neg (fun h=>c1 h.2.1)]
      try dsimp only
      rw [within_err (by decide) (by omega)]
      try dsimp only
      rw [cond_f (b:=(3:Int)==0) rfl]
      exact bad
    have fin:∀ Q:Option Ans,(o0 > 1∨near (la + v.2) 100000→Q = Aft (fun l s=>K (o0,o1,tu,o3,o4,o5,rf,o7,(tk symbols:Int),lik symbols,tsz o7 rf symbols,symbols,n,0,kx,s.x.lo,s.x.hi,((4 + s.k:Nat):Int),win (strm code) s.k,byd code s.k,!s.ok,true,l,s.x.st,code)) R (((withinD 48 fi (-100000) 100000).bind fun fi'=>(lineD o0 o3 o7 rf symbols n (la + v.2) 301 fi' l).bind fun l'=>textD o0 o3 o7 rf symbols n f (la + v.2) fi' l').run kx code sv))→(¬ (o0 > 1∨near (la + v.2) 100000)→Q = R 3 sv)→
        Q = Aft (fun l s=>K (o0,o1,tu,o3,o4,o5,rf,o7,(tk symbols:Int),lik symbols,tsz o7 rf symbols,symbols,n,0,kx,s.x.lo,s.x.hi,((4 + s.k:Nat):Int),win (strm code) s.k,byd code s.k,!s.ok,true,l,s.x.st,code)) R ((if false = false∧(v.2 > 0∨l.length = 0)∧(o0 > 1∨near (la + v.2) 100000) then (withinD 48 fi (-100000) 100000).bind fun fi'=>(lineD o0 o3 o7 rf symbols n (la + v.2) 301 fi' l).bind fun l'=>textD o0 o3 o7 rf symbols n f (la + v.2) fi' l' else .bad 3).run kx code sv):=by
      intro Q q1 q2
      by_cases c2:o0 > 1∨near (la + v.2) 100000
      · rw [if_pos ⟨rfl,c1,c2⟩]
        exact q1 c2
      · rw [if_neg (fun h=>c2 h.2.2)]
        exact q2 c2
    refine fin _ (fun c2=> ?_) (fun c2=> ?_)
    · by_cases c3:v.2 > 0
      · rw [dec_t c3]
        by_cases h8:o0 > 1
        · rw [dec_t h8,check_1]
          exact good
        · have hnr:=c2.resolve_left h8
          rw [dec_f h8,near_ok (by omega) (by omega)]
          try dsimp only
          rw [decide_eq_true hnr,check_1]
          exact good
      · have hl0:=c1.resolve_left c3
        rw [dec_f c3,cond_t (by simp [hl0])]
        by_cases h8:o0 > 1
        · rw [dec_t h8,check_1]
          exact good
        · have hnr:=c2.resolve_left h8
          rw [dec_f h8,near_ok (by omega) (by omega)]
          try dsimp only
          rw [decide_eq_true hnr,check_1]
          exact good
    · have h8:¬ o0 > 1:=fun h=>c2 (.inl h)
      have hnr:¬ near (la + v.2) 100000:=fun h=>c2 (.inr h)
      by_cases c3:v.2 > 0
      · rw [dec_t c3,dec_f h8,near_ok (by omega) (by omega)]
        try dsimp only
        rw [decide_eq_false hnr,check_0]
        try dsimp only
        rw [within_err (by decide) (by omega)]
        try dsimp only
        rw [cond_f (b:=(3:Int)==0) rfl]
        exact bad
      · have hl0:=c1.resolve_left c3
        rw [dec_f c3,cond_t (by simp [hl0]),dec_f h8,near_ok (by omega) (by omega)]
        try dsimp only
        rw [decide_eq_false hnr,check_0]
        try dsimp only
        rw [within_err (by decide) (by omega)]
        try dsimp only
        rw [cond_f (b:=(3:Int)==0) rfl]
        exact bad
end
end Go.Proofs.YtipdidpalcmlhaaGreat.Tx
set_option maxHeartbeats 2000000
namespace Go.Proofs.YtipdidpalcmlhaaGreat.Tx
open Go Ev Bm Co Gen Dc Rf
def x0T (o7:Int) (rf:Bool) (symbols:List Bmp):Iv:=⟨List.replicate (tsz o7 rf symbols).toNat 0,0,4294967295⟩
def decT (o0 o1 o3 o4 o5 o7:Int) (rf:Bool) (symbols:List Bmp) (n:Int) (code:List Int):Int×List Item:=
  if bErr o0 o1 o3 o4 o5 o7 symbols [] = 0 then (if symbols.length≤60∧0≤n∧n≤300 then (match (textD o0 o3 o7 rf symbols n 301 0 0 []).run o5 code ⟨true,x0T o7 rf symbols,0⟩ with | (.inr l,_)=>(0,l) | (.inl e,_)=>(e,[])) else (2,[])) else (bErr o0 o1 o3 o4 o5 o7 symbols [],[])
theorem te_of {o0 o1 o3 o4 o5 o7:Int} {symbols:List Bmp} {l:List Item} (h:bErr o0 o1 o3 o4 o5 o7 symbols l = 0) (hn:symbols.length≤60) (hz:∀ b ∈ symbols,∀ v ∈ b.2.2,0≤v):TE o0 o1 o3 o4 o5 o7 symbols∧l.all shpI = true:=by
  unfold bErr at h
  split at h
  · rename_i h1
    split at h
    · rename_i h2
      split at h
      · rename_i h3
        exact ⟨⟨h1,hn,List.all_eq_true.1 h2,hz⟩,h3⟩
      · exact absurd h (by decide)
    · exact absurd h (by decide)
  · exact absurd h (by decide)
theorem x0_ok {o0 o1 o3 o4 o5 o7:Int} {rf:Bool} {symbols:List Bmp} (T:TE o0 o1 o3 o4 o5 o7 symbols):vM o5 (List.replicate (tsz o7 rf symbols).toNat 0) = true∧(x0T o7 rf symbols).Ok o5∧((x0T o7 rf symbols).st.length:Int) = tsz o7 rf symbols∧(x0T o7 rf symbols).st.length≤8192:=by
  obtain ⟨s0,s1,s2,s3,s4⟩:=lik_sz o7 rf symbols T.n
  obtain ⟨_,_,_,_,_,_,_,kk,tt⟩:=ov_iff.1 T.ov
  have hv:vM o5 (List.replicate (tsz o7 rf symbols).toNat 0) = true:=vM_zeros kk (by omega)
  have hl:(x0T o7 rf symbols).st.length = (tsz o7 rf symbols).toNat:=List.length_replicate
  exact ⟨hv,ok_new hv,by rw [hl]; omega,by rw [hl]; omega⟩
section
variable {fl:Nat} (hfl:9223372036854775808≤fl) {o0 o1 o3 o4 o5 o7:Int} {rf tu:Bool} {symbols:List Bmp} {l:List Item}
include hfl
theorem cnew {kd n:Int} (hk:kd = 0∨kd = 1) (h0:0≤n) (h1:n≤8192) {K:Int×Int×List Int→Option Ans}:F_coder_New fl kd n K = K (kd,0,List.replicate n.toNat 0):=by
  unfold F_coder_New
  rcases hk with rfl | rfl
  · rw [cond_f (b:=(0:Int) != 0) rfl,dec_f (by omega),dec_f (by omega),dec_t (by refine ⟨by omega, ?_,by omega,by omega⟩; first | rfl | trivial)]
  · rw [cond_t (b:=(1:Int) != 0) rfl,cond_f (b:=(1:Int) != 1) rfl,dec_f (by omega),dec_f (by omega),dec_t (by refine ⟨by omega, ?_,by omega,by omega⟩; first | rfl | trivial)]
theorem tdec {n:Int} {code:List Int} (hs:symbols.length≤1000000000000000) (hz:∀ b ∈ symbols,∀ v ∈ b.2.2,0≤v) (hcb:Bytes code) (hcl:code.length≤10000000) {K:Int×List Item→Option Ans}:
    F_text_Decode fl o0 o1 tu o3 o4 o5 rf o7 symbols n code K = K (decT o0 o1 o3 o4 o5 o7 rf symbols n code):=by
  unfold F_text_Decode Fg_text_Decode decT
  rw [begun_ok hfl hs (by simp)]
  try dsimp only
  rw [cn]
  by_cases he:bErr o0 o1 o3 o4 o5 o7 symbols [] = 0
  rotate_left
  · rw [if_neg he,if_neg he]
  rw [if_pos he,if_pos he]
  by_cases h1:(symbols.length:Int) > 60
  · rw [dec_t h1,if_neg (by omega)]
  rw [dec_f h1]
  by_cases h2:n < 0
  · rw [dec_t h2,if_neg (by omega)]
  rw [dec_f h2]
  by_cases h3:n > 300
  · rw [dec_t h3,if_neg (by omega)]
  rw [dec_f h3,if_pos (by omega)]
  have hn60:symbols.length≤60:=by omega
  obtain ⟨T,_⟩:=te_of he hn60 hz
  obtain ⟨q1,_,_,_,_,_,_,kk,tt⟩:=ov_iff.1 T.ov
  obtain ⟨s0,s1,s2,s3,s4⟩:=lik_sz o7 rf symbols hn60
  obtain ⟨hv,hx,hN,hn8⟩:=x0_ok (rf:=rf) T
  rw [lay_ok hn60 tt]
  try dsimp only
  rw [cnew hfl kk (by omega) (by omega)]
  try dsimp only
  rw [new_decB hfl hv hcb hcl]
  try dsimp only
  unfold L_text_Decode_0
  have hst:Dc.St o5 code (x0T o7 rf symbols).st.length ⟨true,x0T o7 rf symbols,0⟩:=⟨rfl,hx,rfl,Nat.zero_le _⟩
  have main:=text_loop (fl:=fl) hfl (kx:=o5) (code:=code) (N:=(x0T o7 rf symbols).st.length) ⟨hcb,hcl,hn8⟩ (tu:=tu) (n:=n) T hN (by omega) (K:=fun b=>bif b.2.2.2.2.2.2.2.2.2.2.2.2.2.1 != 0 then K (b.2.2.2.2.2.2.2.2.2.2.2.2.2.1,[]) else K (0,b.2.2.2.2.2.2.2.2.2.2.2.2.2.2.2.2.2.2.2.2.2.2.1)) (R:=fun e _=>K (e,[])) (fun e s l he=>by
    try dsimp only
    rw [cond_t (by simp [he])]) 301 0 0 [] ⟨true,x0T o7 rf symbols,0⟩ fl (by simp) (by simp) (by simp) (by simp) ⟨by omega,by omega⟩ hst (by omega)
  refine Eq.trans main ?_
  cases (textD o0 o3 o7 rf symbols n 301 0 0 []).run o5 code ⟨true,x0T o7 rf symbols,0⟩ with
  | mk r s=>
    cases r <;> rfl
end
end Go.Proofs.YtipdidpalcmlhaaGreat.Tx
set_option maxHeartbeats 2000000
namespace Go.Proofs.YtipdidpalcmlhaaGreat.Tx
open Go Ev Bm Co Gen Dc Rf
theorem rwidth_at (m:Nat) (K:Int→Option Ans):∀ n:Nat,n≤64→F_ref03_Width (m + 70) (n:Int) K = K ((wd n:Nat):Int)
  | 0,_ | 1,_ | 2,_ | 3,_ | 4,_ | 5,_ | 6,_ | 7,_ | 8,_ | 9,_ | 10,_ | 11,_ | 12,_ | 13,_ | 14,_ | 15,_ | 16,_ | 17,_ | 18,_ | 19,_ | 20,_ | 21,_ | 22,_ | 23,_ | 24,_ | 25,_ | 26,_ | 27,_ | 28,_ | 29,_ | 30,_ | 31,_ | 32,_ | 33,_ | 34,_ | 35,_ | 36,_ | 37,_ | 38,_ | 39,_ | 40,_ | 41,_ | 42,_ | 43,_ | 44,_ | 45,_ | 46,_ | 47,_ | 48,_ | 49,_ | 50,_ | 51,_ | 52,_ | 53,_ | 54,_ | 55,_ | 56,_ | 57,_ | 58,_ | 59,_ | 60,_ | 61,_ | 62,_ | 63,_ | 64,_=>by kernel_rfl
  | n + 65,h=>by omega
theorem rmodel_ok {fl:Nat} (hfl:9223372036854775808≤fl) {o0 o1 o3 o4 o5 o7:Int} {tu rf:Bool} {symbols:List Bmp} (h:symbols.length≤60) (h7:o7 = 0∨o7 = 1) {K:Int×Int×List Int→Option Ans}:
    F_ref10_Model fl o0 o1 tu o3 o4 o5 rf o7 (symbols.length:Int) K = K (o5,(tk symbols:Int),(x0T o7 rf symbols).st):=by
  obtain ⟨s0,s1,s2,s3,s4⟩:=lik_sz o7 rf symbols h
  obtain ⟨ka,kb,kc,kd⟩:=tk_ok h
  have hc:=csz_eq o7
  have e2:(2:Int) ^ tk symbols = ((2 ^ tk symbols:Nat):Int):=by rw [Int.natCast_pow]; rfl
  have es:ishl .i64 1 (tk symbols:Int) = ((2 ^ tk symbols:Nat):Int):=by rw [ishl_one (by omega) (by omega),Int.toNat_natCast,e2]
  have hS:∀ K:Int×Int→Option Ans,F_ref08_Size fl o7 K = K (csz o7 + 1,0):=fun K=>by
    rcases h7 with rfl | rfl <;> rfl
  have hW:∀ K:Int→Option Ans,F_ref03_Width fl (symbols.length:Int) K = K (tk symbols:Int):=fun K=>by
    obtain ⟨m,rfl⟩:∃ m,fl = m + 70:=⟨fl - 70,by omega⟩
    exact rwidth_at m K _ (by omega)
  unfold F_ref10_Model Fg_ref10_Model x0T
  rw [hW]
  try dsimp only
  rw [dec_f (by omega),es,w6 (x:=385 + ((2 ^ tk symbols:Nat):Int)),w6 (x:=385 + ((2 ^ tk symbols:Nat):Int) - 1)]
  have el:385 + ((2 ^ tk symbols:Nat):Int) - 1 = lik symbols:=by unfold lik; omega
  rw [el]
  cases rf with
  | true=>
    have et:lik symbols + (csz o7 + 1) = tsz o7 true symbols:=by unfold tsz; rw [if_pos rfl]
    rw [cond_true,hS]
    try dsimp only
    rw [w6 (x:=lik symbols + (csz o7 + 1)),dec_t (by refine ⟨by omega,rfl,by omega,by omega⟩),et]
  | false=>
    have et:lik symbols = tsz o7 false symbols:=by unfold tsz; rw [if_neg (by simp)]; omega
    rw [cond_false,dec_t (by refine ⟨by omega,rfl,by omega,by omega⟩), ← et]
section
variable {fl:Nat} (hfl:9223372036854775808≤fl) {kd:Int} {x:Iv} (hx:x.Ok kd) (hn:x.st.length≤8192) {out:List Int}
include hfl hx hn
end
section
variable {fl:Nat} (hfl:9223372036854775808≤fl) {kd:Int} {x:Iv} (hx:x.Ok kd) (hn:x.st.length≤8192) {out:List Int}
include hfl hx hn
end
section
variable {fl:Nat} (hfl:9223372036854775808≤fl) {kd:Int} {x:Iv} (hx:x.Ok kd) (hn:x.st.length≤8192)
variable {o0 o1 o3 o4 o5 o7:Int} {rf tu:Bool} {symbols:List Bmp} {l:List Item} (T:TE o0 o1 o3 o4 o5 o7 symbols) (hI:∀ i ∈ l,ItOk rf symbols i) (hl:l.length≤300) (hN:(x.st.length:Int) = tsz o7 rf symbols)
include hfl hx hn T hI hl hN
end
section
variable {fl:Nat} (hfl:9223372036854775808≤fl) {o0 o1 o3 o4 o5 o7:Int} {rf tu:Bool} {symbols:List Bmp} {l:List Item}
include hfl
end
end Go.Proofs.YtipdidpalcmlhaaGreat.Tx
set_option maxHeartbeats 2000000
namespace Go.Proofs.YtipdidpalcmlhaaGreat.Tx
open Go Ev Bm Co Gen Dc Rf
section
variable {fl:Nat} (hfl:9223372036854775808≤fl) {kx:Int} {code:List Int} {N:Nat} (hc:Cd code N)
variable {o0 o1 o3 o4 o5 o7:Int} {rf tu:Bool} {symbols:List Bmp}
include hfl hc
theorem rnumber_ok {base:Int} (h0:0≤base) (h1:base + 48≤(N:Int)) {s:S} (hs:St kx code N s) {kk:Int} {K}:
    F_ref10_reader_number_986 fl base o0 o1 tu o3 o4 o5 rf o7 symbols kk kx s.x.lo s.x.hi ((4 + s.k:Nat):Int) (win (strm code) s.k) (byd code s.k) false s.x.st code K
    = Aft (fun v s'=>K (v.2,(if v.1 = true then 3 else 0),o0,o1,tu,o3,o4,o5,rf,o7,symbols,kk,kx,s'.x.lo,s'.x.hi,((4 + s'.k:Nat):Int),win (strm code) s'.k,byd code s'.k,!s'.ok,s'.x.st,code)) (fun e s'=>K (0,e,o0,o1,tu,o3,o4,o5,rf,o7,symbols,kk,kx,s'.x.lo,s'.x.hi,((4 + s'.k:Nat):Int),win (strm code) s'.k,byd code s'.k,!s'.ok,s'.x.st,code)) ((numD base).run kx code s):=by
  unfold F_ref10_reader_number_986 Fg_ref10_reader_number_986
  rw [rNget_ok hfl hc h0 h1 hs]
  have he:=run_ends (numD base) (numD_all h0 h1) hs
  cases hr:(numD base).run kx code s with
  | mk r s'=>
    rw [hr] at he
    cases r with
    | inl e=>
      simp only [rNRes,Aft]
      have hne:e ≠ 0:=by rcases he with ⟨rfl,_⟩ | ⟨rfl,_⟩ <;> decide
      rw [cond_f (by simp [hne])]
    | inr v=>
      simp only [rNRes,Aft]
      rw [cond_t (b:=(0:Int)==0) rfl]
      cases v.1 <;> rfl
theorem rside_ok {base add:Int} (h0:0≤base) (h1:base + 48≤(N:Int)) (ha: -1000000≤add∧add≤1000000) {s:S} (hs:St kx code N s) {kk:Int} {K} {R:Int→S→Option Ans}
    (hK:∀ v e (s:S),e ≠ 0→K (v,e,o0,o1,tu,o3,o4,o5,rf,o7,symbols,kk,kx,s.x.lo,s.x.hi,((4 + s.k:Nat):Int),win (strm code) s.k,byd code s.k,!s.ok,s.x.st,code) = R e s):
    F_ref10_reader_side_764 fl base add o0 o1 tu o3 o4 o5 rf o7 symbols kk kx s.x.lo s.x.hi ((4 + s.k:Nat):Int) (win (strm code) s.k) (byd code s.k) false s.x.st code K
    = Aft (fun v s'=>K (v,0,o0,o1,tu,o3,o4,o5,rf,o7,symbols,kk,kx,s'.x.lo,s'.x.hi,((4 + s'.k:Nat):Int),win (strm code) s'.k,byd code s'.k,!s'.ok,s'.x.st,code)) R ((withinD base add 1 40).run kx code s):=by
  unfold F_ref10_reader_side_764 Fg_ref10_reader_side_764 withinD
  rw [rnumber_ok hfl hc h0 h1 hs,fin_bind]
  refine fin_congr (numD_all h0 h1) hs (fun v s' hv hs'=> ?_) (fun e s' he=> ?_)
  · obtain ⟨v1,v2,v3⟩:=hv
    try dsimp only
    rw [w6 (x:=v.2 + add)]
    by_cases hn:v.1 = true
    · rw [if_pos hn,cond_f (b:=(3:Int)==0) rfl,if_neg (fun h=>by rw [hn] at h; cases h.1)]
      simp only [Dec.run,Aft]
      exact hK _ 3 s' (by decide)
    · rw [if_neg hn,cond_t (b:=(0:Int)==0) rfl]
      by_cases h1':v.2 + add < 1
      · rw [dec_t h1',if_neg (fun h=>by omega)]
        simp only [Dec.run,Aft]
        exact hK _ 3 s' (by decide)
      rw [dec_f h1']
      by_cases h2':v.2 + add > 40
      · rw [dec_t h2',if_neg (fun h=>by omega)]
        simp only [Dec.run,Aft]
        exact hK _ 3 s' (by decide)
      rw [dec_f h2',if_pos ⟨by simpa using hn,by omega,by omega⟩]
      simp only [Dec.run,Aft]
  · try dsimp only
    rw [cond_f (by simp [he])]
    exact hK _ e s' he
theorem roffset_ok {base:Int} (h0:0≤base) (h1:base + 48≤(N:Int)) {s:S} (hs:St kx code N s) {kk:Int} {K} {R:Int→S→Option Ans}
    (hK:∀ v e (s:S),e ≠ 0→K (v,e,o0,o1,tu,o3,o4,o5,rf,o7,symbols,kk,kx,s.x.lo,s.x.hi,((4 + s.k:Nat):Int),win (strm code) s.k,byd code s.k,!s.ok,s.x.st,code) = R e s):
    F_ref10_reader_offset_986 fl base o0 o1 tu o3 o4 o5 rf o7 symbols kk kx s.x.lo s.x.hi ((4 + s.k:Nat):Int) (win (strm code) s.k) (byd code s.k) false s.x.st code K
    = Aft (fun v s'=>K (v,0,o0,o1,tu,o3,o4,o5,rf,o7,symbols,kk,kx,s'.x.lo,s'.x.hi,((4 + s'.k:Nat):Int),win (strm code) s'.k,byd code s'.k,!s'.ok,s'.x.st,code)) R ((withinD base 0 (-200) 200).run kx code s):=by
  unfold F_ref10_reader_offset_986 Fg_ref10_reader_offset_986 withinD
  rw [rnumber_ok hfl hc h0 h1 hs,fin_bind]
  refine fin_congr (numD_all h0 h1) hs (fun v s' hv hs'=> ?_) (fun e s' he=> ?_)
  · obtain ⟨v1,v2,v3⟩:=hv
    try dsimp only
    rw [Int.add_zero]
    by_cases hn:v.1 = true
    · rw [if_pos hn,cond_f (b:=(3:Int)==0) rfl,if_neg (fun h=>by rw [hn] at h; cases h.1)]
      simp only [Dec.run,Aft]
      exact hK _ 3 s' (by decide)
    · rw [if_neg hn,cond_t (b:=(0:Int)==0) rfl,side_ok]
      try dsimp only
      by_cases h1':near v.2 200
      · rw [decide_eq_true h1',cond_f (b:=!true) rfl,if_pos ⟨by simpa using hn,h1'.1,h1'.2⟩]
        simp only [Dec.run,Aft]
      · rw [decide_eq_false h1',cond_t (b:=!false) rfl,if_neg (fun h=>h1' ⟨h.2.1,h.2.2⟩)]
        simp only [Dec.run,Aft]
        exact hK _ 3 s' (by decide)
  · try dsimp only
    rw [cond_f (by simp [he])]
    exact hK _ e s' he
variable (T:TE o0 o1 o3 o4 o5 o7 symbols) (hN:(N:Int) = tsz o7 rf symbols)
include T hN
theorem rrefined_ok (hrf:rf = true) {id S' T':Int} (i0:0≤id) (i1:id < (symbols.length:Int)) {s:S} (hs:St kx code N s) {K} {R:Int→S→Option Ans}
    (hK:∀ a b c r dx dy w h p e (s:S),e ≠ 0→K (a,b,c,r,dx,dy,w,h,p,e,o0,o1,tu,o3,o4,o5,rf,o7,symbols,(tk symbols:Int),kx,s.x.lo,s.x.hi,((4 + s.k:Nat):Int),win (strm code) s.k,byd code s.k,!s.ok,s.x.st,code) = R e s):
    F_ref10_reader_refined_cdb fl id S' T' true 0 0 0 0 [] o0 o1 tu o3 o4 o5 rf o7 symbols (tk symbols:Int) kx s.x.lo s.x.hi ((4 + s.k:Nat):Int) (win (strm code) s.k) (byd code s.k) false s.x.st code K
    = Aft (fun (i:Item) s'=>K (i.1,i.2.1,i.2.2.1,i.2.2.2.1,i.2.2.2.2.1,i.2.2.2.2.2.1,i.2.2.2.2.2.2.1,i.2.2.2.2.2.2.2.1,i.2.2.2.2.2.2.2.2,0,o0,o1,tu,o3,o4,o5,rf,o7,symbols,(tk symbols:Int),kx,s'.x.lo,s'.x.hi,((4 + s'.k:Nat):Int),win (strm code) s'.k,byd code s'.k,!s'.ok,s'.x.st,code)) R ((refD o7 (lik symbols) (bmAt symbols id) id S' T').run kx code s):=by
  obtain ⟨s0,s1,s2,s3,s4⟩:=lik_sz o7 rf symbols T.n
  have hs4:=s4 hrf
  obtain ⟨pb,b0,b1,b2,b3⟩:=T.bm i0 i1
  obtain ⟨_,_,_,_,_,_,_,kk,tt⟩:=ov_iff.1 T.ov
  obtain ⟨ka,kb,kc,kd⟩:=tk_ok T.n
  have e2:(2:Int) ^ tk symbols = ((2 ^ tk symbols:Nat):Int):=by rw [Int.natCast_pow]; rfl
  have es:ishl .i64 1 (tk symbols:Int) = ((2 ^ tk symbols:Nat):Int):=by rw [ishl_one (by omega) (by omega),Int.toNat_natCast,e2]
  have ebs:IntKind.i64.wrap (IntKind.i64.wrap (385 + Ev.ishl IntKind.i64 1 (tk symbols:Int)) - 1) = lik symbols:=by
    rw [es,w6 (x:=385 + _),wrap64 (by omega) (by omega)]
    unfold lik
    omega
  unfold F_ref10_reader_refined_cdb Fg_ref10_reader_refined_cdb refD
  rw [dec_t ⟨i0,i1⟩]
  rw [show symbols.getD id.toNat (0,0,[]) = bmAt symbols id from rfl]
  generalize bmAt symbols id = B at *
  refine Eq.trans (rside_ok hfl hc (by omega) (by omega) (by omega) hs (R:=R) (fun v e s he=> ?_)) ?_
  · try dsimp only
    rw [cond_t (by simp [he])]
    exact hK _ _ _ _ _ _ _ _ _ e s he
  rw [fin_bind]
  refine fin_congr (withinD_all (by omega) (by omega)) hs (fun w sw hw hsw=> ?_) (fun e s he=>rfl)
  try dsimp only
  rw [cond_f (b:=(0:Int) != 0) rfl]
  simp only [hsw.ok,Bool.not_true]
  refine Eq.trans (rside_ok hfl hc (by omega) (by omega) (by omega) hsw (R:=R) (fun v e s he=> ?_)) ?_
  · try dsimp only
    rw [cond_t (by simp [he])]
    exact hK _ _ _ _ _ _ _ _ _ e s he
  rw [fin_bind]
  refine fin_congr (withinD_all (by omega) (by omega)) hsw (fun h sh hh hsh=> ?_) (fun e s he=>rfl)
  try dsimp only
  rw [cond_f (b:=(0:Int) != 0) rfl]
  simp only [hsh.ok,Bool.not_true]
  refine Eq.trans (roffset_ok hfl hc (by omega) (by omega) hsh (R:=R) (fun v e s he=> ?_)) ?_
  · try dsimp only
    rw [cond_t (by simp [he])]
    exact hK _ _ _ _ _ _ _ _ _ e s he
  rw [fin_bind]
  refine fin_congr (withinD_all (by omega) (by omega)) hsh (fun dx sx hdx hsx=> ?_) (fun e s he=>rfl)
  try dsimp only
  rw [cond_f (b:=(0:Int) != 0) rfl]
  simp only [hsx.ok,Bool.not_true]
  refine Eq.trans (roffset_ok hfl hc (by omega) (by omega) hsx (R:=R) (fun v e s he=> ?_)) ?_
  · try dsimp only
    rw [cond_t (by simp [he])]
    exact hK _ _ _ _ _ _ _ _ _ e s he
  rw [fin_bind]
  refine fin_congr (withinD_all (by omega) (by omega)) hsx (fun dy sy hdy hsy=> ?_) (fun e s he=>rfl)
  try dsimp only
  have hf:=shape_fit hw.1 hw.2 hh.1 hh.2
  have hr:∀ p,Pix w h p→RR o7 dx dy o5 w h p B.1 B.2.1 B.2.2:=fun p hp=>⟨tt,kk,hdx,hdy,hp,pb⟩
  rw [cond_f (b:=(0:Int) != 0) rfl,dec_f (by omega)]
  unfold F_ref10_refine
  simp only [hsy.ok,Bool.not_true,both_same,ebs]
  refine Eq.trans (rget3 hfl hc hr hf (by omega) (by omega) hsy) ?_
  rw [fin_bind]
  refine fin_congr (regD_all pb.bit (by omega) (by omega) hf) hsy (fun p sp hp hsp=> ?_) (fun e s he=> ?_)
  · rfl
  · exact hK _ _ _ _ _ _ _ _ _ e s he
theorem rrest_ok {st S':Int} (hst: -1000000000≤st∧st≤1000000000) (hone:o0 = 1→near st 100000) {s:S} (hs:St kx code N s) {K} {R:Int→S→Option Ans}
    (hK:∀ a b c r dx dy w h p e (s:S),e ≠ 0→K (a,b,c,r,dx,dy,w,h,p,e,o0,o1,tu,o3,o4,o5,rf,o7,symbols,(tk symbols:Int),kx,s.x.lo,s.x.hi,((4 + s.k:Nat):Int),win (strm code) s.k,byd code s.k,!s.ok,s.x.st,code) = R e s):
    F_ref10_reader_rest_764 fl st S' o0 o1 tu o3 o4 o5 rf o7 symbols (tk symbols:Int) kx s.x.lo s.x.hi ((4 + s.k:Nat):Int) (win (strm code) s.k) (byd code s.k) false s.x.st code K
    = Aft (fun (i:Item) s'=>K (i.1,i.2.1,i.2.2.1,i.2.2.2.1,i.2.2.2.2.1,i.2.2.2.2.2.1,i.2.2.2.2.2.2.1,i.2.2.2.2.2.2.2.1,i.2.2.2.2.2.2.2.2,0,o0,o1,tu,o3,o4,o5,rf,o7,symbols,(tk symbols:Int),kx,s'.x.lo,s'.x.hi,((4 + s'.k:Nat):Int),win (strm code) s'.k,byd code s'.k,!s'.ok,s'.x.st,code)) R ((itemD o0 o7 rf symbols st S').run kx code s):=by
  obtain ⟨s0,s1,s2,s3,s4⟩:=lik_sz o7 rf symbols T.n
  obtain ⟨q1,_⟩:=ov_iff.1 T.ov
  obtain ⟨ka,kb,kc,kd⟩:=tk_ok T.n
  have e2:(2:Int) ^ tk symbols = ((2 ^ tk symbols:Nat):Int):=by rw [Int.natCast_pow]; rfl
  have hidb:(385:Int) + 2 ^ tk symbols - 1≤(N:Int):=by rw [e2]; unfold lik at *; omega
  have hw8: -8000000000≤st * o0∧st * o0≤8000000000:=by rcases q1 with rfl | rfl | rfl | rfl <;> omega
  have tail:∀ (Tv:Int) (s:S),St kx code N s→∀ c0 c1 c2:Int, 
      (F_ref03_GetId_67d fl 385 (tk symbols:Int) kx s.x.lo s.x.hi ((4 + s.k:Nat):Int) (win (strm code) s.k) (byd code s.k) false s.x.st code (fun y=>
        bif y.2.1 != 0 then K (0,S',Tv,false,0,0,0,0,[],y.2.1,o0,o1,tu,o3,o4,o5,rf,o7,symbols,(tk symbols:Int),y.2.2.1,y.2.2.2.1,y.2.2.2.2.1,y.2.2.2.2.2.1,y.2.2.2.2.2.2.1,y.2.2.2.2.2.2.2.1,y.2.2.2.2.2.2.2.2.1,y.2.2.2.2.2.2.2.2.2.1,y.2.2.2.2.2.2.2.2.2.2)
        else bif decide (y.1≥(symbols.length:Int)) then K (0,S',Tv,false,0,0,0,0,[],3,o0,o1,tu,o3,o4,o5,rf,o7,symbols,(tk symbols:Int),y.2.2.1,y.2.2.2.1,y.2.2.2.2.1,y.2.2.2.2.2.1,y.2.2.2.2.2.2.1,y.2.2.2.2.2.2.2.1,y.2.2.2.2.2.2.2.2.1,y.2.2.2.2.2.2.2.2.2.1,y.2.2.2.2.2.2.2.2.2.2)
        else bif !rf then K (y.1,S',Tv,false,0,0,0,0,[],0,o0,o1,tu,o3,o4,o5,rf,o7,symbols,(tk symbols:Int),y.2.2.1,y.2.2.2.1,y.2.2.2.2.1,y.2.2.2.2.2.1,y.2.2.2.2.2.2.1,y.2.2.2.2.2.2.2.1,y.2.2.2.2.2.2.2.2.1,y.2.2.2.2.2.2.2.2.2.1,y.2.2.2.2.2.2.2.2.2.2)
        else F_ref02_Decoder_Get_0a6 fl 384 y.2.2.1 y.2.2.2.1 y.2.2.2.2.1 y.2.2.2.2.2.1 y.2.2.2.2.2.2.1 y.2.2.2.2.2.2.2.1 y.2.2.2.2.2.2.2.2.1 y.2.2.2.2.2.2.2.2.2.1 y.2.2.2.2.2.2.2.2.2.2 (fun z=>
          bif z.2.1 != 0 then K (y.1,S',Tv,false,0,0,0,0,[],z.2.1,o0,o1,tu,o3,o4,o5,rf,o7,symbols,(tk symbols:Int),z.2.2.1,z.2.2.2.1,z.2.2.2.2.1,z.2.2.2.2.2.1,z.2.2.2.2.2.2.1,z.2.2.2.2.2.2.2.1,z.2.2.2.2.2.2.2.2.1,z.2.2.2.2.2.2.2.2.2.1,z.2.2.2.2.2.2.2.2.2.2)
          else bif z.1==0 then K (y.1,S',Tv,false,0,0,0,0,[],z.2.1,o0,o1,tu,o3,o4,o5,rf,o7,symbols,(tk symbols:Int),z.2.2.1,z.2.2.2.1,z.2.2.2.2.1,z.2.2.2.2.2.1,z.2.2.2.2.2.2.1,z.2.2.2.2.2.2.2.1,z.2.2.2.2.2.2.2.2.1,z.2.2.2.2.2.2.2.2.2.1,z.2.2.2.2.2.2.2.2.2.2)
          else F_ref10_reader_refined_cdb fl y.1 S' Tv true 0 0 0 0 [] o0 o1 tu o3 o4 o5 rf o7 symbols (tk symbols:Int) z.2.2.1 z.2.2.2.1 z.2.2.2.2.1 z.2.2.2.2.2.1 z.2.2.2.2.2.2.1 z.2.2.2.2.2.2.2.1 z.2.2.2.2.2.2.2.2.1 z.2.2.2.2.2.2.2.2.2.1 z.2.2.2.2.2.2.2.2.2.2 K)))
      = Aft (fun (i:Item) s'=>K (i.1,i.2.1,i.2.2.1,i.2.2.2.1,i.2.2.2.2.1,i.2.2.2.2.2.1,i.2.2.2.2.2.2.1,i.2.2.2.2.2.2.2.1,i.2.2.2.2.2.2.2.2,0,o0,o1,tu,o3,o4,o5,rf,o7,symbols,(tk symbols:Int),kx,s'.x.lo,s'.x.hi,((4 + s'.k:Nat):Int),win (strm code) s'.k,byd code s'.k,!s'.ok,s'.x.st,code)) R
        (((idD 385 (fun p=>.ret (p - ((2 ^ tk symbols:Nat):Int))) (tk symbols) 1).bind fun id=>
          if id < (symbols.length:Int) then
            (if rf = true then (.get 384 fun b=>if b = 1 then refD o7 (lik symbols) (bmAt symbols id) id S' Tv else .ret (id,S',Tv,false,0,0,0,0,[]))
             else .ret (id,S',Tv,false,0,0,0,0,[]))
          else .bad 3).run kx code s):=by
    intro Tv s hs c0 c1 c2
    have hida:(idD 385 (fun p=>Dec.ret (p - ((2 ^ tk symbols:Nat):Int))) (tk symbols) 1).All N (fun id=>0≤id):=by
      have h:=idD_all (β:=Int) (base:=385) (n:=N) (P:=fun id=>0≤id) (k:=fun p=>Dec.ret (p - ((2 ^ tk symbols:Nat):Int))) (by omega) (K:=tk symbols) hidb (fun p h1 h2=>by
        show 0≤p - ((2 ^ tk symbols:Nat):Int)
        rw [← e2]
        omega) (tk symbols) 0 1 (by omega) (by decide) (by decide)
      exact h
    refine Eq.trans (rGetId_ok hfl hc (by omega) (by omega) hidb hs) ?_
    rw [fin_bind]
    refine fin_congr hida hs (fun id si hid hsi=> ?_) (fun e s he=> ?_)
    rotate_left
    · try dsimp only
      rw [cond_t (by simp [he])]
      exact hK _ _ _ _ _ _ _ _ _ e s he
    try dsimp only
    rw [cond_f (b:=(0:Int) != 0) rfl]
    by_cases hlt:id < (symbols.length:Int)
    rotate_left
    · rw [dec_t (by omega),if_neg hlt]
      simp only [Dec.run,Aft]
      exact hK _ _ _ _ _ _ _ _ _ 3 si (by decide)
    rw [dec_f (by omega),if_pos hlt]
    by_cases hrf:rf = true
    rotate_left
    · have hrf':rf = false:=by simpa using hrf
      rw [if_neg hrf,cond_t (by simp [hrf'])]
      simp only [Dec.run,Aft]
    rw [if_pos hrf,cond_f (by simp [hrf])]
    have hk:=hsi.k
    have hl:=hc.l
    simp only [hsi.ok,Bool.not_true]
    rw [Co.rget_okB hfl hsi.x (by omega) (by rw [hsi.sl]; omega) hc.b hl (by omega)]
    simp only [Dec.run]
    cases e:Co.get kx code si.x si.k 384 with
    | none=>
      try dsimp only
      rw [cond_t (b:=(6:Int) != 0) rfl]
      exact hK _ _ _ _ _ _ _ _ _ 6 ⟨false,si.x,si.k⟩ (by decide)
    | some v=>
      obtain ⟨b',x',k'⟩:=v
      obtain ⟨g1,g2,g3,g4⟩:=get_some hsi.x (by omega) (by rw [hsi.sl]; omega) e
      have hs':St kx code N ⟨true,x',k'⟩:=⟨rfl,g2,by rw [g3]; exact hsi.sl,g4⟩
      try dsimp only
      rw [cond_f (b:=(0:Int) != 0) rfl]
      rcases g1 with rfl | rfl
      · rw [cond_t (b:=(0:Int)==0) rfl,if_neg (by decide)]
        rfl
      · rw [cond_f (b:=(1:Int)==0) rfl,if_pos rfl]
        exact rrefined_ok hfl hc T hN hrf hid hlt hs' hK
  unfold F_ref10_reader_rest_764 Fg_ref10_reader_rest_764 itemD
  rw [fin_bind]
  by_cases h1:o0 > 1
  · rw [dec_t h1,if_pos h1,w6 (x:=st * o0)]
    unfold withinD
    rw [rnumber_ok hfl hc (by omega) (by omega) hs,fin_bind]
    refine fin_congr (numD_all (by omega) (by omega)) hs (fun v s' hv hs'=> ?_) (fun e s' he=> ?_)
    rotate_left
    · try dsimp only
      rw [cond_t (by simp [he])]
      exact hK _ _ _ _ _ _ _ _ _ e s' he
    obtain ⟨v1,v2,v3⟩:=hv
    try dsimp only
    by_cases hnn:v.1 = true
    · rw [if_pos hnn,cond_t (b:=(3:Int) != 0) rfl,if_neg (fun h=>by rw [hnn] at h; cases h.1)]
      simp only [Dec.run,Aft]
      exact hK _ _ _ _ _ _ _ _ _ 3 s' (by decide)
    rw [if_neg hnn,cond_f (b:=(0:Int) != 0) rfl]
    by_cases hlo:v.2 < 0
    · rw [dec_t hlo,if_neg (fun h=>by omega)]
      simp only [Dec.run,Aft]
      exact hK _ _ _ _ _ _ _ _ _ 3 s' (by decide)
    rw [dec_f hlo]
    by_cases hhi:v.2≥o0
    · rw [dec_t hhi,if_neg (fun h=>by omega)]
      simp only [Dec.run,Aft]
      exact hK _ _ _ _ _ _ _ _ _ 3 s' (by decide)
    rw [dec_f hhi,if_pos ⟨by simpa using hnn,by omega,by omega⟩]
    simp only [Dec.run,Aft]
    rw [Int.add_zero,w6 (x:=st * o0 + v.2),shift_ok]
    try dsimp only
    by_cases hnear:near (st * o0 + v.2) 100000
    · rw [decide_eq_true hnear,cond_f (b:=!true) rfl,if_pos hnear]
      simp only [hs'.ok,Bool.not_true]
      exact tail _ s' hs' 0 0 0
    · rw [decide_eq_false hnear,cond_t (b:=!false) rfl,if_neg hnear]
      simp only [Dec.run,Aft]
      exact hK _ _ _ _ _ _ _ _ _ 3 s' (by decide)
  · have h01:o0 = 1:=by rcases q1 with rfl | rfl | rfl | rfl <;> omega
    have hne:=hone h01
    rw [dec_f h1,if_neg h1,w6 (x:=st * o0)]
    simp only [Dec.run,Aft]
    rw [Int.add_zero,if_pos (by rw [h01,Int.mul_one]; exact hne)]
    exact tail _ s hs 0 0 0
end
end Go.Proofs.YtipdidpalcmlhaaGreat.Tx
set_option maxHeartbeats 4000000
namespace Go.Proofs.YtipdidpalcmlhaaGreat.Tx
open Go Ev Bm Co Gen Dc Rf
theorem rNRes_aft {kx:Int} {code:List Int} {K}:∀ r:(Int ⊕ (Bool×Int))×S,rNRes kx code K r = Aft (fun v s'=>K (v.1,v.2,0,kx,s'.x.lo,s'.x.hi,((4 + s'.k:Nat):Int),win (strm code) s'.k,byd code s'.k,!s'.ok,s'.x.st,code)) (fun e s'=>K (false,0,e,kx,s'.x.lo,s'.x.hi,((4 + s'.k:Nat):Int),win (strm code) s'.k,byd code s'.k,!s'.ok,s'.x.st,code)) r
  | (.inr v,s)=>rfl
  | (.inl e,s)=>rfl
section
variable {fl:Nat} (hfl:9223372036854775808≤fl) {kx:Int} {code:List Int} {N:Nat} (hc:Cd code N)
variable {o0 o1 o3 o4 o5 o7 n:Int} {rf tu:Bool} {symbols:List Bmp}
variable (T:TE o0 o1 o3 o4 o5 o7 symbols) (hN:(N:Int) = tsz o7 rf symbols) (hn:n≤300)
include hfl hc T hN hn
theorem rline_loop {st:Int} (hst: -1000000000≤st∧st≤1000000000) (hone:o0 = 1→near st 100000) {ret retB} {R:Int→S→Option Ans}
    (hret:∀ e (s:S) (l:List Item),e ≠ 0→ret (e,o0,o1,tu,o3,o4,o5,rf,o7,symbols,(tk symbols:Int),l,kx,s.x.lo,s.x.hi,((4 + s.k:Nat):Int),win (strm code) s.k,byd code s.k,!s.ok,s.x.st,code,[]) = R e s)
    (hretB:∀ e (s:S) (l:List Item),e ≠ 0→retB (e,o0,o1,tu,o3,o4,o5,rf,o7,symbols,(tk symbols:Int),l,kx,s.x.lo,s.x.hi,((4 + s.k:Nat):Int),win (strm code) s.k,byd code s.k,!s.ok,s.x.st,code) = R e s):
    ∀ (f:Nat) (S':Int) (l:List Item) (s:S) (m:Nat),(l.length:Int) < n→n≤(l.length:Int) + (f:Int)→near S' 100000→St kx code N s→f < m→
      iter (S_ref10_reader_line_daf_0 fl) m (n,st,S',o0,o1,tu,o3,o4,o5,rf,o7,symbols,(tk symbols:Int),l,kx,s.x.lo,s.x.hi,((4 + s.k:Nat):Int),win (strm code) s.k,byd code s.k,false,s.x.st,code) (ret,retB)
      = Aft (fun l' s=>retB (0,o0,o1,tu,o3,o4,o5,rf,o7,symbols,(tk symbols:Int),l',kx,s.x.lo,s.x.hi,((4 + s.k:Nat):Int),win (strm code) s.k,byd code s.k,!s.ok,s.x.st,code)) R ((lineD o0 o3 o7 rf symbols n st f S' l).run kx code s):=by
  intro f
  induction f with
  | zero=>intro S' l s m h1 h2; omega
  | succ f ih=>
    intro S' l s m h1 h2 hS hs hm
    obtain ⟨m,rfl⟩:∃ j,m = j + 1:=⟨m - 1,by omega⟩
    obtain ⟨s0,s1,s2,s3,s4⟩:=lik_sz o7 rf symbols T.n
    obtain ⟨q1,_,_,g1,g2,_⟩:=ov_iff.1 T.ov
    obtain ⟨S1,S2⟩:=hS
    simp only [iter,S_ref10_reader_line_daf_0,Sg_ref10_reader_line_daf_0]
    rw [lineD]
    refine Eq.trans (rrest_ok hfl hc T hN hst hone hs (R:=R) (fun a b c r dx dy w h p e s he=> ?_)) ?_
    · try dsimp only
      rw [cond_t (by simp [he])]
      exact hret e s l he
    rw [fin_bind]
    refine fin_congr (itemD_all T hN) hs (fun i si _ hsi=> ?_) (fun e s he=>rfl)
    try dsimp only
    have hla:(l++ [i]).length = l.length + 1:=by rw [List.length_append]; rfl
    rw [cond_f (b:=(0:Int) != 0) rfl,dec_t (by omega)]
    simp only [hsi.ok,Bool.not_true]
    rw [rNget_ok hfl hc (by omega) (by omega) hsi,rNRes_aft,fin_bind]
    refine fin_congr (numD_all (by omega) (by omega)) hsi (fun v sv hv hsv=> ?_) (fun e s he=> ?_)
    rotate_left
    · try dsimp only
      rw [cond_t (by simp [he])]
      exact hretB e s (l++ [i]) he
    obtain ⟨v1,v2,v3⟩:=hv
    try dsimp only
    rw [cond_f (b:=(0:Int) != 0) rfl]
    by_cases hv1:v.1 = true
    · rw [cond_t hv1,if_pos hv1]
      simp only [Dec.run,Aft]
    rw [cond_f (by simpa using hv1),if_neg hv1]
    have ei:(i.1,i.2.1,i.2.2.1,i.2.2.2.1,i.2.2.2.2.1,i.2.2.2.2.2.1,i.2.2.2.2.2.2.1,i.2.2.2.2.2.2.2.1,i.2.2.2.2.2.2.2.2) = i:=rfl
    rw [ei]
    by_cases hln:((l++ [i]).length:Int) = n
    · rw [cond_t (by simpa using hln),if_neg (fun h=>by omega)]
      simp only [Dec.run,Aft]
      exact hret 3 sv (l++ [i]) (by decide)
    rw [cond_f (by simpa using hln),w6 (x:=v.2 + o3),w6 (x:=S' + (v.2 + o3)),shift_ok]
    try dsimp only
    by_cases hnr:near (S' + (v.2 + o3)) 100000
    rotate_left
    · rw [decide_eq_false hnr,cond_t (b:=!false) rfl,if_neg (fun h=>hnr h.2)]
      simp only [Dec.run,Aft]
      exact hret 3 sv (l++ [i]) (by decide)
    rw [decide_eq_true hnr,cond_f (b:=!true) rfl,if_pos ⟨by omega,hnr⟩]
    simp only [hsv.ok,Bool.not_true]
    exact ih (S' + (v.2 + o3)) (l++ [i]) sv m (by omega) (by omega) hnr hsv (by omega)
theorem rtext_loop {ret b} {R:Int→S→Option Ans} (hret:∀ e (s:S),e ≠ 0→ret (e,[]) = R e s):
    ∀ (f:Nat) (la fi:Int) (l:List Item) (s:S) (m:Nat),301≤l.length + f→l.length≤301→ -1048576 * (l.length:Int)≤la→la≤1048576 * (l.length:Int)→near fi 100000→St kx code N s→f + 2 < m→
      iter (S_ref10_Decode_0 fl) m (n,la,fi,o0,o1,tu,o3,o4,o5,rf,o7,o0,o1,tu,o3,o4,o5,rf,o7,symbols,(tk symbols:Int),l,kx,s.x.lo,s.x.hi,((4 + s.k:Nat):Int),win (strm code) s.k,byd code s.k,false,s.x.st,code) (ret,b) = Aft (fun l' s=>b l') R ((textD o0 o3 o7 rf symbols n f la fi l).run kx code s):=by
  intro f
  induction f with
  | zero=>
    intro la fi l s m hlf hl h1 h2 hF hs hm
    obtain ⟨m,rfl⟩:∃ j,m = j + 1:=⟨m - 1,by omega⟩
    simp only [iter,S_ref10_Decode_0,Sg_ref10_Decode_0]
    rw [dec_f (by omega)]
    rfl
  | succ f ih=>
    intro la fi l s m hlf hl h1 h2 hF hs hm
    obtain ⟨m,rfl⟩:∃ j,m = j + 1:=⟨m - 1,by omega⟩
    obtain ⟨s0,s1,s2,s3,s4⟩:=lik_sz o7 rf symbols T.n
    obtain ⟨q1,_⟩:=ov_iff.1 T.ov
    obtain ⟨F1,F2⟩:=hF
    simp only [iter,S_ref10_Decode_0,Sg_ref10_Decode_0]
    unfold textD
    by_cases hln:(l.length:Int) < n
    rotate_left
    · rw [dec_f hln,if_neg hln]
      rfl
    rw [dec_t hln,if_pos hln,rnumber_ok hfl hc (by omega) (by omega) hs,fin_bind]
    refine fin_congr (numD_all (by omega) (by omega)) hs (fun v sv hv hsv=> ?_) (fun e s he=> ?_)
    rotate_left
    · try dsimp only
      rw [cond_t (by simp [he])]
      exact hret e s he
    obtain ⟨v1,v2,v3⟩:=hv
    try dsimp only
    by_cases hv1:v.1 = true
    · rw [if_pos hv1,cond_t (b:=(3:Int) != 0) rfl,if_neg (fun h=>by rw [hv1] at h; cases h.1)]
      simp only [Dec.run,Aft]
      exact hret 3 sv (by decide)
    have hv0:v.1 = false:=by simpa using hv1
    rw [if_neg hv1,cond_f (b:=(0:Int) != 0) rfl,w6 (x:=la + v.2)]
    have good:(o0 = 1→near (la + v.2) 100000)→F_ref10_reader_number_986 fl 48 o0 o1 tu o3 o4 o5 rf o7 symbols (tk symbols:Int) kx sv.x.lo sv.x.hi ((4 + sv.k:Nat):Int) (win (strm code) sv.k) (byd code sv.k) (!sv.ok) sv.x.st code (fun y=>bif y.2.1 != 0 then ret (y.2.1,[]) else F_ref10_isShift fl (IntKind.i64.wrap (fi + y.1)) (fun z=>bif !z then ret (3,[]) else
        F_ref10_reader_line_daf fl n (la + v.2) (IntKind.i64.wrap (fi + y.1)) y.2.2.1 y.2.2.2.1 y.2.2.2.2.1 y.2.2.2.2.2.1 y.2.2.2.2.2.2.1 y.2.2.2.2.2.2.2.1 y.2.2.2.2.2.2.2.2.1 y.2.2.2.2.2.2.2.2.2.1 y.2.2.2.2.2.2.2.2.2.2.1 y.2.2.2.2.2.2.2.2.2.2.2.1 l y.2.2.2.2.2.2.2.2.2.2.2.2.1 y.2.2.2.2.2.2.2.2.2.2.2.2.2.1 y.2.2.2.2.2.2.2.2.2.2.2.2.2.2.1 y.2.2.2.2.2.2.2.2.2.2.2.2.2.2.2.1 y.2.2.2.2.2.2.2.2.2.2.2.2.2.2.2.2.1 y.2.2.2.2.2.2.2.2.2.2.2.2.2.2.2.2.2.1 y.2.2.2.2.2.2.2.2.2.2.2.2.2.2.2.2.2.2.1 y.2.2.2.2.2.2.2.2.2.2.2.2.2.2.2.2.2.2.2.1 y.2.2.2.2.2.2.2.2.2.2.2.2.2.2.2.2.2.2.2.2
          (fun z=>bif z.1 != 0 then ret (z.1,[]) else iter (S_ref10_Decode_0 fl) m (n,la + v.2,IntKind.i64.wrap (fi + y.1),o0,o1,tu,o3,o4,o5,rf,o7,z.2.1,z.2.2.1,z.2.2.2.1,z.2.2.2.2.1,z.2.2.2.2.2.1,z.2.2.2.2.2.2.1,z.2.2.2.2.2.2.2.1,z.2.2.2.2.2.2.2.2.1,z.2.2.2.2.2.2.2.2.2.1,z.2.2.2.2.2.2.2.2.2.2.1,z.2.2.2.2.2.2.2.2.2.2.2.2.2.2.2.2.2.2.2.2.2,z.2.2.2.2.2.2.2.2.2.2.2.2.1,z.2.2.2.2.2.2.2.2.2.2.2.2.2.1,z.2.2.2.2.2.2.2.2.2.2.2.2.2.2.1,z.2.2.2.2.2.2.2.2.2.2.2.2.2.2.2.1,z.2.2.2.2.2.2.2.2.2.2.2.2.2.2.2.2.1,z.2.2.2.2.2.2.2.2.2.2.2.2.2.2.2.2.2.1,z.2.2.2.2.2.2.2.2.2.2.2.2.2.2.2.2.2.2.1,z.2.2.2.2.2.2.2.2.2.2.2.2.2.2.2.2.2.2.2.1,z.2.2.2.2.2.2.2.2.2.2.2.2.2.2.2.2.2.2.2.2.1) (ret,b))
          (fun z=>bif z.1 != 0 then ret (z.1,[]) else iter (S_ref10_Decode_0 fl) m (n,la + v.2,IntKind.i64.wrap (fi + y.1),o0,o1,tu,o3,o4,o5,rf,o7,z.2.1,z.2.2.1,z.2.2.2.1,z.2.2.2.2.1,z.2.2.2.2.2.1,z.2.2.2.2.2.2.1,z.2.2.2.2.2.2.2.1,z.2.2.2.2.2.2.2.2.1,z.2.2.2.2.2.2.2.2.2.1,z.2.2.2.2.2.2.2.2.2.2.1,z.2.2.2.2.2.2.2.2.2.2.2.1,z.2.2.2.2.2.2.2.2.2.2.2.2.1,z.2.2.2.2.2.2.2.2.2.2.2.2.2.1,z.2.2.2.2.2.2.2.2.2.2.2.2.2.2.1,z.2.2.2.2.2.2.2.2.2.2.2.2.2.2.2.1,z.2.2.2.2.2.2.2.2.2.2.2.2.2.2.2.2.1,z.2.2.2.2.2.2.2.2.2.2.2.2.2.2.2.2.2.1,z.2.2.2.2.2.2.2.2.2.2.2.2.2.2.2.2.2.2.1,z.2.2.2.2.2.2.2.2.2.2.2.2.2.2.2.2.2.2.2.1,z.2.2.2.2.2.2.2.2.2.2.2.2.2.2.2.2.2.2.2.2) (ret,b))))
        = Aft (fun l' s=>b l') R (((withinD 48 fi (-100000) 100000).bind fun fi'=>(lineD o0 o3 o7 rf symbols n (la + v.2) 301 fi' l).bind fun l'=>textD o0 o3 o7 rf symbols n f (la + v.2) fi' l').run kx code sv):=by
      intro hone
      unfold withinD
      simp only [hsv.ok,Bool.not_true]
      rw [rnumber_ok hfl hc (by omega) (by omega) hsv,fin_bind,fin_bind]
      refine fin_congr (numD_all (by omega) (by omega)) hsv (fun u su hu hsu=> ?_) (fun e s he=> ?_)
      rotate_left
      · try dsimp only
        rw [cond_t (by simp [he])]
        exact hret e s he
      obtain ⟨u1,u2,u3⟩:=hu
      try dsimp only
      by_cases hu1:u.1 = true
      · rw [if_pos hu1,cond_t (b:=(3:Int) != 0) rfl,if_neg (fun h=>by rw [hu1] at h; cases h.1)]
        simp only [Dec.run,Aft]
        exact hret 3 su (by decide)
      have hu0:u.1 = false:=by simpa using hu1
      rw [if_neg hu1,cond_f (b:=(0:Int) != 0) rfl,w6 (x:=fi + u.2),shift_ok]
      try dsimp only
      have ec:u.2 + fi = fi + u.2:=Int.add_comm _ _
      rw [ec]
      by_cases hnr:near (fi + u.2) 100000
      rotate_left
      · rw [decide_eq_false hnr,cond_t (b:=!false) rfl,if_neg (fun h=>hnr ⟨h.2.1,h.2.2⟩)]
        simp only [Dec.run,Aft]
        exact hret 3 su (by decide)
      rw [decide_eq_true hnr,cond_f (b:=!true) rfl,if_pos ⟨hu0,hnr.1,hnr.2⟩]
      refine Eq.trans ?_ (show Aft (fun l' s=>b l') R (((lineD o0 o3 o7 rf symbols n (la + v.2) 301 (fi + u.2) l).bind fun l'=>textD o0 o3 o7 rf symbols n f (la + v.2) (fi + u.2) l').run kx code su) = _ from rfl)
      unfold F_ref10_reader_line_daf Fg_ref10_reader_line_daf L_ref10_reader_line_daf_0
      simp only [hsu.ok,Bool.not_true]
      refine Eq.trans (rline_loop hfl hc T hN hn (by omega) hone (R:=R) (fun e s l he=> ?_) (fun e s l he=> ?_) 301 (fi + u.2) l su fl hln (by omega) hnr hsu (by omega)) ?_
      · try dsimp only
        rw [cond_t (by simp [he])]
        exact hret e s he
      · try dsimp only
        rw [cond_t (by simp [he])]
        exact hret e s he
      rw [fin_bind]
      refine fin_congr (lineD_all T hN hn 301 (fi + u.2) l hln) hsu (fun l' sl hl' hsl=> ?_) (fun e s he=>rfl)
      try dsimp only
      rw [cond_f (b:=(0:Int) != 0) rfl]
      simp only [hsl.ok,Bool.not_true]
      exact ih (la + v.2) (fi + u.2) l' sl m (by omega) hl'.2 (by omega) (by omega) hnr hsl (by omega)
    by_cases c1:v.2 > 0∨l.length = 0
    rotate_left
    · have hl0:(l.length:Int) > 0:=by omega
      rw [dec_t hl0,dec_t (by omega),if_neg (fun h=>c1 h.2.1)]
      simp only [Dec.run,Aft]
      exact hret 3 sv (by decide)
    have fin:∀ Q:Option Ans,(o0 > 1∨near (la + v.2) 100000→Q = Aft (fun l' s=>b l') R (((withinD 48 fi (-100000) 100000).bind fun fi'=>(lineD o0 o3 o7 rf symbols n (la + v.2) 301 fi' l).bind fun l'=>textD o0 o3 o7 rf symbols n f (la + v.2) fi' l').run kx code sv))→(¬ (o0 > 1∨near (la + v.2) 100000)→Q = R 3 sv)→
        Q = Aft (fun l' s=>b l') R ((if v.1 = false∧(v.2 > 0∨l.length = 0)∧(o0 > 1∨near (la + v.2) 100000) then ((withinD 48 fi (-100000) 100000).bind fun fi'=>(lineD o0 o3 o7 rf symbols n (la + v.2) 301 fi' l).bind fun l'=>textD o0 o3 o7 rf symbols n f (la + v.2) fi' l') else .bad 3).run kx code sv):=by
      intro Q q1 q2
      by_cases c2:o0 > 1∨near (la + v.2) 100000
      · rw [if_pos ⟨hv0,c1,c2⟩]
        exact q1 c2
      · rw [if_neg (fun h=>c2 h.2.2)]
        exact q2 c2
    refine fin _ (fun c2=> ?_) (fun c2=> ?_)
    · by_cases hl0:(l.length:Int) > 0
      · rw [dec_t hl0,dec_f (by omega)]
        by_cases h8:o0 > 1
        · rw [cond_f (by simp; omega)]
          exact good (fun h=>by omega)
        · have hnr:=c2.resolve_left h8
          have h01:o0 = 1:=by rcases q1 with rfl | rfl | rfl | rfl <;> omega
          rw [cond_t (by simp [h01]),shift_ok]
          try dsimp only
          rw [decide_eq_true hnr,cond_f (b:=!true) rfl]
          exact good (fun _=>hnr)
      · rw [dec_f hl0]
        by_cases h8:o0 > 1
        · rw [cond_f (by simp; omega)]
          exact good (fun h=>by omega)
        · have hnr:=c2.resolve_left h8
          have h01:o0 = 1:=by rcases q1 with rfl | rfl | rfl | rfl <;> omega
          rw [cond_t (by simp [h01]),shift_ok]
          try dsimp only
          rw [decide_eq_true hnr,cond_f (b:=!true) rfl]
          exact good (fun _=>hnr)
    · have h8:¬ o0 > 1:=fun h=>c2 (.inl h)
      have hnr:¬ near (la + v.2) 100000:=fun h=>c2 (.inr h)
      have h01:o0 = 1:=by rcases q1 with rfl | rfl | rfl | rfl <;> omega
      by_cases hl0:(l.length:Int) > 0
      · rw [dec_t hl0,dec_f (by omega),cond_t (by simp [h01]),shift_ok]
        try dsimp only
        rw [decide_eq_false hnr,cond_t (b:=!false) rfl]
        exact hret 3 sv (by decide)
      · rw [dec_f hl0,cond_t (by simp [h01]),shift_ok]
        try dsimp only
        rw [decide_eq_false hnr,cond_t (b:=!false) rfl]
        exact hret 3 sv (by decide)
end
section
variable {fl:Nat} (hfl:9223372036854775808≤fl) {o0 o1 o3 o4 o5 o7:Int} {rf tu:Bool} {symbols:List Bmp}
include hfl
theorem rtdec {n:Int} {code:List Int} (hs:symbols.length≤1000000000000000) (hz:∀ b ∈ symbols,∀ v ∈ b.2.2,0≤v) (hcb:Bytes code) (hcl:code.length≤10000000) {K:Int×List Item→Option Ans}:
    F_ref10_Decode fl o0 o1 tu o3 o4 o5 rf o7 symbols n code K = K (decT o0 o1 o3 o4 o5 o7 rf symbols n code):=by
  unfold F_ref10_Decode Fg_ref10_Decode decT
  rw [asked_ok hfl hs (by simp),rErr_eq]
  try dsimp only
  rw [cn]
  by_cases he:bErr o0 o1 o3 o4 o5 o7 symbols [] = 0
  rotate_left
  · rw [if_neg he,if_neg he,if_neg he]
  rw [if_pos he,if_pos he]
  by_cases h1:(symbols.length:Int)≤60
  rotate_left
  · have er:(if (decide ((symbols.length:Int)≤60)&&decide ((([]:List Item).length:Int)≤300)&&([]:List Item).all (itm rf (symbols.length:Int))) = true then (0:Int) else 2) = 2:=if_neg (by rw [decide_eq_false h1]; simp)
    rw [er,if_neg (by decide),if_neg (by omega)]
  have er:(if (decide ((symbols.length:Int)≤60)&&decide ((([]:List Item).length:Int)≤300)&&([]:List Item).all (itm rf (symbols.length:Int))) = true then (0:Int) else 2) = 0:=if_pos (by rw [decide_eq_true h1]; simp)
  rw [er,if_pos rfl]
  by_cases h2:n < 0
  · rw [dec_t h2,if_neg (by omega)]
  rw [dec_f h2]
  by_cases h3:n > 300
  · rw [dec_t h3,if_neg (by omega)]
  rw [dec_f h3,if_pos (by omega)]
  have hn60:symbols.length≤60:=by omega
  obtain ⟨T,_⟩:=te_of he hn60 hz
  obtain ⟨q1,_,_,_,_,_,_,kk,tt⟩:=ov_iff.1 T.ov
  obtain ⟨s0,s1,s2,s3,s4⟩:=lik_sz o7 rf symbols hn60
  obtain ⟨hv,hx,hN,hn8⟩:=x0_ok (rf:=rf) T
  rw [rmodel_ok hfl hn60 tt]
  try dsimp only
  rw [show (x0T o7 rf symbols).st = List.replicate (tsz o7 rf symbols).toNat 0 from rfl,rnew_decB hfl hv hcb hcl]
  try dsimp only
  unfold L_ref10_Decode_0
  have hst:Dc.St o5 code (x0T o7 rf symbols).st.length ⟨true,x0T o7 rf symbols,0⟩:=⟨rfl,hx,rfl,Nat.zero_le _⟩
  have main:=rtext_loop (fl:=fl) hfl (kx:=o5) (code:=code) (N:=(x0T o7 rf symbols).st.length) ⟨hcb,hcl,hn8⟩ (tu:=tu) (n:=n) T hN (by omega) (ret:=fun z=>K (z.1,z.2)) (b:=fun z=>K (0,z)) (R:=fun e _=>K (e,[])) (fun e s he=>rfl) 301 0 0 [] ⟨true,x0T o7 rf symbols,0⟩ fl (by simp) (by simp) (by simp) (by simp) ⟨by omega,by omega⟩ hst (by omega)
  refine Eq.trans main ?_
  cases (textD o0 o3 o7 rf symbols n 301 0 0 []).run o5 code ⟨true,x0T o7 rf symbols,0⟩ with
  | mk r s=>
    cases r <;> rfl
end
open Go Ev Bm
section
variable {fl:Nat} (hfl:9223372036854775808≤fl)
include hfl
theorem sameB {w h:Int} {p:List Int} (hl:p.length≤1000000000000000) {K:Bool→Option Ans}:F_ref06_SameBitmap fl w h p w h p K = K true:=by
  unfold F_ref06_SameBitmap
  rw [cond_f (by simp),cond_f (by simp),cond_f (by simp)]
  unfold L_ref06_SameBitmap_0
  refine iter_seq (step:=S_ref06_SameBitmap_0 fl) (fun i:Nat=>((p.length:Int),(i:Int),w,h,p,w,h,p)) p.length rfl (fun i hi c=> ?_) (fun c=> ?_) (by omega)
  · simp only [S_ref06_SameBitmap_0]
    rw [dec_t (by omega),dec_t (by omega),dec_t (by omega),cond_f (by simp),wrap64 (by omega) (by omega)]
    rfl
  · simp only [S_ref06_SameBitmap_0]
    rw [dec_f (by omega)]
theorem sameI {l:List (Int×Int×Int×Bool×Int×Int×Int×Int×List Int)} (hl:l.length≤1000000000000000) (hp:∀ i ∈ l,i.2.2.2.2.2.2.2.2.length≤1000000000000000) {K:Bool→Option Ans}:F_ref10_SameItems fl l l K = K true:=by
  unfold F_ref10_SameItems Fg_ref10_SameItems
  rw [cond_f (by simp)]
  unfold L_ref10_SameItems_0
  refine iter_seq (step:=S_ref10_SameItems_0 fl) (fun i:Nat=>(l,l,(l.length:Int),(i:Int))) l.length rfl (fun i hi c=> ?_) (fun c=> ?_) (by omega)
  · have hm:=hp _ (getD_mem hi (0,0,0,false,0,0,0,0,[]))
    simp only [S_ref10_SameItems_0,Sg_ref10_SameItems_0]
    rw [dec_t (by omega),dec_t (by omega),dec_t (by omega),Int.toNat_natCast]
    unfold F_ref10_SameItem Fg_ref10_SameItem
    rw [cond_t (by simp),cond_t (by simp),cond_t (by simp),cond_t (by simp),cond_t (by simp),cond_t (by simp),sameB hfl hm]
    try dsimp only
    rw [cond_f (b:=!true) rfl,wrap64 (by omega) (by omega)]
    rfl
  · simp only [S_ref10_SameItems_0,Sg_ref10_SameItems_0]
    rw [dec_f (by omega)]
theorem awake {K:Bool→Option Ans}:F_law10_Awake fl K = K true:=rfl
end
end Go.Proofs.YtipdidpalcmlhaaGreat.Tx
namespace Go.Proofs.YtipdidpalcmlhaaGreat.PureTextDecodes
open Go Ev Bm Co Gen Dc Tx
def sm (i:Tx.Item):Prop:=i.2.2.2.2.2.2.2.2.length≤1000000
section
variable {N:Nat} {o0 o1 o3 o4 o5 o7 n:Int} {rf tu:Bool} {symbols:List Bmp} (T:TE o0 o1 o3 o4 o5 o7 symbols) (hN:(N:Int) = tsz o7 rf symbols)
include T hN
theorem refD_sm (hrf:rf = true) {id S' T':Int} (i0:0≤id) (i1:id < (symbols.length:Int)):(refD o7 (lik symbols) (bmAt symbols id) id S' T').All N sm:=by
  obtain ⟨s0,s1,s2,s3,s4⟩:=lik_sz o7 rf symbols T.n
  have hs4:=s4 hrf
  obtain ⟨pb,b0,b1,b2,b3⟩:=T.bm i0 i1
  unfold refD
  refine Dec.All.bind (fun w hw=> ?_) _ (withinD_all (by omega) (by omega))
  refine Dec.All.bind (fun h hh=> ?_) _ (withinD_all (by omega) (by omega))
  refine Dec.All.bind (fun dx _=> ?_) _ (withinD_all (by omega) (by omega))
  refine Dec.All.bind (fun dy _=> ?_) _ (withinD_all (by omega) (by omega))
  refine Dec.All.bind (P:=Gen.Pix w h) (fun p hp=> ?_) _ (Rf.regD_all pb.bit (by omega) (by omega) (shape_fit hw.1 hw.2 hh.1 hh.2))
  have h1:=hp.len
  have h2:=hp.n
  show p.length≤1000000
  omega
theorem itemD_sm {st s:Int}:(itemD o0 o7 rf symbols st s).All N sm:=by
  obtain ⟨s0,s1,s2,s3,s4⟩:=lik_sz o7 rf symbols T.n
  obtain ⟨q1,_⟩:=ov_iff.1 T.ov
  obtain ⟨ka,kb,kc,kd⟩:=tk_ok T.n
  have e2:(2:Int) ^ tk symbols = ((2 ^ tk symbols:Nat):Int):=by rw [Int.natCast_pow]; rfl
  have h1:(if o0 > 1 then withinD 144 0 0 (o0 - 1) else .ret 0:Dec Int).All N (fun _=>True):=by
    split
    · exact Dec.All.mono (fun _ _=>trivial) _ (withinD_all (by omega) (by omega))
    · exact trivial
  have h0:∀ a b c:Int,sm (a,b,c,false,0,0,0,0,[]):=fun _ _ _=>Nat.zero_le _
  unfold itemD
  refine Dec.All.bind (fun d _=> ?_) _ h1
  split
  rotate_left
  · rfl
  refine Dec.All.bind (fun id hid=> ?_) _ (idD_all (P:=fun id:Int=>0≤id) (by omega) (by rw [e2]; unfold lik at *; omega) (fun p hp _=>by show (0:Int)≤p - ((2 ^ tk symbols:Nat):Int); rw [← e2]; omega) _ 0 1 (by omega) (by decide) (by decide))
  split
  rotate_left
  · rfl
  rename_i hlt
  cases rf with
  | false=>exact h0 _ _ _
  | true=>
    rw [if_pos rfl]
    have:=s4 rfl
    refine ⟨⟨by omega,by omega⟩,fun b _=> ?_⟩
    dsimp only
    split
    · exact refD_sm T hN rfl hid hlt
    · exact h0 _ _ _
theorem lineD_sm {st:Int} (hn:n≤300):∀ (f:Nat) (s:Int) (l:List Tx.Item),(l.length:Int) < n→(∀ i ∈ l,sm i)→(lineD o0 o3 o7 rf symbols n st f s l).All N (fun l'=>l'.length≤301∧∀ i ∈ l',sm i)
  | 0,s,l,hl,ha=>rfl
  | f + 1,s,l,hl,ha=>by
    obtain ⟨s0,s1,s2,s3,s4⟩:=lik_sz o7 rf symbols T.n
    rw [line_next]
    refine Dec.All.bind (fun i hi=> ?_) _ (itemD_sm T hN)
    unfold nextD
    refine Dec.All.bind (fun v _=> ?_) _ (numD_all (by omega) (by omega))
    have hla:(l++ [i]).length = l.length + 1:=by simp
    have ha':∀ j ∈ l++ [i],sm j:=fun j hj=>by
      rcases List.mem_append.1 hj with h | h
      · exact ha j h
      · rw [List.mem_singleton.1 h]; exact hi
    try dsimp only
    split
    · exact ⟨by omega,ha'⟩
    · split
      · rename_i h
        exact lineD_sm hn f _ (l++ [i]) h.1 ha'
      · rfl
theorem textD_sm (hn:n≤300):∀ (f:Nat) (la fi:Int) (l:List Tx.Item),l.length≤301→(∀ i ∈ l,sm i)→(textD o0 o3 o7 rf symbols n f la fi l).All N (fun l'=>l'.length≤301∧∀ i ∈ l',sm i)
  | 0,la,fi,l,hl,ha=>⟨hl,ha⟩
  | f + 1,la,fi,l,hl,ha=>by
    obtain ⟨s0,s1,s2,s3,s4⟩:=lik_sz o7 rf symbols T.n
    unfold textD
    split
    rotate_left
    · exact ⟨hl,ha⟩
    rename_i hln
    refine Dec.All.bind (fun v _=> ?_) _ (numD_all (by omega) (by omega))
    split
    rotate_left
    · rfl
    refine Dec.All.bind (fun fi' _=> ?_) _ (withinD_all (by omega) (by omega))
    refine Dec.All.bind (fun l' hl'=> ?_) _ (lineD_sm T hN hn 301 fi' l hln ha)
    exact textD_sm hn f _ fi' l' hl'.1 hl'.2
end
theorem dec_sm {o0 o1 o3 o4 o5 o7:Int} {rf:Bool} {symbols:List Bmp} {n:Int} {code:List Int} (hz:∀ b ∈ symbols,∀ v ∈ b.2.2,0≤v):(decT o0 o1 o3 o4 o5 o7 rf symbols n code).2.length≤1000000000000000∧∀ i ∈ (decT o0 o1 o3 o4 o5 o7 rf symbols n code).2,i.2.2.2.2.2.2.2.2.length≤1000000000000000:=by
  have e0:∀ e:Int,((e,[]):Int×List Tx.Item).2.length≤1000000000000000∧∀ i ∈ ((e,[]):Int×List Tx.Item).2,i.2.2.2.2.2.2.2.2.length≤1000000000000000:=fun e=>⟨Nat.zero_le _,fun i hi=>by cases hi⟩
  unfold decT
  by_cases he:bErr o0 o1 o3 o4 o5 o7 symbols [] = 0
  rotate_left
  · rw [if_neg he]; exact e0 _
  rw [if_pos he]
  by_cases h1:symbols.length≤60∧0≤n∧n≤300
  rotate_left
  · rw [if_neg h1]; exact e0 _
  rw [if_pos h1]
  obtain ⟨T,_⟩:=te_of he h1.1 hz
  obtain ⟨hv,hx,hN,hn8⟩:=x0_ok (rf:=rf) T
  have hst:Dc.St o5 code (x0T o7 rf symbols).st.length ⟨true,x0T o7 rf symbols,0⟩:=⟨rfl,hx,rfl,Nat.zero_le _⟩
  have:=run_ends _ (textD_sm T hN h1.2.2 301 0 0 [] (by simp) (fun i hi=>by cases hi)) hst
  cases hr:(textD o0 o3 o7 rf symbols n 301 0 0 []).run o5 code ⟨true,x0T o7 rf symbols,0⟩ with
  | mk r s=>
    rw [hr] at this
    cases r with
    | inl e=>exact e0 _
    | inr l=>
      obtain ⟨⟨a,b⟩,_⟩:=this
      refine ⟨?_,fun i hi=> ?_⟩
      · show l.length≤_
        omega
      · have h2:i.2.2.2.2.2.2.2.2.length≤1000000:=b i hi
        omega
theorem pure_fl {fl:Nat} (hfl:9223372036854775808≤fl) (o0 o1:Int) (tu:Bool) (o3 o4 o5:Int) (rf:Bool) (o7:Int) (symbols:List Tx.Bmp) (n:Int) (code:List Int) (K:Bool→Option Ans) (hz:∀ b ∈ symbols,∀ v ∈ b.2.2,0≤v) (hcb:Bytes code):
    F_law10_TextDecodes fl o0 o1 tu o3 o4 o5 rf o7 symbols n code K = K true:=by
  have hsz:=dec_sm (o0:=o0) (o1:=o1) (o3:=o3) (o4:=o4) (o5:=o5) (o7:=o7) (rf:=rf) (n:=n) (code:=code) hz
  unfold F_law10_TextDecodes Fg_law10_TextDecodes F_law10_long
  by_cases h1:(symbols.length:Int) > 120
  · rw [dec_t h1]
    try dsimp only
    rw [cond_true,awake hfl]
  rw [dec_f h1]
  try dsimp only
  rw [cond_f (by decide)]
  by_cases h2:(code.length:Int) > 100000
  · rw [dec_t h2,awake hfl]
  rw [dec_f h2,tdec hfl (by omega) hz hcb (by omega)]
  try dsimp only
  rw [rtdec hfl (by omega) hz hcb (by omega)]
  try dsimp only
  rw [cond_t (by simp),sameI hfl hsz.1 hsz.2]
  try dsimp only
  rw [cond_true,awake hfl]
theorem wf8 {u:Int} (h:(Lit.int .u8 u).wf = true):0≤u∧u≤255:=by
  simp [Lit.wf,IntKind.min,IntKind.max,IntKind.signed,IntKind.bits] at h
  omega
theorem pure (o0 o1:Int) (tu:Bool) (o3 o4 o5:Int) (rf:Bool) (o7:Int) (symbols:List Tx.Bmp) (n:Int) (code:List Int) (K:Bool→Option Ans)
    (g0:given (.pair (.int .i64) (.pair (.int .i64) (.pair .bool (.pair (.int .i64) (.pair (.int .i64) (.pair (.int .i64) (.pair .bool (.int .i64)))))))) (o0,o1,tu,o3,o4,o5,rf,o7))
    (g1:given (.sl (.pair (.int .i64) (.pair (.int .i64) (.sl (.int .u8))))) symbols) (g2:(Lit.int .i64 n).wf = true)
    (g3:given (.sl (.int .u8)) code):
    F_law10_TextDecodes fuel o0 o1 tu o3 o4 o5 rf o7 symbols n code K = K true:=by
  obtain ⟨_,h1⟩:=g1
  obtain ⟨_,h2⟩:=g3
  refine pure_fl (by rw [fuel_eq]; omega) o0 o1 tu o3 o4 o5 rf o7 symbols n code K (fun b hb u hu=> ?_) (fun v hv=> ?_)
  · obtain ⟨_,_,_,h3⟩:=h1 b hb
    exact (wf8 (h3 u hu)).1
  · have:=wf8 (h2 v hv)
    omega
end Go.Proofs.YtipdidpalcmlhaaGreat.PureTextDecodes
