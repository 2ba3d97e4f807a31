/- Laws of the typed texts that SymbolGoes reaches, in plain Lean. No condition but what each theorem names. -/
import Derived.Test.YtohnjbmiaegofaaGreatFsSymbolGoes4
import Derived.Test.YtohnjbmiaegofaaGreatPsSymbolGoes1
import Derived.Test.YtohnjbmiaegofaaGreatFsSymbolGoes3
import Derived.Test.YtohnjbmiaegofaaGreatFsSymbolGoes1
import Derived.Test.YtohnjbmiaegofaaGreatFsSymbolGoes6
import Derived.Test.YtohnjbmiaegofaaGreatFsSymbolGoes2
import Derived.Test.YtohnjbmiaegofaaGreatFsSymbolGoes7
import Derived.Test.YtohnjbmiaegofaaGreatFsSymbolGoes5
import Derived.Laws.Strings
import Derived.Test.YtohnjbmiaegofaaGreatFsSymbolGoes8
set_option linter.unusedVariables false
set_option linter.unusedSimpArgs false
set_option linter.unusedSectionVars false
namespace Go.Proofs.YtohnjbmiaegofaaGreat.Gen
open Go Ev Bm Co
structure D where
 ok:Bool
 p:List Int
 x:Iv
 k:Nat
section
variable (t ax ay base w h kx:Int) (ty:Bool) (sp code:List Int)
def dPix (y x:Nat) (s:D):D:=
 if skb sp (y * w.toNat + x) = true then s
 else match Co.get kx code s.x s.k (base + ctxv w h s.p (x:Int) (y:Int) (around t ax ay)) with
  | some (b,x',k')=>⟨true,s.p.set (y * w.toNat + x) b,x',k'⟩
  | none=>⟨false,s.p,s.x,s.k⟩
def dPixs (y:Nat) (s:D):Nat→D
 | 0=>s
 | n + 1=>if (dPixs y s n).ok = true then dPix t ax ay base w h kx sp code y n (dPixs y s n) else dPixs y s n
def wrRow (y:Nat) (p r:List Int):List Int:=p.take (y * w.toNat)++r++p.drop (y * w.toNat + w.toNat)
def dRow (y:Nat) (s:D):D:=
 if ty = true then match Co.get kx code s.x s.k (base + (size t - 1)) with
  | some (b,x',k')=>if b = 1 then ⟨true,wrRow w y s.p (aboveL w h s.p sp y),x',k'⟩ else dPixs t ax ay base w h kx sp code y ⟨true,s.p,x',k'⟩ w.toNat
  | none=>⟨false,s.p,s.x,s.k⟩
 else dPixs t ax ay base w h kx sp code y s w.toNat
def dAll (s:D):Nat→D
 | 0=>s
 | n + 1=>if (dAll s n).ok = true then dRow t ax ay base w h kx ty sp code n (dAll s n) else dAll s n
end
structure DOk (t ax ay kd base w h kx:Int) (sp code:List Int) (n:Nat) (s:D):Prop where
 r:Reg t ax ay kd base w h s.p sp n
 x:s.x.Ok kx
 sl:s.x.st.length = n
 k:s.k≤code.length
 n1:n≤8192
 cb:Bytes code
 cl:code.length≤1000000
theorem get_some {kx:Int} {x:Iv} (h:x.Ok kx) {c:Int} (h0:0≤c) (h1:c < x.st.length) {code:List Int} {k:Nat} {b:Int} {x':Iv} {k':Nat} (e:Co.get kx code x k c = some (b,x',k')):
  (b = 0∨b = 1)∧x'.Ok kx∧x'.st.length = x.st.length∧k'≤code.length:=by
 unfold Co.get at e
 split at e
 ·exact absurd e (by simp)
 ·injection e with e
  injection e with e1 e
  injection e with e2 e3
  have hb:=bitOf_01 kx (strm code) x k c
  rw [← e1, ← e2, ← e3]
  exact ⟨hb,h.next h0 h1 hb,Iv.next_len _ _ _ _,by omega⟩
theorem bit_set {p:List Int} (h:∀ v ∈ p,0≤v∧v≤1) {i:Nat} {b:Int} (hb:b = 0∨b = 1):∀ v ∈ p.set i b,0≤v∧v≤1:=fun v hv=>by
 rcases List.mem_or_eq_of_mem_set hv with hv | rfl
 ·exact h v hv
 ·omega
theorem Pix.set {w h:Int} {p:List Int} (hp:Pix w h p) {i:Nat} {b:Int} (hb:b = 0∨b = 1):Pix w h (p.set i b):=
 ⟨hp.w0,hp.h0,hp.w1,hp.h1,hp.n,by rw [List.length_set]; exact hp.len,bit_set hp.bit hb⟩
theorem wrRow_len {w h:Int} {p r:List Int} (hp:Pix w h p) {y:Nat} (hy:(y:Int) < h) (hr:r.length = w.toNat):(wrRow w y p r).length = p.length:=by
 have e:=(place_nat (w:=w) (h:=h) (x:=0) (y:=y))
 have hw0:=hp.w0
 have hlen:=hp.len
 have h1:((y:Int) + 1) * w≤h * w:=Int.mul_le_mul_of_nonneg_right q0 q0
 rw [Int.add_mul,Int.one_mul,Int.mul_comm h w] at h1
 have h2:((y * w.toNat:Nat):Int) = (y:Int) * w:=by rw [Int.natCast_mul]; congr 1; omega
 have h3:y * w.toNat + w.toNat≤p.length:=by omega
 unfold wrRow
 rw [List.length_append,List.length_append,List.length_take,List.length_drop]
 omega
theorem aboveL_len (w h:Int) (p sp:List Int) (y:Nat):(aboveL w h p sp y).length = w.toNat:=by simp [aboveL]
theorem aboveL_bit {w h:Int} {p sp:List Int} (hp:Pix w h p) (y:Nat):∀ v ∈ aboveL w h p sp y,0≤v∧v≤1:=fun v hv=>by
 unfold aboveL at hv
 obtain ⟨x,_,rfl⟩:=List.mem_map.1 hv
 split
 ·omega
 ·exact px_01 hp.bit _ _
theorem Pix.wr {w h:Int} {p sp:List Int} (hp:Pix w h p) {y:Nat} (hy:(y:Int) < h):Pix w h (wrRow w y p (aboveL w h p sp y)):=
 ⟨hp.w0,hp.h0,hp.w1,hp.h1,hp.n,by rw [wrRow_len hp hy (aboveL_len _ _ _ _ _)]; exact hp.len,fun v hv=>by
  unfold wrRow at hv
  rcases List.mem_append.1 hv with hv | hv
  ·rcases List.mem_append.1 hv with hv | hv
   ·exact hp.bit v (List.mem_of_mem_take hv)
   ·exact aboveL_bit hp y v hv
  ·exact hp.bit v (List.mem_of_mem_drop hv)⟩
theorem Reg.to {t ax ay kd base w h:Int} {p p' sp:List Int} {n:Nat} (hr:Reg t ax ay kd base w h p sp n) (hp:Pix w h p'):Reg t ax ay kd base w h p' sp n:=⟨hr.v,hp,hr.s,hr.b0,hr.b1⟩
theorem ctx_in {t ax ay kd base w h:Int} {p sp:List Int} {n:Nat} (hr:Reg t ax ay kd base w h p sp n) (x y:Int):0≤base + ctxv w h p x y (around t ax ay)∧base + ctxv w h p x y (around t ax ay) < n:=by
 have c:=ctx_rg hr.p.bit (w:=w) (h:=h) t ax ay x y
 have:=hr.b0
 have:=hr.b1
 omega
section
variable {t ax ay kd base w h kx:Int} {ty:Bool} {sp code:List Int} {n:Nat}
theorem dPix_ok {s:D} (hd:DOk t ax ay kd base w h kx sp code n s) (y x:Nat):DOk t ax ay kd base w h kx sp code n (dPix t ax ay base w h kx sp code y x s):=by
 unfold dPix
 split
 ·exact hd
 ·obtain ⟨c0,c1⟩:=ctx_in hd.r (x:Int) (y:Int)
  split
  ·rename_i b x' k' e
   obtain ⟨g1,g2,g3,g4⟩:=get_some hd.x c0 (by rw [hd.sl]; exact c1) e
   exact ⟨hd.r.to (hd.r.p.set g1),g2,by rw [← hd.sl]; exact g3,g4,hd.n1,hd.cb,hd.cl⟩
  ·exact ⟨hd.r,hd.x,hd.sl,hd.k,hd.n1,hd.cb,hd.cl⟩
theorem dPixs_ok {s:D} (hd:DOk t ax ay kd base w h kx sp code n s) (y:Nat):∀ m,DOk t ax ay kd base w h kx sp code n (dPixs t ax ay base w h kx sp code y s m)
 | 0=>hd
 | m + 1=>by
  unfold dPixs
  split
  ·exact dPix_ok (dPixs_ok hd y m) y m
  ·exact dPixs_ok hd y m
theorem dRow_ok {s:D} (hd:DOk t ax ay kd base w h kx sp code n s) {y:Nat} (hy:(y:Int) < h):DOk t ax ay kd base w h kx sp code n (dRow t ax ay base w h kx ty sp code y s):=by
 have sz:=size_eq (t:=t)
 have hb0:=hd.r.b0; have hb1:=hd.r.b1
 unfold dRow
 split
 ·split
  ·rename_i b x' k' e
   obtain ⟨g1,g2,g3,g4⟩:=get_some hd.x q0 (by rw [hd.sl]; omega) e
   split
   ·exact ⟨hd.r.to (hd.r.p.wr hy),g2,by rw [← hd.sl]; exact g3,g4,hd.n1,hd.cb,hd.cl⟩
   ·exact dPixs_ok (s:=⟨true,s.p,x',k'⟩) ⟨hd.r,g2,by rw [← hd.sl]; exact g3,g4,hd.n1,hd.cb,hd.cl⟩ y _
  ·exact ⟨hd.r,hd.x,hd.sl,hd.k,hd.n1,hd.cb,hd.cl⟩
 ·exact dPixs_ok hd y _
theorem dAll_ok {s:D} (hd:DOk t ax ay kd base w h kx sp code n s):∀ m:Nat,(m:Int)≤h→DOk t ax ay kd base w h kx sp code n (dAll t ax ay base w h kx ty sp code s m)
 | 0,_=>hd
 | m + 1,hm=>by
  unfold dAll
  split
  ·exact dRow_ok (dAll_ok hd m q0) q0
  ·exact dAll_ok hd m (by omega)
end
theorem iter_stop {V B:Type} {step:V→(V→OA)→B→OA} {b:B} {r:OA} (s:Nat→D) (σ:Nat→V) (n:Nat) (hs:∀ i,(s i).ok = false→s (i + 1) = s i)
  (hgo:∀ i,i < n→(s i).ok = true→(s (i + 1)).ok = true→∀ c,step (σ i) c b = c (σ (i + 1)))
  (hstop:∀ i,i < n→(s i).ok = true→(s (i + 1)).ok = false→s n = s (i + 1)→∀ c,step (σ i) c b = r)
  (hend:(s n).ok = true→∀ c,step (σ n) c b = r) (h0:(s 0).ok = true) {m:Nat} (hm:n < m):iter step m (σ 0) b = r:=by
 have stay:∀ d i,(s i).ok = false→s (i + d) = s i:=by
  intro d
  induction d with
  | zero=>intro i _; rfl
  | succ d ih=>intro i hi; rw [show i + (d + 1) = (i + d) + 1 by omega,hs (i + d) (by rw [ih i hi]; exact hi),ih i hi]
 have key:∀ d i m,i + d = n→(s i).ok = true→d < m→iter step m (σ i) b = r:=by
  intro d
  induction d with
  | zero=>
   intro i m hi ho hm
   obtain ⟨m,rfl⟩:∃ k,m = k + 1:=⟨m - 1,by omega⟩
   have:i = n:=by omega
   subst this
   exact hend ho _
  | succ d ih=>
   intro i m hi ho hm
   obtain ⟨m,rfl⟩:∃ k,m = k + 1:=⟨m - 1,by omega⟩
   simp only [iter]
   cases hn:(s (i + 1)).ok with
   | true=>
    rw [hgo i q0 ho hn]
    exact ih (i + 1) m q0 hn q0
   | false=>exact hstop i q0 ho hn (by rw [← stay d (i + 1) hn]; congr 1; omega) _
 exact key n 0 m q0 h0 hm
theorem iter_stops {V B:Type} {step:V→(V→OA)→B→OA} {b:B} {r:OA} {v:V} {m:Nat} (s:Nat→D) (σ:Nat→V) (n:Nat) (hv:v = σ 0) (hs:∀ i,(s i).ok = false→s (i + 1) = s i)
  (hgo:∀ i,i < n→(s i).ok = true→(s (i + 1)).ok = true→∀ c,step (σ i) c b = c (σ (i + 1)))
  (hstop:∀ i,i < n→(s i).ok = true→(s (i + 1)).ok = false→s n = s (i + 1)→∀ c,step (σ i) c b = r)
  (hend:(s n).ok = true→∀ c,step (σ n) c b = r) (h0:(s 0).ok = true) (hm:n < m):iter step m v b = r:=by
 rw [hv]
 exact iter_stop s σ n hs hgo hstop hend h0 hm
theorem gat2 {fl:Nat} {w h:Int} {p:List Int} (hp:Pix w h p) {x y:Int} {l:List (Int×Int)} {K:Int×Int×Int×List Int×List (Int×Int)→OA}:
  bJ fl x y w h p l K = K (px w h p x y,w,h,p,l):=by
 have hl:=hp.len
 have hn:=hp.n
 unfold bJ px
 simp only [cd]
 by_cases hi:ins w h x y
 ·have hq:=place hi
  have hy:=place_y hi
  rw [if_pos hi]
  obtain ⟨h1,h2,h3,h4⟩:=hi
  rw [if_neg q0,if_neg q0,if_neg q0,if_neg q0,w6 (x:=y * w),w6 (x:=y * w + x),if_pos q0]
  try rw [both_same]
 ·rw [if_neg hi]
  unfold ins at hi
  repeat' split
  all_goals first | rfl | omega
theorem gcontext2 {fl:Nat} (hfl:9223372036854775808≤fl) {w h:Int} {p:List Int} (hp:Pix w h p) {x y:Int} {l:List (Int×Int)} (hx: -1000≤x∧x≤1000) (hy: -1000≤y∧y≤1000) (hl:l.length≤11) (hd:∀ d ∈ l, -8≤d.1∧d.1≤8∧ -8≤d.2∧d.2≤0)
  {K:Int×Int×Int×List Int×List (Int×Int)→OA}:ev fl x y w h p l K = K (ctxv w h p x y l,w,h,p,l):=by
 unfold ev uV Cj
 refine iter_seq (step:=gI fl) (fun i:Nat=>(x,y,ctxv w h p x y (l.take i),(l.length:Int),(i:Int),w,h,p,l)) l.length rfl (fun i hi c=> ?_) (fun c=> ?_) q0
 ·have e:=hd _ (getD_mem hi (0,0))
  have a:=ctxv_small hp.bit (w:=w) (h:=h) (x:=x) (y:=y) hl (show i≤l.length by omega)
  have b:=px_01 (w:=w) (h:=h) hp.bit (x + (l.getD i (0,0)).1) (y + (l.getD i (0,0)).2)
  simp (disch:=omega) only [gI,lg,dec_t,Int.toNat_natCast,wrap64,gat2 hp]
  rw [ctxv_take hi]
  rfl
 ·simp (disch:=omega) only [gI,lg,dec_f,List.take_length]
theorem above2 {fl:Nat} (hfl:9223372036854775808≤fl) {w h:Int} {p sp:List Int} (hp:Pix w h p) (hs:Sk w h sp) {sw sh:Int} {y:Nat} (hy:(y:Int) < h) {l:List (Int×Int)} {K}:
  dW fl (y:Int) sw sh sp w h p l K = K (w,h,p,l,aboveL w h p sp y):=by
 have hw0:=hp.w0; have hw1:=hp.w1; have hh1:=hp.h1; have hwh:=hp.n
 unfold dW qF BY
 rw [dec_t (by refine ⟨by omega, ?_,by omega,by omega⟩; first | rfl | trivial)]
 generalize hu:(fun x:Nat=>if skb sp (y * w.toNat + x) = true then (0:Int) else px w h p (x:Int) ((y:Int) - 1)) = u
 refine iter_seq (step:=gk fl) (fun i:Nat=>((y:Int),w,(i:Int),w,h,p,l,sw,sh,sp,fillL u w.toNat i)) w.toNat (by
  rw [fillL_zero,List.length_replicate]
  simp
  omega) (fun i hi c=> ?_) (fun c=> ?_) q0
 ·obtain ⟨p1,p2,p3⟩:=place_nat (w:=w) (h:=h) (x:=i) (y:=y) q0 hy
  have hyw:0≤(y:Int) * w:=Int.mul_nonneg q0 hw0
  have hui:u i = if skb sp (y * w.toNat + i) = true then (0:Int) else px w h p (i:Int) ((y:Int) - 1):=by rw [← hu]
  simp only [gk,lz]
  rw [dec_t q0,w6 (x:=(y:Int) * w),w6 (x:=(y:Int) * w + (i:Int)), ← p1,skips_ok hs q0,w6 (x:=(i:Int) + 1),w6 (x:=(y:Int) - 1)]
  cases hsk:skb sp (y * w.toNat + i) with
  | true=>
   rw [cond_f (b:=!true) rfl]
   rw [hsk,if_pos rfl] at hui
   rw [fillL_skip hui]
   rfl
  | false=>
   rw [hsk,if_neg (by simp)] at hui
   rw [cond_t (b:=!false) rfl,gat2 hp]
   dsimp only
   rw [fillL_len,dec_t q0,Int.toNat_natCast, ← hui,fillL_set]
   rfl
 ·simp only [gk,lz]
  rw [dec_f q0,fillL_all, ← hu]
  rfl
abbrev RowR:=Int×Int×Int×Int×Int×Int×Int×Int×Int×Bool×Bool×List Int×List (Int×Int)×List Int×List Int
abbrev RowB:=Int×Int×Int×Int×Int×Int×Int×Int×Bool×Bool×List Int×List (Int×Int)×List Int×List Int
section
variable {fl:Nat} {t ax ay kd base w h kx:Int} {ty:Bool} {sp code:List Int} {n:Nat}
theorem row_pix (hfl:9223372036854775808≤fl) {s:D} (hd:DOk t ax ay kd base w h kx sp code n s) (ho:s.ok = true) {sw sh:Int} {y:Nat} (hy:(y:Int) < h) {ret:RowR→OA} {b:RowB→OA} {s':D} (hs':dPixs t ax ay base w h kx sp code y s w.toNat = s'):
  oM fl (base,(y:Int),w,0,w,h,kx,s.x.lo,s.x.hi,((4 + s.k:Nat):Int),win (strm code) s.k,byd code s.k,false,true,s.p,around t ax ay,s.x.st,code,sw,sh,sp) ret b
  = if s'.ok = true then b (w,h,kx,s'.x.lo,s'.x.hi,((4 + s'.k:Nat):Int),win (strm code) s'.k,byd code s'.k,false,true,s'.p,around t ax ay,s'.x.st,code)
   else ret (6,w,h,kx,s'.x.lo,s'.x.hi,((4 + s'.k:Nat):Int),win (strm code) s'.k,byd code s'.k,true,true,s'.p,around t ax ay,s'.x.st,code):=by
 subst hs'
 have hw0:=hd.r.p.w0; have hw1:=hd.r.p.w1; have hh1:=hd.r.p.h1; have hwh:=hd.r.p.n
 unfold oM
 generalize hS:(fun i=>dPixs t ax ay base w h kx sp code y s i) = S
 have hS':∀ i,dPixs t ax ay base w h kx sp code y s i = S i:=fun i=>by rw [← hS]
 have hSs:∀ i,S (i + 1) = if (S i).ok = true then dPix t ax ay base w h kx sp code y i (S i) else S i:=fun i=>by rw [← hS]; rfl
 have hSk:∀ i,DOk t ax ay kd base w h kx sp code n (S i):=fun i=>by rw [← hS]; exact dPixs_ok hd y i
 have h0:S 0 = s:=by rw [← hS]; rfl
 rw [hS' w.toNat, ← h0]
 rw [← h0] at ho
 clear hS hS' h0
 have hlen:=(hSk 0).r.p.len
 refine iter_stop (step:=kJ fl) S (fun i:Nat=>(base,(y:Int),w,(i:Int),w,h,kx,(S i).x.lo,(S i).x.hi,((4 + (S i).k:Nat):Int),win (strm code) (S i).k,byd code (S i).k,false,true,(S i).p,around t ax ay,(S i).x.st,code,sw,sh,sp)) w.toNat (fun i hi=>by rw [hSs,if_neg (by rw [hi]; simp)]) (fun i hi o1 o2 c=> ?_) (fun i hi o1 o2 hn c=> ?_) (fun o c=> ?_) ho q0
 all_goals simp only [kJ,yA]
 ·obtain ⟨p1,p2,p3⟩:=place_nat (w:=w) (h:=h) (x:=i) (y:=y) q0 hy
  have hyw:0≤(y:Int) * w:=Int.mul_nonneg q0 hw0
  have hk:=hSk i
  obtain ⟨c0,c1⟩:=ctx_in hk.r (i:Int) (y:Int)
  have hlen':=hk.r.p.len
  have hb1:=hk.n1
  have hc1:=hk.cl
  have hkk:=hk.k
  rw [dec_t q0,w6 (x:=(y:Int) * w),w6 (x:=(y:Int) * w + (i:Int)), ← p1,skips_ok hd.r.s q0,w6 (x:=(i:Int) + 1)]
  have e:=hSs i
  rw [if_pos o1] at e
  unfold dPix at e
  by_cases hsk:skb sp (y * w.toNat + i) = true
  ·rw [if_pos hsk] at e
   rw [hsk,cond_t (b:=true) rfl,e]
   rfl
  ·rw [if_neg hsk] at e
   have hsk:=Bool.eq_false_iff.2 hsk
   rw [hsk,cond_f (b:=false) rfl,gcontext2 hfl hk.r.p q0 q0 (around_le t ax ay) (around_near hk.r.v)]
   dsimp only
   rw [w6 (x:=base + _),Co.get_ok hfl hk.x c0 (by rw [hk.sl]; exact c1) hk.cb hk.cl q0]
   cases hg:Co.get kx code (S i).x (S i).k (base + ctxv w h (S i).p (i:Int) (y:Int) (around t ax ay)) with
   | none=>
    rw [hg] at e
    rw [e] at o2
    exact absurd o2 (by simp)
   | some v=>
    obtain ⟨b',x',k'⟩:=v
    rw [hg] at e
    obtain ⟨g1,g2,g3,g4⟩:=get_some hk.x c0 (by rw [hk.sl]; exact c1) hg
    dsimp only
    rw [cond_f (b:=(0:Int) != 0) rfl,w6 (x:=(y:Int) * w),w6 (x:=(y:Int) * w + (i:Int)), ← p1,dec_t q0,Int.toNat_natCast,wrap8 (x:=b') q0 q0,e]
    rfl
 ·obtain ⟨p1,p2,p3⟩:=place_nat (w:=w) (h:=h) (x:=i) (y:=y) q0 hy
  have hyw:0≤(y:Int) * w:=Int.mul_nonneg q0 hw0
  have hk:=hSk i
  obtain ⟨c0,c1⟩:=ctx_in hk.r (i:Int) (y:Int)
  have hlen':=hk.r.p.len
  have hb1:=hk.n1
  have hc1:=hk.cl
  have hkk:=hk.k
  rw [dec_t q0,w6 (x:=(y:Int) * w),w6 (x:=(y:Int) * w + (i:Int)), ← p1,skips_ok hd.r.s q0,w6 (x:=(i:Int) + 1)]
  have e:=hSs i
  rw [if_pos o1] at e
  unfold dPix at e
  by_cases hsk:skb sp (y * w.toNat + i) = true
  ·rw [if_pos hsk] at e
   rw [e,o1] at o2
   exact absurd o2 (by simp)
  ·rw [if_neg hsk] at e
   have hsk:=Bool.eq_false_iff.2 hsk
   rw [hsk,cond_f (b:=false) rfl,gcontext2 hfl hk.r.p q0 q0 (around_le t ax ay) (around_near hk.r.v)]
   dsimp only
   rw [w6 (x:=base + _),Co.get_ok hfl hk.x c0 (by rw [hk.sl]; exact c1) hk.cb hk.cl q0]
   cases hg:Co.get kx code (S i).x (S i).k (base + ctxv w h (S i).p (i:Int) (y:Int) (around t ax ay)) with
   | some v=>
    obtain ⟨b',x',k'⟩:=v
    rw [hg] at e
    rw [e] at o2
    exact absurd o2 (by simp)
   | none=>
    rw [hg] at e
    dsimp only
    rw [hn,if_neg (by rw [o2]; simp),e]
    rfl
 ·rw [dec_f q0,if_pos o]
theorem wr_ok {w h:Int} {p r:List Int} (hp:Pix w h p) {y:Nat} (hy:(y:Int) < h) (hr:r.length = w.toNat):
  List.take (loOf (some ((y:Int) * w))).toNat p++List.take (hiOf none (p.length:Int) - loOf (some ((y:Int) * w))).toNat r++List.drop ((loOf (some ((y:Int) * w))).toNat + min (hiOf none (p.length:Int) - loOf (some ((y:Int) * w))).toNat r.length) p = wrRow w y p r:=by
 have hw0:=hp.w0
 have hlen:=hp.len
 have h1:((y:Int) + 1) * w≤h * w:=Int.mul_le_mul_of_nonneg_right q0 q0
 rw [Int.add_mul,Int.one_mul,Int.mul_comm h w] at h1
 have h2:((y * w.toNat:Nat):Int) = (y:Int) * w:=by rw [Int.natCast_mul]; congr 1; omega
 have h3:(loOf (some ((y:Int) * w))).toNat = y * w.toNat:=by show ((y:Int) * w).toNat = _; omega
 have h4:w.toNat≤(hiOf none (p.length:Int) - loOf (some ((y:Int) * w))).toNat:=by show _≤((p.length:Int) - (y:Int) * w).toNat; omega
 unfold wrRow
 rw [h3,List.take_of_length_le (l:=r) q0,Nat.min_eq_right q0,hr]
theorem row_ok (hfl:9223372036854775808≤fl) {s:D} (hd:DOk t ax ay kd base w h kx sp code n s) (ho:s.ok = true) {sw sh:Int} {y:Nat} (hy:(y:Int) < h) {K:RowR→OA} {s':D} (hs':dRow t ax ay base w h kx ty sp code y s = s'):
  eG fl base t ax ay ty kd (y:Int) sw sh sp w h kx s.x.lo s.x.hi ((4 + s.k:Nat):Int) (win (strm code) s.k) (byd code s.k) false true s.p (around t ax ay) s.x.st code K
  = K (if s'.ok = true then 0 else 6,w,h,kx,s'.x.lo,s'.x.hi,((4 + s'.k:Nat):Int),win (strm code) s'.k,byd code s'.k,!s'.ok,true,s'.p,around t ax ay,s'.x.st,code):=by
 have sz:=size_eq (t:=t)
 have hb0:=hd.r.b0; have hb1:=hd.r.b1; have hn1:=hd.n1; have hk:=hd.k; have hcl:=hd.cl
 have hw0:=hd.r.p.w0; have hw1:=hd.r.p.w1; have hh1:=hd.r.p.h1; have hwh:=hd.r.p.n; have hlen:=hd.r.p.len
 have hyw:0≤(y:Int) * w:=Int.mul_nonneg q0 hw0
 have hyw2:((y:Int) + 1) * w≤h * w:=Int.mul_le_mul_of_nonneg_right q0 q0
 rw [Int.mul_comm h w] at hyw2
 have hyw3:((y:Int) + 1) * w = (y:Int) * w + w:=by rw [Int.add_mul,Int.one_mul]
 unfold eG ut
 unfold dRow at hs'
 cases ty with
 | false=>
  rw [if_neg (by simp)] at hs'
  rw [cond_false,row_pix hfl hd ho hy hs']
  cases s'.ok <;> rfl
 | true=>
  rw [if_pos rfl] at hs'
  rw [cond_true,gcontexts,w6 (x:=base + (size t - 1)),Co.get_ok hfl hd.x q0 (by rw [hd.sl]; omega) hd.cb hd.cl q0]
  cases hg:Co.get kx code s.x s.k (base + (size t - 1)) with
  | none=>
   rw [hg] at hs'
   dsimp only
   rw [cond_t (by rfl), ← hs']
   rfl
  | some v=>
   obtain ⟨b',x',k'⟩:=v
   rw [hg] at hs'
   obtain ⟨g1,g2,g3,g4⟩:=get_some hd.x q0 (by rw [hd.sl]; omega) hg
   dsimp only at hs' ⊢
   rw [cond_f (b:=(0:Int) != 0) rfl]
   simp only [both_same]
   by_cases hb:b' = 1
   ·rw [if_pos hb] at hs'
    subst hb
    simp only [above2 hfl hd.r.p hd.r.s hy]
    rw [cond_t (b:=(1:Int)==1) rfl,w6 (x:=(y:Int) * w),dec_t (show (0:Int)≤loOf (some ((y:Int) * w))∧loOf (some ((y:Int) * w))≤hiOf none (s.p.length:Int)∧hiOf none (s.p.length:Int)≤(s.p.length:Int) by simp only [loOf_some,hiOf]; omega)]
    simp only [both_same]
    rw [wr_ok hd.r.p hy (aboveL_len _ _ _ _ _), ← hs']
    rfl
   ·rw [if_neg hb] at hs'
    rw [cond_f (b:=b'==1) (beq_eq_false_iff_ne.2 hb)]
    have hd2:DOk t ax ay kd base w h kx sp code n ⟨true,s.p,x',k'⟩:=⟨hd.r,g2,by rw [← hd.sl]; exact g3,g4,hd.n1,hd.cb,hd.cl⟩
    have hp:=fun ret b=>row_pix (s:=⟨true,s.p,x',k'⟩) (sw:=sw) (sh:=sh) hfl hd2 rfl hy (ret:=ret) (b:=b) hs'
    simp only at hp
    rw [hp]
    cases s'.ok <;> rfl
end
open Go Ev Bm Co
structure Skp (w h sw sh:Int) (sp:List Int):Prop where
 v:valid sw sh sp = true
 z:∀ v ∈ sp,0≤v
 s:(sw = 0∧sh = 0)∨(sw = w∧sh = h)
theorem Skp.sk {w h sw sh:Int} {sp:List Int} (hs:Skp w h sw sh sp):Sk w h sp:=by
 have hp:=(pix_of hs.v hs.z).len
 rcases hs.s with ⟨rfl,rfl⟩ | ⟨rfl,rfl⟩
 ·left
  exact List.length_eq_zero_iff.1 q0
 ·exact .inr hp
theorem replicate_set (n i:Nat):(List.replicate n (0:Int)).set i 0 = List.replicate n 0:=by
 apply List.ext_getElem (by simp)
 intro j h1 h2
 simp [List.getElem_set]
theorem bnew0 {fl:Nat} (hfl:9223372036854775808≤fl) {w h:Int} (hf:fit w h = true) {K:Int×Int×Int×List Int→OA}:aX fl w h 0 K = K (w,h,0,List.replicate (w * h).toNat 0):=by
 obtain ⟨f1,f2,f3,f4,f5⟩:=fit_iff.1 hf
 have hm:=Int.mul_nonneg f1 f2
 unfold aX jz dl kK
 rw [dec_f q0,dec_f q0,cond_f (b:=(0:Int) != 0) rfl,fits_ok,hf,cond_f (b:=!true) rfl,w6 (x:=w * h),dec_t (by refine ⟨by omega, ?_,by omega,by omega⟩; first | rfl | trivial)]
 dsimp only
 unfold je
 refine iter_seq (step:=cx fl) (fun i:Nat=>(0,0,((List.replicate (w * h).toNat (0:Int)).length:Int),(i:Int),0,0,w,h,[],List.replicate (w * h).toNat 0)) (w * h).toNat rfl (fun i hi c=> ?_) (fun c=> ?_) q0
 ·simp only [cx,fM,List.length_replicate]
  rw [dec_t q0,dec_t q0,wrap64 q0 q0,wrap8 q0 q0,replicate_set]
  rfl
 ·simp only [cx,fM,List.length_replicate]
  rw [dec_f q0]
theorem bnew_bad {fl:Nat} (hfl:9223372036854775808≤fl) {w h:Int} (hf:fit w h = false):∃ e:Int,e ≠ 0∧∀ K:Int×Int×Int×List Int→OA,aX fl w h 0 K = K (0,0,e,[]):=by
 unfold aX jz dl kK
 by_cases h1:w < 0
 ·exact ⟨2,by omega,fun K=>by rw [dec_t h1]⟩
 by_cases h2:h < 0
 ·exact ⟨2,by omega,fun K=>by rw [dec_f h1,dec_t h2]⟩
 refine ⟨4,by omega,fun K=> ?_⟩
 rw [dec_f h1,dec_f h2,cond_f (b:=(0:Int) != 0) rfl,fits_ok,hf,cond_t (b:=!false) rfl]
 dsimp only
 unfold je
 refine iter_to (step:=cx fl) (fun i:Nat=>(0,4,(([]:List Int).length:Int),(i:Int),0,0,0,0,[],[])) 0 (fun i hi c=>by omega) (fun c=> ?_) q0
 ·simp only [cx,fM]
  rw [dec_f (by simp)]
def gErr (t ax ay kd base w h sw sh:Int) (sp:List Int) (n:Nat):Int:=
 if vr t ax ay kd = true then (if fit w h = true then (if valid sw sh sp = true then (if (sw = 0∧sh = 0)∨(sw = w∧sh = h) then (if 0≤base∧base + size t≤n then 0 else 2) else 2) else 30) else 30) else 2
def d0 (w h:Int) (x:Iv) (k:Nat):D:=⟨true,List.replicate (w * h).toNat 0,x,k⟩
def gRes (t ax ay base w h kx:Int) (ty:Bool) (sp code:List Int) (e:Int) (x:Iv) (k:Nat):(Int×Int×Int)×D:=
 if e = 0 then
  (if (dAll t ax ay base w h kx ty sp code (d0 w h x k) h.toNat).ok = true then ((w,h,0),dAll t ax ay base w h kx ty sp code (d0 w h x k) h.toNat)
  else ((0,0,6),⟨false,[],(dAll t ax ay base w h kx ty sp code (d0 w h x k) h.toNat).x,(dAll t ax ay base w h kx ty sp code (d0 w h x k) h.toNat).k⟩))
 else ((0,0,e),⟨true,[],x,k⟩)
section
variable {fl:Nat} {t ax ay kd base w h kx sw sh:Int} {ty:Bool} {sp code:List Int}
theorem pix_d0 (hf:fit w h = true):Pix w h (List.replicate (w * h).toNat 0):=by
 obtain ⟨f1,f2,f3,f4,f5⟩:=fit_iff.1 hf
 have hm:=Int.mul_nonneg f1 f2
 exact ⟨f1,f2,f3,f4,f5,by rw [List.length_replicate]; omega,fun v hv=>by have:=(List.mem_replicate.1 hv).2; omega⟩
theorem dOk0 (hv:vr t ax ay kd = true) (hf:fit w h = true) (hs:Sk w h sp) {x:Iv} {k:Nat} (hb:0≤base∧base + size t≤(x.st.length:Int)) (hx:x.Ok kx) (hn:x.st.length≤8192) (cb:Bytes code) (cl:code.length≤1000000) (hk:k≤code.length):
  DOk t ax ay kd base w h kx sp code x.st.length (d0 w h x k):=⟨⟨hv,pix_d0 hf,hs,hb.1,hb.2⟩,hx,rfl,hk,hn,cb,cl⟩
theorem gsides {K:Bool→OA}:aR fl sw sh sp w h K = K (decide ((sw = 0∧sh = 0)∨(sw = w∧sh = h))):=by
 unfold aR
 simp only [cb]
 repeat' split
 all_goals congr 1
 all_goals by_cases hh:sh = h <;> simp_all
theorem gfits {st:List Int} (hl:st.length≤1000000) {K:Bool→OA}:cr fl kx st base t ax ay ty kd K = K (decide (0≤base∧base + size t≤(st.length:Int))):=by
 have sz:=size_eq (t:=t)
 unfold cr wx
 by_cases h0:base≥0
 ·rw [dec_t h0,gcontexts,w6 (x:=(st.length:Int) - _),wrap64 q0 q0]
  congr 1
  apply decide_eq_decide.2
  omega
 ·rw [dec_f h0,decide_eq_false q0]
theorem gget (hfl:9223372036854775808≤fl) {x:Iv} {k:Nat} (hx:x.Ok kx) (hn:x.st.length≤8192) (hcb:Bytes code) (hcl:code.length≤1000000) (hk:k≤code.length) (hz:∀ v ∈ sp,0≤v)
  {K:Int×Int×List Int×Int×Int×Int×Int×Int×Int×Int×Bool×Bool×List Int×List Int→OA} {e:Int} (he:gErr t ax ay kd base w h sw sh sp x.st.length = e) {R:(Int×Int×Int)×D} (hR:gRes t ax ay base w h kx ty sp code e x k = R):
  fJ fl base t ax ay ty kd w h sw sh sp kx x.lo x.hi ((4 + k:Nat):Int) (win (strm code) k) (byd code k) false true x.st code K
  = K (R.1.1,R.1.2.1,R.2.p,R.1.2.2,kx,R.2.x.lo,R.2.x.hi,((4 + R.2.k:Nat):Int),win (strm code) R.2.k,byd code R.2.k,!R.2.ok,true,R.2.x.st,code):=by
 unfold fJ pL
 rw [Co.get_bad]
 dsimp only
 rw [cond_f (b:=(2:Int)==7) rfl,gvalid]
 unfold gErr at he
 cases hv:vr t ax ay kd with
 | false=>
  rw [hv,if_neg (by simp)] at he
  subst he
  rw [gRes,if_neg q0] at hR
  subst hR
  rfl
 | true=>
 rw [hv,if_pos rfl] at he
 rw [cond_f (b:=!true) rfl]
 cases hf:fit w h with
 | false=>
  rw [hf,if_neg (by simp)] at he
  subst he
  rw [gRes,if_neg q0] at hR
  subst hR
  obtain ⟨e,e1,e2⟩:=bnew_bad hfl hf
  rw [e2]
  dsimp only
  rw [cond_t (by simp [e1])]
  rfl
 | true=>
 rw [hf,if_pos rfl] at he
 obtain ⟨f1,f2,f3,f4,f5⟩:=fit_iff.1 hf
 rw [bnew0 hfl hf]
 dsimp only
 rw [cond_f (b:=(0:Int) != 0) rfl,valid_ok hfl]
 cases hsv:valid sw sh sp with
 | false=>
  rw [hsv,if_neg (by simp)] at he
  subst he
  rw [gRes,if_neg q0] at hR
  subst hR
  rfl
 | true=>
 rw [hsv,if_pos rfl] at he
 rw [cond_f (b:=!true) rfl,gsides]
 by_cases hsd:(sw = 0∧sh = 0)∨(sw = w∧sh = h)
 rotate_left
 ·rw [if_neg hsd] at he
  subst he
  rw [gRes,if_neg q0] at hR
  subst hR
  rw [decide_eq_false hsd]
  rfl
 rw [if_pos hsd] at he
 rw [decide_eq_true hsd,cond_f (b:=!true) rfl]
 unfold ak eN aS
 dsimp only
 rw [cond_f (b:=!true) rfl,clone_ok q0]
 dsimp only
 rw [gfits q0]
 by_cases hb:0≤base∧base + size t≤(x.st.length:Int)
 rotate_left
 ·rw [if_neg hb] at he
  subst he
  rw [gRes,if_neg q0] at hR
  subst hR
  rw [decide_eq_false hb]
  rfl
 rw [if_pos hb] at he
 subst he
 rw [gRes,if_pos rfl] at hR
 have hsk:Skp w h sw sh sp:=⟨hsv,hz,hsd⟩
 have hd:=dOk0 hv hf hsk.sk hb hx hn hcb hcl hk
 rw [decide_eq_true hb,cond_f (b:=!true) rfl,gplane (Int.mul_nonneg f1 f2) q0]
 dsimp only
 unfold DC
 generalize hS:(fun i=>dAll t ax ay base w h kx ty sp code (d0 w h x k) i) = S at *
 have hS':∀ i,dAll t ax ay base w h kx ty sp code (d0 w h x k) i = S i:=fun i=>by rw [← hS]
 have hSs:∀ i,S (i + 1) = if (S i).ok = true then dRow t ax ay base w h kx ty sp code i (S i) else S i:=fun i=>by rw [← hS]; rfl
 have hSk:∀ i:Nat,(i:Int)≤h→DOk t ax ay kd base w h kx sp code x.st.length (S i):=fun i hi=>by rw [← hS]; exact dAll_ok hd i hi
 have h0:S 0 = d0 w h x k:=by rw [← hS]; rfl
 rw [hS'] at hR
 refine iter_stops (step:=jV fl) S (fun i:Nat=>(base,w,h,h,(i:Int),kx,(S i).x.lo,(S i).x.hi,((4 + (S i).k:Nat):Int),win (strm code) (S i).k,byd code (S i).k,false,true,(S i).x.st,code,t,ax,ay,ty,kd,sw,sh,sp,0,0,w,h,[],(S i).p,around t ax ay)) h.toNat (by simp only [h0]; rfl) (fun i hi=>by rw [hSs,if_neg (by rw [hi]; simp)]) (fun i hi o1 o2 c=> ?_) (fun i hi o1 o2 hn c=> ?_) (fun o c=> ?_) (by rw [h0]; rfl) q0
 all_goals simp only [jV,wP]
 ·have hk':=hSk i q0
  have e:=hSs i
  rw [if_pos o1] at e
  rw [dec_t q0,row_ok hfl hk' o1 q0 e.symm]
  dsimp only
  rw [o2,if_pos rfl,cond_f (b:=(0:Int) != 0) rfl,wrap64 q0 q0]
  rfl
 ·have hk':=hSk i q0
  have e:=hSs i
  rw [if_pos o1] at e
  rw [dec_t q0,row_ok hfl hk' o1 q0 e.symm]
  dsimp only
  rw [hn,if_neg (by rw [o2]; simp)] at hR
  rw [o2,if_neg (by simp),cond_t (by rfl), ← hR]
  try rfl
 ·rw [dec_f q0]
  rw [if_pos o] at hR
  rw [← hR]
  dsimp only
  rw [o]
  rfl
end
open Go Ev Bm Co
def White (sp p:List Int):Prop:=∀ i,skb sp i = true→p.getD i 0 = 0
theorem White.set {sp p:List Int} (hw:White sp p) {i:Nat} (hi:skb sp i = false) (b:Int):White sp (p.set i b):=fun j hj=>by
 have hij:i ≠ j:=by
  intro e
  subst e
  rw [hi] at hj
  exact absurd hj (by simp)
 rw [List.getD_eq_getElem?_getD,List.getElem?_set,if_neg hij, ← List.getD_eq_getElem?_getD]
 exact hw j hj
theorem White.wr {w h:Int} {sp p:List Int} (hp:Pix w h p) (hw:White sp p) {y:Nat} (hy:(y:Int) < h):White sp (wrRow w y p (aboveL w h p sp y)):=fun j hj=>by
 have hw0:=hp.w0
 have hlen:=hp.len
 have h1:((y:Int) + 1) * w≤h * w:=Int.mul_le_mul_of_nonneg_right q0 q0
 rw [Int.add_mul,Int.one_mul,Int.mul_comm h w] at h1
 have h2:((y * w.toNat:Nat):Int) = (y:Int) * w:=by rw [Int.natCast_mul]; congr 1; omega
 have h3:y * w.toNat + w.toNat≤p.length:=by omega
 have hj':=hw j hj
 have hal:=aboveL_len w h p sp y
 rw [List.getD_eq_getElem?_getD] at hj' ⊢
 unfold wrRow
 rw [List.append_assoc,List.getElem?_append,List.length_take,Nat.min_eq_left q0]
 by_cases c1:j < y * w.toNat
 ·rw [if_pos c1,List.getElem?_take,if_pos c1]
  exact hj'
 ·rw [if_neg c1,List.getElem?_append,hal]
  by_cases c2:j - y * w.toNat < w.toNat
  ·rw [if_pos c2]
   have hsk:skb sp (y * w.toNat + (j - y * w.toNat)) = true:=by rw [show y * w.toNat + (j - y * w.toNat) = j by omega]; exact hj
   unfold aboveL
   rw [List.getElem?_map,List.getElem?_range c2]
   show (if skb sp (y * w.toNat + (j - y * w.toNat)) = true then (0:Int) else _) = 0
   rw [if_pos hsk]
  ·rw [if_neg c2,List.getElem?_drop,show y * w.toNat + w.toNat + (j - y * w.toNat - w.toNat) = j by omega]
   exact hj'
section
variable {t ax ay kd base w h kx:Int} {ty:Bool} {sp code:List Int} {n:Nat}
end
theorem put_bad {fl:Nat} {b kd lo hi:Int} {st out:List Int} {k0 k1:Int×Int×Int×Int×Bool×List Int×List Int→OA}:
  ab fl (-1) b kd lo hi true st out k0 k1 = k0 (2,kd,lo,hi,true,st,out):=by
 unfold ab ke aw
 dsimp only
 rw [cond_f (b:=!true) rfl,dec_t q0]
theorem clash_none {fl:Nat} (hfl:9223372036854775808≤fl) {w h sw sh:Int} {p sp:List Int} (hp:Pix w h p) (hs:Sk w h sp) (hw:White sp p) {K:Bool→OA}:hO fl w h p sw sh sp K = K false:=by
 have hn:=hp.n; have hlen:=hp.len
 unfold hO wj Ax
 refine iter_to (step:=ii fl) (fun i:Nat=>(p,(p.length:Int),(i:Int),w,h,p,sw,sh,sp)) p.length (fun i hi c=> ?_) (fun c=> ?_) q0
 ·simp only [ii,lD]
  rw [dec_t q0,dec_t q0,Int.toNat_natCast,wrap64 q0 q0]
  by_cases h1:p.getD i 0 = 1
  ·have hk:skb sp i = false:=by
    cases hk:skb sp i with
    | false=>rfl
    | true=>
     have:=hw i hk
     omega
   rw [h1,cond_t (b:=(1:Int)==1) rfl,gsides,skips_ok hs q0,hk]
   cases decide ((sw = 0∧sh = 0)∨(sw = w∧sh = h)) <;> rfl
  ·rw [cond_f (b:=p.getD i 0==1) (beq_eq_false_iff_ne.2 h1)]
   rfl
 ·simp only [ii,lD]
  rw [dec_f q0]
end Go.Proofs.YtohnjbmiaegofaaGreat.Gen
set_option maxHeartbeats 2000000
namespace Go.Proofs.YtohnjbmiaegofaaGreat.Di
open Go Ev Bm Co Gen Dc Rf
abbrev Shp:Type:=Bmp×Int
def bmAt (all:List Bmp) (n:Int):Bmp:=all.getD n.toNat (0,0,[])
section
variable (t ax ay tm:Int) (n:Nat)
def shEv (all:List Bmp) (s:Shp):List (Int×Int):=
 if s.2 < 0 then [(240,0)]++allEv t ax ay (dir n) s.1.1 s.1.2.1 false s.1.2.2 [] s.1.2.1.toNat
 else [(240,1)]++idEv 241 (wd n) s.2.toNat (wd n)++numEv 96 false 0++numEv 144 false 0
  ++rwE tm 0 0 (lik t n) s.1.1 s.1.2.1 s.1.2.2 (bmAt all s.2).1 (bmAt all s.2).2.1 (bmAt all s.2).2.2 s.1.2.1.toNat
def dEv:List Shp→Int→Int→List Bmp→Bool→List (Int×Int)
 | [],_,_,_,on=>if on = true then numEv 48 true 0 else []
 | s::l,h,w,all,on=>
  if on = true∧s.1.2.1 = h then numEv 48 false (s.1.1 - w)++shEv t ax ay tm n all s++dEv l h s.1.1 (all++ [s.1]) true
  else (if on = true then numEv 48 true 0 else [])++numEv 0 false (s.1.2.1 - h)++numEv 48 false s.1.1++shEv t ax ay tm n all s++dEv l s.1.2.1 s.1.1 (all++ [s.1]) true
end
structure DE (t ax ay kd tm:Int) (n:Nat):Prop where
 v:dv t ax ay false kd tm = true
 n:n≤60
def BOk (b:Bmp):Prop:=shp b = true∧∀ v ∈ b.2.2,0≤v
def AllOk (all:List Bmp):Prop:=∀ b ∈ all,BOk b
def ShOk (all:List Bmp) (s:Shp):Prop:=BOk s.1∧ -1≤s.2∧s.2 < (all.length:Int)
def ShsOk:List Shp→List Bmp→Prop
 | [],_=>True
 | s::l,all=>ShOk all s∧ShsOk l (all++ [s.1])
theorem BOk.pix {b:Bmp} (h:BOk b):Pix b.1 b.2.1 b.2.2∧1≤b.1∧b.1≤40∧1≤b.2.1∧b.2.1≤40:=by
 obtain ⟨h,hz⟩:=h
 unfold shp at h
 simp only [Bool.and_eq_true,decide_eq_true_eq] at h
 exact ⟨pix_of h.1 hz,h.2.1,h.2.2.1,h.2.2.2.1,h.2.2.2.2⟩
theorem AllOk.snoc {all:List Bmp} (h:AllOk all) {b:Bmp} (hb:BOk b):AllOk (all++ [b]):=fun x hx=>by
 rcases List.mem_append.1 hx with hx | hx
 ·exact h x hx
 ·rw [List.mem_singleton] at hx
  exact hx ▸ hb
theorem AllOk.at {all:List Bmp} (h:AllOk all) {n:Int} (h0:0≤n) (h1:n < (all.length:Int)):BOk (bmAt all n):=h _ (getD_mem q0 _)
theorem sk_none (w h:Int):Skp w h 0 0 []:=⟨rfl,fun v hv=>(by cases hv),.inl ⟨rfl,rfl⟩⟩
theorem white_none (p:List Int):White [] p:=fun i h=>by
 rw [skb_nil] at h
 cases h
section
variable {t ax ay kd tm:Int} {n:Nat} {all:List Bmp} {s:Shp}
theorem DE.reg (D:DE t ax ay kd tm n) {N:Nat} (hN:(N:Int) = tot t tm n) {b:Bmp} (hb:BOk b):Reg t ax ay kd (dir n) b.1 b.2.1 b.2.2 [] N:=by
 obtain ⟨e1,e2,e3,e4,e5,e6,e7⟩:=lay_rg t tm D.n
 exact ⟨(dv_iff.1 D.v).1,hb.pix.1,.inl rfl,by omega,by have:0≤csz tm:=(by have:=csz_eq tm; omega); omega⟩
theorem DE.kk (D:DE t ax ay kd tm n):kd = 0∨kd = 1:=by
 obtain ⟨_,_,h,_⟩:=vr_iff.1 (dv_iff.1 D.v).1
 exact h
theorem DE.rr (D:DE t ax ay kd tm n) {b c:Bmp} (hb:BOk b) (hc:BOk c) {dx dy:Int} (hx: -200≤dx∧dx≤200) (hy: -200≤dy∧dy≤200):RR tm dx dy kd b.1 b.2.1 b.2.2 c.1 c.2.1 c.2.2:=
 ⟨(dv_iff.1 D.v).2.2,D.kk,hx,hy,hb.pix.1,hc.pix.1⟩
theorem shEv_ok (D:DE t ax ay kd tm n) {N:Nat} (hN:(N:Int) = tot t tm n) (hA:AllOk all) (h:ShOk all s) (hal:all.length≤n):Evs N (shEv t ax ay tm n all s)∧(shEv t ax ay tm n all s).length≤1800:=by
 obtain ⟨e1,e2,e3,e4,e5,e6,e7⟩:=lay_rg t tm D.n
 obtain ⟨hb,f0,f1⟩:=h
 obtain ⟨p,w0,w1,h0,h1⟩:=hb.pix
 obtain ⟨ka,kb,kc,kd'⟩:=wd_rg D.n
 have e2':(2:Int) ^ wd n = ((2 ^ wd n:Nat):Int):=by rw [Int.natCast_pow]; rfl
 unfold shEv
 split
 ·obtain ⟨a,b⟩:=allEv_ok (D.reg hN hb) false s.1.2.1.toNat
  have hm:(s.1.1.toNat + 1) * s.1.2.1.toNat≤41 * 40:=Nat.mul_le_mul q0 q0
  refine ⟨Evs.app (Evs.one q0 q0 (.inl rfl)) a, ?_⟩
  simp only [List.length_append,List.length_cons,List.length_nil]
  omega
 ·rename_i hneg
  have hc:=hA.at (n:=s.2) q0 f1
  have a2:Evs N (idEv 241 (wd n) s.2.toNat (wd n)):=idEv_evs q0 (by rw [e2']; unfold dir at *; omega) q0 _ (Nat.le_refl _)
  have a2l:=idEv_len 241 (wd n) s.2.toNat (wd n)
  obtain ⟨c1,c2⟩:=numEv_ok (base:=96) (n:=N) q0 q0 false (v:=0) q0 q0
  obtain ⟨c3,c4⟩:=numEv_ok (base:=144) (n:=N) q0 q0 false (v:=0) q0 q0
  obtain ⟨c9,c10⟩:=rwE_ok (D.rr hb hc (dx:=0) (dy:=0) q0 q0) (base:=lik t n) (n:=N) q0 (by unfold tot at *; omega) s.1.2.1.toNat
  have hm:s.1.2.1.toNat * s.1.1.toNat≤40 * 40:=Nat.mul_le_mul q0 q0
  refine ⟨Evs.app (Evs.app (Evs.app (Evs.app (Evs.one q0 q0 (.inr rfl)) a2) c1) c3) c9, ?_⟩
  simp only [List.length_append,List.length_cons,List.length_nil]
  omega
theorem dEv_ok (D:DE t ax ay kd tm n) {N:Nat} (hN:(N:Int) = tot t tm n):∀ (l:List Shp) (h w:Int) (all:List Bmp) (on:Bool),AllOk all→ShsOk l all→all.length + l.length≤n→0≤h→h≤40→0≤w→w≤40→
  Evs N (dEv t ax ay tm n l h w all on)∧(dEv t ax ay tm n l h w all on).length≤2000 * l.length + 50
 | [],h,w,all,on,hA,hs,hl,h0,h1,w0,w1=>by
  obtain ⟨e1,e2,e3,e4,e5,e6,e7⟩:=lay_rg t tm D.n
  unfold dEv
  split
  ·obtain ⟨a,b⟩:=numEv_ok (base:=48) (n:=N) q0 q0 true (v:=0) q0 q0
   exact ⟨a,by simpa using b⟩
  ·exact ⟨Evs.nil N,by simp⟩
 | s::l,h,w,all,on,hA,hs,hl,h0,h1,w0,w1=>by
  obtain ⟨e1,e2,e3,e4,e5,e6,e7⟩:=lay_rg t tm D.n
  obtain ⟨q,hs⟩:=hs
  rw [List.length_cons] at hl
  obtain ⟨g1,g2⟩:=shEv_ok D hN hA q q0
  obtain ⟨p,p0,p1,p2,p3⟩:=q.1.pix
  have hla:(all++ [s.1]).length = all.length + 1:=by simp
  obtain ⟨i1,i2⟩:=dEv_ok D hN l h s.1.1 (all++ [s.1]) true (hA.snoc q.1) hs q0 h0 h1 q0 q0
  obtain ⟨j1,j2⟩:=dEv_ok D hN l s.1.2.1 s.1.1 (all++ [s.1]) true (hA.snoc q.1) hs q0 q0 q0 q0 q0
  obtain ⟨a1,a2⟩:=numEv_ok (base:=48) (n:=N) q0 q0 false (v:=s.1.1 - w) q0 q0
  obtain ⟨b1,b2⟩:=numEv_ok (base:=48) (n:=N) q0 q0 false (v:=s.1.1) q0 q0
  obtain ⟨c1,c2⟩:=numEv_ok (base:=0) (n:=N) q0 q0 false (v:=s.1.2.1 - h) q0 q0
  obtain ⟨d1,d2⟩:=numEv_ok (base:=48) (n:=N) q0 q0 true (v:=0) q0 q0
  have d3:Evs N (if on = true then numEv 48 true 0 else [])∧(if on = true then numEv 48 true 0 else []).length≤50:=by
   split
   ·exact ⟨d1,d2⟩
   ·exact ⟨Evs.nil N,by simp⟩
  unfold dEv
  split
  ·refine ⟨Evs.app (Evs.app a1 g1) i1, ?_⟩
   simp only [List.length_append,List.length_cons]
   omega
  ·refine ⟨Evs.app (Evs.app (Evs.app (Evs.app d3.1 c1) b1) g1) j1, ?_⟩
   have:=d3.2
   simp only [List.length_append,List.length_cons]
   omega
end
section
variable {fl:Nat} (hfl:9223372036854775808≤fl) {kd:Int} {x:Iv} (hx:x.Ok kd) (hn:x.st.length≤8192) {out:List Int}
include hfl hx hn
theorem Put_at {E:List (Int×Int)} (he:Evs x.st.length E) (hl:out.length + 5 * E.length≤800000000) {base:Int} (hb:0≤base) (hb2:base + 48≤(x.st.length:Int)) {o:Bool} {n:Int} (hon:o = true→n = 0) (h0: -1048576≤n) (h1:n≤1048576) {K:Int×Int×Int×Int×Bool×List Int×List Int→OA}:
  bx fl base o n kd (run kd x out E).1.lo (run kd x out E).1.hi true (run kd x out E).1.st (run kd x out E).2 K
  = K (0,kd,(run kd x out (E++numEv base o n)).1.lo,(run kd x out (E++numEv base o n)).1.hi,true,(run kd x out (E++numEv base o n)).1.st,(run kd x out (E++numEv base o n)).2):=by
 obtain ⟨ok,okl⟩:=run_ok E (out:=out) hx he
 have hol:=run_len_le E (kd:=kd) (x:=x) (out:=out)
 rw [run_append,Put_ok hfl ok q0 hb q0 hon h0 h1 q0]
theorem PutId_at {E:List (Int×Int)} (he:Evs x.st.length E) (hl:out.length + 5 * E.length≤800000000) {base:Int} (hb:0≤base) {k id:Nat} (hk:k≤10) (hid:id < 2 ^ k) (hb2:base + 2 ^ k - 1≤(x.st.length:Int)) {K:Int×Int×Int×Int×Bool×List Int×List Int→OA}:
  dq fl base (k:Int) (id:Int) kd (run kd x out E).1.lo (run kd x out E).1.hi true (run kd x out E).1.st (run kd x out E).2 K
  = K (0,kd,(run kd x out (E++idEv base k id k)).1.lo,(run kd x out (E++idEv base k id k)).1.hi,true,(run kd x out (E++idEv base k id k)).1.st,(run kd x out (E++idEv base k id k)).2):=by
 obtain ⟨ok,okl⟩:=run_ok E (out:=out) hx he
 have hol:=run_len_le E (kd:=kd) (x:=x) (out:=out)
 rw [run_append,PutId_ok hfl ok q0 hb hk hid (by rw [okl]; exact hb2) q0]
theorem eput_at {E:List (Int×Int)} (he:Evs x.st.length E) (hl:out.length + 5 * E.length≤800000000) {c b:Int} (h0:0≤c) (h1:c < (x.st.length:Int)) (hb:b = 0∨b = 1) {k0 k1:Int×Int×Int×Int×Bool×List Int×List Int→OA}:
  ab fl c b kd (run kd x out E).1.lo (run kd x out E).1.hi true (run kd x out E).1.st (run kd x out E).2 k0 k1
  = k1 (0,kd,(run kd x out (E++ [(c,b)])).1.lo,(run kd x out (E++ [(c,b)])).1.hi,true,(run kd x out (E++ [(c,b)])).1.st,(run kd x out (E++ [(c,b)])).2):=by
 obtain ⟨ok,okl⟩:=run_ok E (out:=out) hx he
 have hol:=run_len_le E (kd:=kd) (x:=x) (out:=out)
 rw [run_append,Co.put_ok hfl ok h0 q0 hb q0]
 rfl
theorem rput_at {t dx dy base w h kr:Int} {p:List Int} {rw rh:Int} {rp:List Int} (hr:RR t dx dy kr w h p rw rh rp) {E:List (Int×Int)} (he:Evs x.st.length E) (hl:out.length + 5 * E.length≤800000000) (h0:0≤base) (h1:base + csz t + 1≤(x.st.length:Int)) {K}:
  cC fl base t dx dy false kr w h p rw rh rp kd (run kd x out E).1.lo (run kd x out E).1.hi true (run kd x out E).1.st (run kd x out E).2 K
  = K (0,kd,(run kd x out (E++rwE t dx dy base w h p rw rh rp h.toNat)).1.lo,(run kd x out (E++rwE t dx dy base w h p rw rh rp h.toNat)).1.hi,true,(run kd x out (E++rwE t dx dy base w h p rw rh rp h.toNat)).1.st,(run kd x out (E++rwE t dx dy base w h p rw rh rp h.toNat)).2):=by
 obtain ⟨ok,okl⟩:=run_ok E (out:=out) hx he
 have hol:=run_len_le E (kd:=kd) (x:=x) (out:=out)
 rw [run_append,rput_ok2 hfl hr ok q0 h0 q0 q0]
theorem gput_at {t ax ay kr base w h:Int} {p:List Int} {ty:Bool} (hr:Reg t ax ay kr base w h p [] x.st.length) {E:List (Int×Int)} (he:Evs x.st.length E) (hl:out.length + 5 * E.length≤200000000) {k0 k1:Int×Int×Int×Int×Bool×List Int×List Int→OA}:
  fk fl base t ax ay ty kr w h p 0 0 [] kd (run kd x out E).1.lo (run kd x out E).1.hi true (run kd x out E).1.st (run kd x out E).2 k0 k1
  = k1 (0,kd,(run kd x out (E++allEv t ax ay base w h ty p [] h.toNat)).1.lo,(run kd x out (E++allEv t ax ay base w h ty p [] h.toNat)).1.hi,true,(run kd x out (E++allEv t ax ay base w h ty p [] h.toNat)).1.st,(run kd x out (E++allEv t ax ay base w h ty p [] h.toNat)).2):=by
 obtain ⟨ok,okl⟩:=run_ok E (out:=out) hx he
 have hol:=run_len_le E (kd:=kd) (x:=x) (out:=out)
 have hval:valid w h p = true:=valid_iff.2 ⟨⟨hr.p.w0,hr.p.h0,hr.p.w1,hr.p.h1,hr.p.n⟩,hr.p.len,fun v hv=>(hr.p.bit v hv).2⟩
 have hs:=sk_none w h
 have hr2:Reg t ax ay kr base w h p [] (run kd x out E).1.st.length:=by rw [okl]; exact hr
 rw [run_append]
 generalize run kd x out E = R at *
 unfold fk rD
 rw [Gen.put_bad]
 dsimp only
 rw [cond_f (b:=(2:Int)==7) rfl,gvalid,hr.v,cond_f (b:=!true) rfl,valid_ok hfl,hval,cond_f (b:=!true) rfl,valid_ok hfl,hs.v,cond_f (b:=!true) rfl,clash_none hfl hr.p hr.s (white_none p),cond_f (b:=false) rfl,gsides,decide_eq_true hs.s,cond_f (b:=!true) rfl,Co.emodel_ok q0]
 dsimp only
 rw [gfits q0,decide_eq_true ⟨hr2.b0,hr2.b1⟩,cond_f (b:=!true) rfl,put_reg hfl ok hr2 q0 q0]
end
end Go.Proofs.YtohnjbmiaegofaaGreat.Di
set_option maxHeartbeats 2000000
namespace Go.Proofs.YtohnjbmiaegofaaGreat.Di
open Go Ev Bm Co Gen Dc Rf
def flEv:List Bool→Bool→Nat→List (Int×Int)
 | [],v,n=>numEv 192 false (n:Int)
 | b::l,v,n=>if b = v then flEv l v (n + 1) else numEv 192 false (n:Int)++flEv l b 1
def flagEv (l:List Bool):List (Int×Int):=if l = [] then [] else flEv l false 0
theorem flEv_ok {N:Nat} (hN:240≤N):∀ (l:List Bool) (v:Bool) (n:Nat),n + l.length≤1000000→Evs N (flEv l v n)∧(flEv l v n).length≤50 * l.length + 50
 | [],v,n,h=>by
  obtain ⟨a,b⟩:=numEv_ok (base:=192) (n:=N) q0 q0 false (v:=(n:Int)) q0 (by simp at h; omega)
  exact ⟨a,by simp only [flEv,List.length_nil]; omega⟩
 | b::l,v,n,h=>by
  rw [List.length_cons] at h
  unfold flEv
  split
  ·obtain ⟨a,b⟩:=flEv_ok hN l v (n + 1) q0
   exact ⟨a,by rw [List.length_cons]; omega⟩
  ·obtain ⟨a,c⟩:=numEv_ok (base:=192) (n:=N) q0 q0 false (v:=(n:Int)) q0 q0
   obtain ⟨d,e⟩:=flEv_ok hN l b 1 q0
   exact ⟨Evs.app a d,by rw [List.length_append,List.length_cons]; omega⟩
theorem flagEv_ok {N:Nat} (hN:240≤N) {l:List Bool} (h:l.length≤1000000):Evs N (flagEv l)∧(flagEv l).length≤50 * l.length + 50:=by
 unfold flagEv
 split
 ·exact ⟨Evs.nil N,by simp⟩
 ·exact flEv_ok hN l false 0 (by omega)
section
variable {fl:Nat} (hfl:9223372036854775808≤fl) {kd:Int} {x:Iv} (hx:x.Ok kd) (hn:x.st.length≤8192) {out:List Int}
include hfl hx hn
theorem sput_at {t ax ay kr tm k d lk sz:Int} {ty:Bool} {all:List Bmp} {E:List (Int×Int)} (he:Evs x.st.length E) (hl:out.length + 5 * E.length≤800000000) {base:Int} (hb:0≤base) (hb2:base + 48≤(x.st.length:Int)) {v:Int} (h0: -1048576≤v) (h1:v≤1048576) {K}:
  av fl base v t ax ay ty kr tm k d lk sz kd (run kd x out E).1.lo (run kd x out E).1.hi true all (run kd x out E).1.st (run kd x out E).2 K
  = K (t,ax,ay,ty,kr,tm,k,d,lk,sz,kd,(run kd x out (E++numEv base false v)).1.lo,(run kd x out (E++numEv base false v)).1.hi,true,all,(run kd x out (E++numEv base false v)).1.st,(run kd x out (E++numEv base false v)).2):=by
 unfold av qR
 rw [Put_at hfl hx hn he hl hb hb2 (fun h=>absurd h (by simp)) h0 h1]
variable {t ax ay tm:Int} {n:Nat}
theorem shape_at (D:DE t ax ay kd tm n) (hN:(x.st.length:Int) = tot t tm n) {all:List Bmp} {s:Shp} (hA:AllOk all) (q:ShOk all s) (hal:all.length≤n) {E:List (Int×Int)} (he:Evs x.st.length E) (hl:out.length + 5 * E.length≤100000000) {K}:
  cF fl s.1.1 s.1.2.1 s.1.2.2 s.2 t ax ay false kd tm (wd n:Int) (dir n) (lik t n) (tot t tm n) kd (run kd x out E).1.lo (run kd x out E).1.hi true all (run kd x out E).1.st (run kd x out E).2 K
  = K (t,ax,ay,false,kd,tm,(wd n:Int),dir n,lik t n,tot t tm n,kd,(run kd x out (E++shEv t ax ay tm n all s)).1.lo,(run kd x out (E++shEv t ax ay tm n all s)).1.hi,true,all++ [s.1],(run kd x out (E++shEv t ax ay tm n all s)).1.st,(run kd x out (E++shEv t ax ay tm n all s)).2):=by
 obtain ⟨e1,e2,e3,e4,e5,e6,e7⟩:=lay_rg t tm D.n
 obtain ⟨hb,f0,f1⟩:=q
 have hdn:=D.n
 obtain ⟨ka,kb,kc,kd'⟩:=wd_rg D.n
 have e2':(2:Int) ^ wd n = ((2 ^ wd n:Nat):Int):=by rw [Int.natCast_pow]; rfl
 have es:(s.1.1,s.1.2.1,s.1.2.2) = s.1:=rfl
 unfold cF shEv
 by_cases hneg:s.2 < 0
 ·rw [dec_t hneg,if_pos hneg,eput_at hfl hx hn he q0 q0 q0 (.inl rfl)]
  dsimp only
  have he1:Evs x.st.length (E++ [(240,0)]):=Evs.app he (Evs.one q0 q0 (.inl rfl))
  have hl1:(E++ [((240:Int),(0:Int))]).length = E.length + 1:=by simp
  rw [← List.append_assoc]
  generalize E++ [((240:Int),(0:Int))] = E1 at he1 hl1 ⊢
  rw [gput_at hfl hx hn (D.reg hN hb) he1 q0]
  dsimp only
  rw [both_same,dec_t q0,es]
 ·rw [dec_f hneg,if_neg hneg,eput_at hfl hx hn he q0 q0 q0 (.inr rfl)]
  dsimp only
  have hc:=hA.at (n:=s.2) q0 f1
  have eid:s.2 = ((s.2.toNat:Nat):Int):=by omega
  have hid:Evs x.st.length (idEv 241 (wd n) s.2.toNat (wd n)):=idEv_evs q0 (by rw [e2']; unfold dir at *; omega) q0 _ (Nat.le_refl _)
  have hidl:=idEv_len 241 (wd n) s.2.toNat (wd n)
  have he1:Evs x.st.length (E++ [(240,1)]):=Evs.app he (Evs.one q0 q0 (.inr rfl))
  have hl1:(E++ [((240:Int),(1:Int))]).length = E.length + 1:=by simp
  simp only [← List.append_assoc]
  generalize E++ [((240:Int),(1:Int))] = E1 at he1 hl1 ⊢
  have pid:∀ K,dq fl 241 (wd n:Int) s.2 kd (run kd x out E1).1.lo (run kd x out E1).1.hi true (run kd x out E1).1.st (run kd x out E1).2 K
    = K (0,kd,(run kd x out (E1++idEv 241 (wd n) s.2.toNat (wd n))).1.lo,(run kd x out (E1++idEv 241 (wd n) s.2.toNat (wd n))).1.hi,true,(run kd x out (E1++idEv 241 (wd n) s.2.toNat (wd n))).1.st,(run kd x out (E1++idEv 241 (wd n) s.2.toNat (wd n))).2):=fun K=>by
   conv=>lhs; rw [eid]
   exact PutId_at hfl hx hn he1 q0 q0 q0 q0 (by rw [e2']; unfold dir at *; omega)
  rw [pid]
  dsimp only
  have he2:=Evs.app he1 hid
  have hl2:(E1++idEv 241 (wd n) s.2.toNat (wd n)).length≤E1.length + 10:=by rw [List.length_append,hidl]; omega
  generalize E1++idEv 241 (wd n) s.2.toNat (wd n) = E2 at he2 hl2 ⊢
  rw [sput_at hfl hx hn he2 q0 q0 q0 q0 q0]
  dsimp only
  obtain ⟨c1,c2⟩:=numEv_ok (base:=96) (n:=x.st.length) q0 q0 false (v:=0) q0 q0
  have he3:=Evs.app he2 c1
  have hl3:(E2++numEv 96 false 0).length≤E2.length + 50:=by rw [List.length_append]; omega
  generalize E2++numEv 96 false 0 = E3 at he3 hl3 ⊢
  rw [sput_at hfl hx hn he3 q0 q0 q0 q0 q0]
  dsimp only
  obtain ⟨c3,c4⟩:=numEv_ok (base:=144) (n:=x.st.length) q0 q0 false (v:=0) q0 q0
  have he4:=Evs.app he3 c3
  have hl4:(E3++numEv 144 false 0).length≤E3.length + 50:=by rw [List.length_append]; omega
  generalize E3++numEv 144 false 0 = E4 at he4 hl4 ⊢
  rw [both_same,dec_t ⟨by omega,f1⟩]
  unfold bC
  dsimp only
  have eb:all.getD s.2.toNat (0,0,[]) = bmAt all s.2:=rfl
  rw [eb,rput_at hfl hx hn (D.rr hb hc (dx:=0) (dy:=0) q0 q0) he4 q0 q0 (by unfold tot at *; omega)]
  dsimp only
  rw [both_same,dec_t q0,es]
end
end Go.Proofs.YtohnjbmiaegofaaGreat.Di
set_option maxHeartbeats 2000000
namespace Go.Proofs.YtohnjbmiaegofaaGreat.Di
open Go Ev Bm Co Gen Dc Rf
theorem tail1 {α:Type} (s:α) (l:List α):List.take (hiOf none ((s::l).length:Int) - loOf (some 1)).toNat (List.drop (loOf (some 1)).toNat (s::l)) = l:=by
 show List.take (((s::l).length:Int) - 1).toNat (List.drop 1 (s::l)) = l
 rw [List.drop_succ_cons,List.drop_zero]
 exact List.take_of_length_le (by simp)
theorem tailN {α:Type} (l:List α) {n:Nat} (h:n≤l.length):List.take (hiOf none (l.length:Int) - loOf (some (n:Int))).toNat (List.drop (loOf (some (n:Int))).toNat l) = l.drop n:=by
 show List.take ((l.length:Int) - (n:Int)).toNat (List.drop (n:Int).toNat l) = l.drop n
 rw [Int.toNat_natCast]
 exact List.take_of_length_le (by rw [List.length_drop]; omega)
section
variable {fl:Nat} (hfl:9223372036854775808≤fl) {kd:Int} {x:Iv} (hx:x.Ok kd) (hn:x.st.length≤8192) {out:List Int} {t ax ay tm:Int} {n:Nat} (D:DE t ax ay kd tm n) (hN:(x.st.length:Int) = tot t tm n)
include hfl hx hn D hN
theorem step2 {s:Shp} {l:List Shp} {h0 h w:Int} {all:List Bmp} (hA:AllOk all) (q:ShOk all s) (hal:all.length + 1≤n) (hh:s.1.2.1 = h) (w0:0≤w) (w1:w≤40) {E:List (Int×Int)} (he:Evs x.st.length E) (hl:out.length + 5 * E.length≤90000000) {c b}:
  cO fl (s::l,h0,h,w,t,ax,ay,false,kd,tm,(wd n:Int),dir n,lik t n,tot t tm n,kd,(run kd x out E).1.lo,(run kd x out E).1.hi,true,all,(run kd x out E).1.st,(run kd x out E).2) c b
  = c (l,h0,h,s.1.1,t,ax,ay,false,kd,tm,(wd n:Int),dir n,lik t n,tot t tm n,kd,(run kd x out (E++(numEv 48 false (s.1.1 - w)++shEv t ax ay tm n all s))).1.lo,(run kd x out (E++(numEv 48 false (s.1.1 - w)++shEv t ax ay tm n all s))).1.hi,true,all++ [s.1],(run kd x out (E++(numEv 48 false (s.1.1 - w)++shEv t ax ay tm n all s))).1.st,(run kd x out (E++(numEv 48 false (s.1.1 - w)++shEv t ax ay tm n all s))).2):=by
 obtain ⟨e1,e2,e3,e4,e5,e6,e7⟩:=lay_rg t tm D.n
 obtain ⟨p,p0,p1,p2,p3⟩:=q.1.pix
 have g:(s::l).getD (Int.toNat 0) ((0,0,[]),0) = s:=rfl
 have hlen:((s::l).length:Int) = (l.length:Int) + 1:=by simp
 simp only [cO,iX,g]
 rw [dec_t q0,dec_t q0,cond_t (by simp [hh]),dec_t q0,w6 (x:=s.1.1 - w),sput_at hfl hx hn he q0 q0 q0 q0 q0]
 dsimp only
 rw [dec_t q0,dec_t q0]
 obtain ⟨a1,a2⟩:=numEv_ok (base:=48) (n:=x.st.length) q0 q0 false (v:=s.1.1 - w) q0 q0
 have he1:=Evs.app he a1
 have hl1:(E++numEv 48 false (s.1.1 - w)).length≤E.length + 50:=by rw [List.length_append]; omega
 rw [← List.append_assoc]
 generalize E++numEv 48 false (s.1.1 - w) = E1 at he1 hl1 ⊢
 rw [shape_at hfl hx hn D hN hA q q0 he1 q0]
 dsimp only
 rw [dec_t (by simp only [loOf,hiOf]; omega),tail1]
theorem shapes_loop {b:_→OA}:∀ (l:List Shp) (h0 h w:Int) (all:List Bmp) (E:List (Int×Int)) (m1 m2:Nat),AllOk all→ShsOk l all→all.length + l.length≤n→h0 = h→0≤h→h≤40→0≤w→w≤40→Evs x.st.length E→out.length + 5 * E.length + 11000 * l.length≤80000000→l.length < m1→l.length < m2→
  iter (cO fl) m1 (l,h0,h,w,t,ax,ay,false,kd,tm,(wd n:Int),dir n,lik t n,tot t tm n,kd,(run kd x out E).1.lo,(run kd x out E).1.hi,true,all,(run kd x out E).1.st,(run kd x out E).2)
   (fun (b2_0,b2_1,b2_2,b2_3,b2_4,b2_5,b2_6,b2_7,b2_8,b2_9,b2_10,b2_11,b2_12,b2_13,b2_14,b2_15,b2_16,b2_17,b2_18)=>
      (bx fl (48) (Bool.true) (0) (b2_12) (b2_13) (b2_14) (b2_15) (b2_17) (b2_18)
       (fun (y12_0,y12_1,y12_2,y12_3,y12_4,y12_5,y12_6)=>
        iter (cT fl) m2 (b2_0,b2_1,b2_2,b2_3,b2_4,b2_5,b2_6,b2_7,b2_8,b2_9,b2_10,b2_11,y12_1,y12_2,y12_3,y12_4,b2_16,y12_5,y12_6) b)))
  = b (t,ax,ay,false,kd,tm,(wd n:Int),dir n,lik t n,tot t tm n,kd,(run kd x out (E++dEv t ax ay tm n l h w all true)).1.lo,(run kd x out (E++dEv t ax ay tm n l h w all true)).1.hi,true,all++l.map (·.1),(run kd x out (E++dEv t ax ay tm n l h w all true)).1.st,(run kd x out (E++dEv t ax ay tm n l h w all true)).2):=by
 obtain ⟨e1,e2,e3,e4,e5,e6,e7⟩:=lay_rg t tm D.n
 intro l
 induction l with
 | nil=>
  intro h0 h w all E m1 m2 hA hs hla hh hh0 hh1 w0 w1 he hl hm1 hm2
  obtain ⟨m1,rfl⟩:∃ j,m1 = j + 1:=⟨m1 - 1,by omega⟩
  obtain ⟨m2,rfl⟩:∃ j,m2 = j + 1:=⟨m2 - 1,by omega⟩
  simp only [List.length_nil,Nat.mul_zero,Nat.add_zero] at hl
  simp only [iter,cO,iX]
  rw [dec_f (by simp),Put_at hfl hx hn he q0 q0 q0 (fun _=>rfl) q0 q0]
  dsimp only
  simp only [iter,cT,gR]
  rw [dec_f (by simp),List.map_nil,List.append_nil]
  rfl
 | cons s l ih=>
  intro h0 h w all E m1 m2 hA hs hla hh hh0 hh1 w0 w1 he hl hm1 hm2
  obtain ⟨q,hs⟩:=hs
  rw [List.length_cons] at hla hl hm1 hm2
  obtain ⟨p,p0,p1,p2,p3⟩:=q.1.pix
  have g:(s::l).getD (Int.toNat 0) ((0,0,[]),0) = s:=rfl
  have hlen:((s::l).length:Int) = (l.length:Int) + 1:=by simp
  have hsn:(all++ [s.1]).length = all.length + 1:=by simp
  obtain ⟨g1,g2⟩:=shEv_ok D hN hA q q0
  have ea:all++(s::l).map (·.1) = (all++ [s.1])++l.map (·.1):=by simp
  rw [ea]
  by_cases hc:s.1.2.1 = h
  ·obtain ⟨a1,a2⟩:=numEv_ok (base:=48) (n:=x.st.length) q0 q0 false (v:=s.1.1 - w) q0 q0
   obtain ⟨m1,rfl⟩:∃ j,m1 = j + 1:=⟨m1 - 1,by omega⟩
   have he':=Evs.app he (Evs.app a1 g1)
   have hl':(E++(numEv 48 false (s.1.1 - w)++shEv t ax ay tm n all s)).length≤E.length + 1850:=by simp only [List.length_append]; omega
   have ed:E++dEv t ax ay tm n (s::l) h w all true = (E++(numEv 48 false (s.1.1 - w)++shEv t ax ay tm n all s))++dEv t ax ay tm n l h s.1.1 (all++ [s.1]) true:=by
    conv=>lhs; unfold dEv
    rw [if_pos ⟨rfl,hc⟩]
    simp only [List.append_assoc]
   rw [ed]
   conv=>lhs; unfold iter
   rw [step2 hfl hx hn D hN hA q q0 hc w0 w1 he q0]
   exact ih h0 h s.1.1 (all++ [s.1]) _ m1 m2 (hA.snoc q.1) hs q0 hh hh0 hh1 q0 q0 he' q0 q0 q0
  ·obtain ⟨m1,rfl⟩:∃ j,m1 = j + 1:=⟨m1 - 1,by omega⟩
   obtain ⟨m2,rfl⟩:∃ j,m2 = j + 1:=⟨m2 - 1,by omega⟩
   obtain ⟨f,hf⟩:∃ f,fl = f + 1:=⟨fl - 1,by omega⟩
   obtain ⟨b1,b2⟩:=numEv_ok (base:=48) (n:=x.st.length) q0 q0 false (v:=s.1.1) q0 q0
   obtain ⟨c1,c2⟩:=numEv_ok (base:=0) (n:=x.st.length) q0 q0 false (v:=s.1.2.1 - h) q0 q0
   obtain ⟨d1,d2⟩:=numEv_ok (base:=48) (n:=x.st.length) q0 q0 true (v:=0) q0 q0
   have ed:E++dEv t ax ay tm n (s::l) h w all true = (((E++numEv 48 true 0)++numEv 0 false (s.1.2.1 - h))++(numEv 48 false (s.1.1 - 0)++shEv t ax ay tm n all s))++dEv t ax ay tm n l s.1.2.1 s.1.1 (all++ [s.1]) true:=by
    conv=>lhs; unfold dEv
    rw [if_neg (fun k=>hc k.2),if_pos rfl,Int.sub_zero]
    simp only [List.append_assoc]
   rw [ed]
   conv=>lhs; unfold iter
   simp only [cO,iX,g]
   rw [dec_t q0,dec_t q0,cond_f (by simpa using hc),Put_at hfl hx hn he q0 q0 q0 (fun _=>rfl) q0 q0]
   dsimp only
   have he1:=Evs.app he d1
   have hl1:(E++numEv 48 true 0).length≤E.length + 50:=by rw [List.length_append]; omega
   generalize E++numEv 48 true 0 = E1 at he1 hl1 ⊢
   conv=>lhs; unfold iter
   simp only [cT,gR,g]
   rw [dec_t q0,dec_t q0,hh,w6 (x:=s.1.2.1 - h),sput_at hfl hx hn he1 q0 q0 q0 q0 q0]
   dsimp only
   have he2:=Evs.app he1 c1
   have hl2:(E1++numEv 0 false (s.1.2.1 - h)).length≤E1.length + 50:=by rw [List.length_append]; omega
   generalize E1++numEv 0 false (s.1.2.1 - h) = E2 at he2 hl2 ⊢
   have he3:Evs x.st.length (E2++(numEv 48 false (s.1.1 - 0)++shEv t ax ay tm n all s)):=Evs.app he2 (Evs.app (by rw [Int.sub_zero]; exact b1) g1)
   have hl3:(E2++(numEv 48 false (s.1.1 - 0)++shEv t ax ay tm n all s)).length≤E2.length + 1850:=by rw [Int.sub_zero]; simp only [List.length_append]; omega
   have hstep:=ih s.1.2.1 s.1.2.1 s.1.1 (all++ [s.1]) _ f m2 (hA.snoc q.1) hs q0 rfl q0 q0 q0 q0 he3 q0 q0 q0
   unfold yW
   conv=>lhs; rw [show iter (cO fl) fl = iter (cO fl) (f + 1) from by rw [← hf]]
   conv=>lhs; unfold iter
   rw [step2 hfl hx hn D hN hA q q0 rfl q0 q0 he2 q0]
   exact hstep
end
end Go.Proofs.YtohnjbmiaegofaaGreat.Di
set_option maxHeartbeats 2000000
namespace Go.Proofs.YtohnjbmiaegofaaGreat.Di
open Go Ev Bm Co Gen Dc Rf
def rl (v:Bool):List Bool→Nat
 | []=>0
 | b::l=>if b = v then rl v l + 1 else 0
theorem rl_le (v:Bool):∀ l:List Bool,rl v l≤l.length
 | []=>Nat.le_refl _
 | b::l=>by
  have:=rl_le v l
  unfold rl
  rw [List.length_cons]
  split <;> omega
theorem rl_lt (v:Bool):∀ (l:List Bool) (i:Nat),i < rl v l→l.getD i false = v
 | [],i,h=>by simp [rl] at h
 | b::l,i,h=>by
  unfold rl at h
  split at h
  ·cases i with
   | zero=>assumption
   | succ i=>exact rl_lt v l i q0
  ·omega
theorem rl_end (v:Bool):∀ l:List Bool,rl v l < l.length→l.getD (rl v l) false ≠ v
 | [],h=>by simp [rl] at h
 | b::l,h=>by
  rw [List.length_cons] at h
  unfold rl at h ⊢
  split
  ·rename_i hb
   rw [if_pos hb] at h
   exact rl_end v l q0
  ·assumption
theorem rl_cons (v b:Bool) (l:List Bool):rl v (b::l) = if b = v then rl v l + 1 else 0:=rfl
theorem flEv_cons (b:Bool) (l:List Bool) (v:Bool) (n:Nat):flEv (b::l) v n = if b = v then flEv l v (n + 1) else numEv 192 false (n:Int)++flEv l b 1:=rfl
theorem bool_ne {b v:Bool} (h:b ≠ v):b = !v:=by cases b <;> cases v <;> simp_all
theorem flEv_run:∀ (l:List Bool) (v:Bool) (n:Nat),flEv l v n = numEv 192 false ((n + rl v l:Nat):Int)++(if l.drop (rl v l) = [] then [] else flEv (l.drop (rl v l)) (!v) 0)
 | [],v,n=>by simp [flEv,rl]
 | b::l,v,n=>by
  by_cases hb:b = v
  ·rw [flEv_cons,rl_cons,if_pos hb,if_pos hb,flEv_run l v (n + 1),List.drop_succ_cons,show n + 1 + rl v l = n + (rl v l + 1) by omega]
  ·have hb':=bool_ne hb
   rw [flEv_cons,rl_cons,if_neg hb,if_neg hb,List.drop_zero,if_neg (by simp),Nat.add_zero,flEv_cons,if_pos hb']
   subst hb'
   rfl
section
variable {fl:Nat} (hfl:9223372036854775808≤fl) {kd:Int} {x:Iv} (hx:x.Ok kd) (hn:x.st.length≤8192) {out:List Int} {t ax ay tm:Int} {n:Nat} (D:DE t ax ay kd tm n) (hN:(x.st.length:Int) = tot t tm n)
include hfl hx hn D hN
theorem flag_step {l:List Bool} {v:Bool} {all:List Bmp} (h0:l ≠ []) (hl0:l.length≤1000) {E:List (Int×Int)} (he:Evs x.st.length E) (hl:out.length + 5 * E.length≤800000000) {c b}:
  df fl (l,v,t,ax,ay,false,kd,tm,(wd n:Int),dir n,lik t n,tot t tm n,kd,(run kd x out E).1.lo,(run kd x out E).1.hi,true,all,(run kd x out E).1.st,(run kd x out E).2) c b
  = c (l.drop (rl v l),!v,t,ax,ay,false,kd,tm,(wd n:Int),dir n,lik t n,tot t tm n,kd,(run kd x out (E++numEv 192 false (rl v l:Int))).1.lo,(run kd x out (E++numEv 192 false (rl v l:Int))).1.hi,true,all,(run kd x out (E++numEv 192 false (rl v l:Int))).1.st,(run kd x out (E++numEv 192 false (rl v l:Int))).2):=by
 obtain ⟨e1,e2,e3,e4,e5,e6,e7⟩:=lay_rg t tm D.n
 have hpos:0 < l.length:=List.length_pos_iff.2 h0
 have hle:=rl_le v l
 simp only [df,kH]
 rw [dec_t q0]
 unfold Bt
 refine iter_to (step:=fe fl) (fun i:Nat=>(l,v,(i:Int),t,ax,ay,false,kd,tm,(wd n:Int),dir n,lik t n,tot t tm n,kd,(run kd x out E).1.lo,(run kd x out E).1.hi,true,all,(run kd x out E).1.st,(run kd x out E).2)) (rl v l) (fun i hi c=> ?_) (fun c'=> ?_) q0
 ·simp only [fe,oq]
  rw [dec_t q0,dec_t q0,Int.toNat_natCast,rl_lt v l i hi,cond_t (by simp),wrap64 q0 q0]
  rfl
 ·have hend:fe fl (l,v,(rl v l:Int),t,ax,ay,false,kd,tm,(wd n:Int),dir n,lik t n,tot t tm n,kd,(run kd x out E).1.lo,(run kd x out E).1.hi,true,all,(run kd x out E).1.st,(run kd x out E).2) c' = fun b=>b (l,v,(rl v l:Int),t,ax,ay,false,kd,tm,(wd n:Int),dir n,lik t n,tot t tm n,kd,(run kd x out E).1.lo,(run kd x out E).1.hi,true,all,(run kd x out E).1.st,(run kd x out E).2):=by
   funext b
   simp only [fe,oq]
   by_cases hr:rl v l < l.length
   ·have:=rl_end v l hr
    rw [dec_t q0,dec_t q0,Int.toNat_natCast,cond_f (by simpa using this)]
   ·rw [dec_f q0]
  rw [hend]
  dsimp only
  rw [sput_at hfl hx hn he hl q0 q0 q0 q0]
  dsimp only
  rw [dec_t (by simp only [loOf,hiOf]; omega),tailN l hle]
theorem flag_loop {all:List Bmp} {b:_→OA}:∀ (k:Nat) (l:List Bool) (v:Bool) (E:List (Int×Int)) (m:Nat),l.length≤k→l.length≤1000→(l = []∨l.getD 0 false = v)→Evs x.st.length E→out.length + 5 * E.length + 500 * l.length≤700000000→l.length < m→
  iter (df fl) m (l,v,t,ax,ay,false,kd,tm,(wd n:Int),dir n,lik t n,tot t tm n,kd,(run kd x out E).1.lo,(run kd x out E).1.hi,true,all,(run kd x out E).1.st,(run kd x out E).2) b
  = b (t,ax,ay,false,kd,tm,(wd n:Int),dir n,lik t n,tot t tm n,kd,(run kd x out (E++(if l = [] then [] else flEv l v 0))).1.lo,(run kd x out (E++(if l = [] then [] else flEv l v 0))).1.hi,true,all,(run kd x out (E++(if l = [] then [] else flEv l v 0))).1.st,(run kd x out (E++(if l = [] then [] else flEv l v 0))).2):=by
 obtain ⟨e1,e2,e3,e4,e5,e6,e7⟩:=lay_rg t tm D.n
 intro k
 induction k with
 | zero=>
  intro l v E m hk hl0 hh he hl hm
  have:l = []:=List.eq_nil_of_length_eq_zero q0
  subst this
  obtain ⟨m,rfl⟩:∃ j,m = j + 1:=⟨m - 1,by omega⟩
  simp only [iter,df,kH]
  rw [dec_f (by simp)]
  simp only [if_true,List.append_nil]
 | succ k ih=>
  intro l v E m hk hl0 hh he hl hm
  obtain ⟨m,rfl⟩:∃ j,m = j + 1:=⟨m - 1,by omega⟩
  by_cases hnil:l = []
  ·subst hnil
   simp only [iter,df,kH]
   rw [dec_f (by simp)]
   simp only [if_true,List.append_nil]
  ·have hv:=hh.resolve_left hnil
   have hle:=rl_le v l
   have hpos:0 < l.length:=List.length_pos_iff.2 hnil
   have h1:1≤rl v l:=by
    cases l with
    | nil=>exact absurd rfl hnil
    | cons a l=>
     have:a = v:=hv
     unfold rl
     rw [if_pos this]
     omega
   have hdl:(l.drop (rl v l)).length = l.length - rl v l:=List.length_drop
   obtain ⟨a1,a2⟩:=numEv_ok (base:=192) (n:=x.st.length) q0 q0 false (v:=(rl v l:Int)) q0 q0
   have he1:=Evs.app he a1
   have hl1:(E++numEv 192 false (rl v l:Int)).length≤E.length + 50:=by rw [List.length_append]; omega
   conv=>lhs; unfold iter
   rw [flag_step hfl hx hn D hN hnil hl0 he q0,ih (l.drop (rl v l)) (!v) (E++numEv 192 false (rl v l:Int)) m q0 q0 (by
    by_cases hr:rl v l < l.length
    ·right
     have:=bool_ne (rl_end v l hr)
     rw [List.getD_eq_getElem?_getD] at this ⊢
     rw [List.getElem?_drop,Nat.add_zero]
     exact this
    ·left
     exact List.drop_of_length_le q0) he1 q0 q0]
   have ed:E++(if l = [] then [] else flEv l v 0) = E++numEv 192 false (rl v l:Int)++(if l.drop (rl v l) = [] then [] else flEv (l.drop (rl v l)) (!v) 0):=by
    rw [if_neg hnil,flEv_run l v 0,Nat.zero_add,List.append_assoc]
   rw [ed]
theorem flags_at {l:List Bool} {all:List Bmp} (hl0:l.length≤1000) {E:List (Int×Int)} (he:Evs x.st.length E) (hl:out.length + 5 * E.length≤600000000) {K}:
  gL fl l t ax ay false kd tm (wd n:Int) (dir n) (lik t n) (tot t tm n) kd (run kd x out E).1.lo (run kd x out E).1.hi true all (run kd x out E).1.st (run kd x out E).2 K
  = K (t,ax,ay,false,kd,tm,(wd n:Int),dir n,lik t n,tot t tm n,kd,(run kd x out (E++flagEv l)).1.lo,(run kd x out (E++flagEv l)).1.hi,true,all,(run kd x out (E++flagEv l)).1.st,(run kd x out (E++flagEv l)).2):=by
 obtain ⟨e1,e2,e3,e4,e5,e6,e7⟩:=lay_rg t tm D.n
 unfold gL pH BI flagEv
 by_cases hh:l = []∨l.getD 0 false = false
 ·rw [flag_loop hfl hx hn D hN l.length l false E fl (Nat.le_refl _) hl0 hh he q0 q0]
 ·have hnil:l ≠ []:=fun h=>hh (.inl h)
  have hv:l.getD 0 false ≠ false:=fun h=>hh (.inr h)
  have h0:rl false l = 0:=by
   cases l with
   | nil=>rfl
   | cons a l=>
    have:a ≠ false:=hv
    unfold rl
    rw [if_neg this]
  obtain ⟨f,hf⟩:∃ f,fl = f + 1:=⟨fl - 1,by omega⟩
  obtain ⟨a1,a2⟩:=numEv_ok (base:=192) (n:=x.st.length) q0 q0 false (v:=((0:Nat):Int)) q0 q0
  have he1:=Evs.app he a1
  have hl1:(E++numEv 192 false ((0:Nat):Int)).length≤E.length + 50:=by rw [List.length_append]; omega
  conv=>lhs; rw [show iter (df fl) fl = iter (df fl) (f + 1) from by rw [← hf]]
  conv=>lhs; unfold iter
  rw [flag_step hfl hx hn D hN hnil hl0 he q0,h0,List.drop_zero,flag_loop hfl hx hn D hN l.length l (!false) (E++numEv 192 false ((0:Nat):Int)) f (Nat.le_refl _) hl0 (.inr (bool_ne hv)) he1 q0 q0]
  have ed:E++(if l = [] then [] else flEv l false 0) = E++numEv 192 false ((0:Nat):Int)++(if l = [] then [] else flEv l (!false) 0):=by
   rw [if_neg hnil,if_neg hnil,flEv_run l false 0,h0,List.drop_zero,if_neg hnil,List.append_assoc]
  rw [ed]
end
end Go.Proofs.YtohnjbmiaegofaaGreat.Di
set_option maxHeartbeats 2000000
namespace Go.Proofs.YtohnjbmiaegofaaGreat.Di
open Go Ev Bm Co Gen Dc Rf
theorem arith1 {a e x k:Nat} (h:a + 5 * e + 11000 * k≤79000000) (h2:x≤e + 50):a + 5 * x + 11000 * k≤80000000:=by omega
def bgErr (t ax ay:Int) (ty:Bool) (kd tm kk:Int) (st:List Int) (old:List Bmp):Int:=
 if dv t ax ay ty kd tm = true then (if st = []∨(vM kk st = true∧kk = kd∧(st.length:Int) = nk t tm) then (if old.all shp = true then 0 else 30) else 10) else 2
def st0 (t tm:Int) (c:Nat) (st:List Int):List Int:=if st = [] then List.replicate (tot t tm c).toNat 0 else List.replicate (dir c).toNat 0++st
def x0 (t tm:Int) (c:Nat) (st:List Int):Iv:=⟨st0 t tm c st,0,4294967295⟩
def evsD (t ax ay tm:Int) (old:List Bmp) (l:List Sh) (ex:List Bool):List (Int×Int):=dEv t ax ay tm ex.length l 0 0 old false++flagEv ex
def runD (t ax ay kd tm:Int) (st:List Int) (old:List Bmp) (l:List Sh) (ex:List Bool):Iv×List Int:=run kd (x0 t tm ex.length st) [] (evsD t ax ay tm old l ex)
def encE (t ax ay:Int) (ty:Bool) (kd tm kk:Int) (st:List Int) (old:List Bmp) (l:List Sh) (ex:List Bool):Int:=
 if bgErr t ax ay ty kd tm kk st old = 0 then (if rsErr old l = 0 then (if ex.length = old.length + l.length then 0 else 2) else rsErr old l) else bgErr t ax ay ty kd tm kk st old
def encR (t ax ay:Int) (ty:Bool) (kd tm kk:Int) (st:List Int) (old:List Bmp) (l:List Sh) (ex:List Bool):Int×Int×List Int×List Int:=
 if encE t ax ay ty kd tm kk st old l ex = 0 then (kd,0,(runD t ax ay kd tm st old l ex).2++endB (runD t ax ay kd tm st old l ex).1.lo (runD t ax ay kd tm st old l ex).1.hi,(runD t ax ay kd tm st old l ex).1.st.drop (dir ex.length).toNat)
 else (0,encE t ax ay ty kd tm kk st old l ex,[],[])
theorem bg_parts {t ax ay kd tm kk:Int} {ty:Bool} {st:List Int} {old:List Bmp} (h:bgErr t ax ay ty kd tm kk st old = 0):dv t ax ay ty kd tm = true∧(st = []∨(vM kd st = true∧(st.length:Int) = nk t tm))∧old.all shp = true:=by
 unfold bgErr at h
 by_cases h1:dv t ax ay ty kd tm = true
 rotate_left
 ·rw [if_neg h1] at h
  omega
 rw [if_pos h1] at h
 by_cases h2:st = []∨(vM kk st = true∧kk = kd∧(st.length:Int) = nk t tm)
 rotate_left
 ·rw [if_neg h2] at h
  omega
 rw [if_pos h2] at h
 by_cases h3:old.all shp = true
 rotate_left
 ·rw [if_neg h3] at h
  omega
 refine ⟨h1, ?_,h3⟩
 rcases h2 with h2 | ⟨a,b,c⟩
 ·exact .inl h2
 ·subst b
  exact .inr ⟨a,c⟩
theorem allok_of {old:List Bmp} (h:old.all shp = true) (hz:∀ b ∈ old,∀ v ∈ b.2.2,0≤v):AllOk old:=fun b hb=>⟨List.all_eq_true.1 h b hb,hz b hb⟩
theorem shs_of {old:List Bmp} {L:List Sh} (h:rsErr old L = 0) (hz:∀ s ∈ L,∀ v ∈ s.1.2.2,0≤v):∀ (d k:Nat),k + d = L.length→ShsOk (L.drop k) (old++(L.take k).map (·.1))
 | 0,k,hk=>by
  rw [List.drop_of_length_le q0]
  exact trivial
 | d + 1,k,hk=>by
  obtain ⟨r1,r2,r3⟩:=rs_parts h
  have hlt:k < L.length:=by omega
  have e1:L.drop k = L.getD k dS::L.drop (k + 1):=by
   rw [List.drop_eq_getElem_cons hlt,List.getD_eq_getElem?_getD,List.getElem?_eq_getElem hlt,Option.getD_some]
  have hm:L.getD k dS ∈ L:=getD_mem hlt dS
  obtain ⟨a1,a2,a3⟩:=okAt_get (r2 k hlt)
  have ih:=shs_of h hz d (k + 1) q0
  rw [← take_snoc (d:=dS) hlt,List.map_append, ← List.append_assoc] at ih
  rw [e1]
  refine ⟨⟨⟨List.all_eq_true.1 r1 _ hm,hz _ hm⟩,a1, ?_⟩,ih⟩
  rw [List.length_append,List.length_map,List.length_take]
  omega
theorem shs_all {old:List Bmp} {L:List Sh} (h:rsErr old L = 0) (hz:∀ s ∈ L,∀ v ∈ s.1.2.2,0≤v):ShsOk L old:=by
 have:=shs_of h hz L.length 0 q0
 simpa using this
section
variable {t ax ay kd tm:Int} {c:Nat} {st:List Int}
theorem st0_len (hc:c≤60) (h:st = []∨(vM kd st = true∧(st.length:Int) = nk t tm)):((st0 t tm c st).length:Int) = tot t tm c∧(st0 t tm c st).length≤8192:=by
 obtain ⟨e1,e2,e3,e4,e5,e6,e7⟩:=lay_rg t tm hc
 unfold st0
 split
 ·rw [List.length_replicate]
  omega
 ·rename_i hne
  have hs:=h.resolve_left hne
  have:=hs.2
  unfold nk at this
  rw [List.length_append,List.length_replicate]
  omega
theorem st0_ok (hc:c≤60) (hk:kd = 0∨kd = 1) (h:st = []∨(vM kd st = true∧(st.length:Int) = nk t tm)):vM kd (st0 t tm c st) = true:=by
 obtain ⟨e1,e2,e3,e4,e5,e6,e7⟩:=lay_rg t tm hc
 have hl:=(st0_len (c:=c) hc h).2
 by_cases hne:st = []
 ·unfold st0
  rw [if_pos hne]
  exact vM_zeros hk q0
 ·have hs:=(h.resolve_left hne).1
  unfold vM at hs ⊢
  simp only [Bool.and_eq_true,decide_eq_true_eq,List.all_eq_true] at hs ⊢
  refine ⟨⟨hk,hl⟩,fun s hs'=> ?_⟩
  unfold st0 at hs'
  rw [if_neg hne] at hs'
  rcases List.mem_append.1 hs' with hs' | hs'
  ·have:=(List.mem_replicate.1 hs').2
   subst this
   unfold most
   split <;> omega
  ·exact hs.2 s hs'
end
section
variable {fl:Nat} (hfl:9223372036854775808≤fl)
include hfl
theorem begun_ok {t ax ay kd tm kk:Int} {ty:Bool} {st:List Int} {old:List Bmp} (ho:old.length≤1000000000000000) {K:Int→OA}:cw fl t ax ay ty kd tm kk st old K = K (bgErr t ax ay ty kd tm kk st old):=by
 unfold cw vD bgErr
 rw [kept_ok]
 unfold keptR
 by_cases h1:dv t ax ay ty kd tm = true
 rotate_left
 ·rw [if_neg h1,if_neg h1]
  rfl
 rw [if_pos h1,if_pos h1]
 try dsimp only
 rw [cond_f (b:=(0:Int) != 0) rfl]
 have fin:∀ K:Int→OA,eP fl old (fun y=>bif y then K 30 else K 0) = K (if old.all shp = true then 0 else 30):=fun K=>by
  rw [has_beg hfl ho]
  cases old.all shp <;> rfl
 by_cases hne:st = []
 ·subst hne
  rw [dec_f (by simp),if_pos (.inl rfl)]
  exact fin K
 ·have hp:0 < st.length:=List.length_pos_iff.2 hne
  rw [dec_t q0,cvalid hfl]
  cases hv:vM kk st with
  | false=>
   rw [cond_t (b:=!false) rfl,if_neg (fun q=>by rcases q with q | q; exact hne q; exact absurd q.1 (by simp))]
  | true=>
   rw [cond_f (b:=!true) rfl,cn]
   by_cases h2:kk = kd
   rotate_left
   ·rw [if_neg h2,if_neg (fun q=>by rcases q with q | q; exact hne q; exact h2 q.2.1)]
   rw [if_pos h2,cn]
   by_cases h3:(st.length:Int) = nk t tm
   rotate_left
   ·rw [if_neg h3,if_neg (fun q=>by rcases q with q | q; exact hne q; exact h3 q.2.2)]
   rw [if_pos h3,if_pos (.inr ⟨rfl,h2,h3⟩)]
   exact fin K
theorem dnew {kd n:Int} (hk:kd = 0∨kd = 1) (h0:0≤n) (h1:n≤8192) {K:Int×Int×List Int→OA}:fh fl kd n K = K (kd,0,List.replicate n.toNat 0):=by
 unfold fh
 rcases hk with rfl | rfl
 ·rw [cond_f (b:=(0:Int) != 0) rfl,dec_f q0,dec_f q0,dec_t (by refine ⟨by omega, ?_,by omega,by omega⟩; first | rfl | trivial)]
 ·rw [cond_t (b:=(1:Int) != 0) rfl,cond_f (b:=(1:Int) != 1) rfl,dec_f q0,dec_f q0,dec_t (by refine ⟨by omega, ?_,by omega,by omega⟩; first | rfl | trivial)]
theorem model_ok {t ax ay kd tm kk:Int} {c:Nat} {st:List Int} (D:DE t ax ay kd tm c) (h:st = []∨(vM kd st = true∧(st.length:Int) = nk t tm)) {K:Int×List Int→OA}:
  ct fl t ax ay false kd tm (wd c:Int) (dir c) (lik t c) (tot t tm c) kk st K = K (kd,st0 t tm c st):=by
 obtain ⟨e1,e2,e3,e4,e5,e6,e7⟩:=lay_rg t tm D.n
 unfold ct yY
 rw [dnew hfl D.kk q0 q0]
 try dsimp only
 have hz:((List.replicate (tot t tm c).toNat (0:Int)).length:Int) = tot t tm c:=by rw [List.length_replicate]; omega
 rw [dec_t (by rw [hz]; simp only [loOf_some,hiOf]; omega),hz]
 have e8:(loOf (some (dir c))).toNat = (dir c).toNat:=rfl
 have e9:(hiOf none (tot t tm c) - loOf (some (dir c))).toNat = (tot t tm c).toNat - (dir c).toNat:=by
  show (tot t tm c - dir c).toNat = _
  omega
 rw [e8,e9]
 congr 2
 unfold st0
 by_cases hne:st = []
 ·subst hne
  rw [if_pos rfl,List.take_nil,List.append_nil,List.length_nil,Nat.min_zero,Nat.add_zero,List.take_append_drop]
 ·have hs:=(h.resolve_left hne).2
  unfold nk at hs
  rw [if_neg hne,List.take_of_length_le (l:=st) q0,Nat.min_eq_right q0,List.drop_of_length_le (by rw [List.length_replicate]; omega),List.append_nil,List.take_replicate,Nat.min_eq_left q0]
theorem cloneZ {p:List Int} (hp:p.length≤1000000) {K:List Int→OA}:eO fl p K = K p:=by
 unfold eO
 rw [dec_t (p:=(0 + p.length) * 8≤140737488355328∧0 + p.length≤140737488355328) q0,List.nil_append]
 by_cases h:(p.length:Int) = 0
 ·have:p = []:=List.eq_nil_of_length_eq_zero q0
  subst this
  rw [dec_t h,both_same]
 ·rw [dec_f h]
theorem after_ok {t ax ay kd tm kk:Int} {c:Nat} {ty:Bool} {a b d:Int} {st:List Int} (hd:dir c≤(st.length:Int)) (hl:st.length≤8192) {K:Int×List Int→OA}:
  cu fl t ax ay ty kd tm a (dir c) b d kk st K = K (kk,st.drop (dir c).toNat):=by
 have h0:0≤dir c:=Int.natCast_nonneg _
 unfold cu rd
 rw [dec_t (by simp only [loOf_some,hiOf]; omega)]
 have e8:(loOf (some (dir c))).toNat = (dir c).toNat:=rfl
 have e9:List.take (hiOf none (st.length:Int) - loOf (some (dir c))).toNat (List.drop (loOf (some (dir c))).toNat st) = st.drop (dir c).toNat:=by
  rw [e8]
  refine List.take_of_length_le ?_
  rw [List.length_drop]
  show _≤((st.length:Int) - dir c).toNat
  omega
 rw [e9,cloneZ hfl (by rw [List.length_drop]; omega)]
section
variable {kd:Int} {x:Iv} (hx:x.Ok kd) (hn:x.st.length≤8192) {out:List Int} {t ax ay tm:Int} {n:Nat} (D:DE t ax ay kd tm n) (hN:(x.st.length:Int) = tot t tm n)
include hx hn D hN
theorem shapes_at {l:List Shp} {all:List Bmp} (hA:AllOk all) (hs:ShsOk l all) (hla:all.length + l.length≤n) {E:List (Int×Int)} (he:Evs x.st.length E) (hl:out.length + 5 * E.length + 11000 * l.length≤79000000) {K}:
  fD fl l t ax ay false kd tm (wd n:Int) (dir n) (lik t n) (tot t tm n) kd (run kd x out E).1.lo (run kd x out E).1.hi true all (run kd x out E).1.st (run kd x out E).2 K
  = K (t,ax,ay,false,kd,tm,(wd n:Int),dir n,lik t n,tot t tm n,kd,(run kd x out (E++dEv t ax ay tm n l 0 0 all false)).1.lo,(run kd x out (E++dEv t ax ay tm n l 0 0 all false)).1.hi,true,all++l.map (·.1),(run kd x out (E++dEv t ax ay tm n l 0 0 all false)).1.st,(run kd x out (E++dEv t ax ay tm n l 0 0 all false)).2):=by
 obtain ⟨e1,e2,e3,e4,e5,e6,e7⟩:=lay_rg t tm D.n
 have hdn:=D.n
 obtain ⟨f,hf⟩:∃ f,fl = f + 1:=⟨fl - 1,by omega⟩
 unfold fD qe BH
 conv=>lhs; rw [show iter (cT fl) fl = iter (cT fl) (f + 1) from by rw [← hf]]
 conv=>lhs; unfold iter
 cases l with
 | nil=>
  simp only [cT,gR]
  rw [dec_f (by simp),List.map_nil,List.append_nil]
  have:dEv t ax ay tm n [] 0 0 all false = []:=rfl
  rw [this,List.append_nil]
 | cons s l=>
  have hs2:=hs
  obtain ⟨q,hs'⟩:=hs
  rw [List.length_cons] at hla hl
  obtain ⟨p,p0,p1,p2,p3⟩:=q.1.pix
  have g:(s::l).getD (Int.toNat 0) ((0,0,[]),0) = s:=rfl
  have hlen:((s::l).length:Int) = (l.length:Int) + 1:=by simp
  simp only [cT,gR,g]
  rw [dec_t q0,dec_t q0,w6 (x:=s.1.2.1 - 0),sput_at hfl hx hn he q0 q0 q0 q0 q0]
  dsimp only
  obtain ⟨c1,c2⟩:=numEv_ok (base:=0) (n:=x.st.length) q0 q0 false (v:=s.1.2.1 - 0) q0 q0
  have he2:=Evs.app he c1
  have hl2:(E++numEv 0 false (s.1.2.1 - 0)).length≤E.length + 50:=by rw [List.length_append]; omega
  have ed:E++dEv t ax ay tm n (s::l) 0 0 all false = (E++numEv 0 false (s.1.2.1 - 0))++dEv t ax ay tm n (s::l) s.1.2.1 0 all true:=by
   conv=>lhs; unfold dEv
   conv=>rhs; unfold dEv
   rw [if_neg (fun k=>by cases k.1),if_neg (by simp),if_pos ⟨rfl,rfl⟩]
   simp only [List.append_assoc,List.nil_append,Int.sub_zero]
  rw [ed]
  have hl3:(s::l).length = l.length + 1:=List.length_cons
  unfold yW
  have a1:all.length + (s::l).length≤n:=by omega
  have a2:out.length + 5 * (E++numEv 0 false (s.1.2.1 - 0)).length + 11000 * (s::l).length≤80000000:=by
   rw [hl3]
   exact arith1 hl hl2
  have a3:(s::l).length < fl:=by omega
  have a4:(s::l).length < f:=by omega
  have z1:0≤s.1.2.1:=by omega
  refine Eq.trans ?_ (shapes_loop hfl hx hn D hN (b:=K) (s::l) s.1.2.1 s.1.2.1 0 all (E++numEv 0 false (s.1.2.1 - 0)) fl f hA hs2 a1 rfl z1 p3 (Int.le_refl 0) (by decide) he2 a2 a3 a4)
  rfl
end
end
end Go.Proofs.YtohnjbmiaegofaaGreat.Di
set_option maxHeartbeats 2000000
namespace Go.Proofs.YtohnjbmiaegofaaGreat.Di
open Go Ev Bm Co Gen Dc Rf
section
variable {t ax ay kd tm:Int} {st:List Int} {old:List Bmp} {l:List Sh} {ex:List Bool}
theorem de_of {ty:Bool} {n:Nat} (h:dv t ax ay ty kd tm = true) (hn:n≤60):DE t ax ay kd tm n:=⟨by obtain ⟨a,b,c⟩:=dv_iff.1 h; subst b; exact h,hn⟩
theorem evsD_ok (D:DE t ax ay kd tm ex.length) {N:Nat} (hN:(N:Int) = tot t tm ex.length) (hA:AllOk old) (hs:ShsOk l old) (hx:ex.length = old.length + l.length):Evs N (evsD t ax ay tm old l ex)∧(evsD t ax ay tm old l ex).length≤150000:=by
 obtain ⟨e1,e2,e3,e4,e5,e6,e7⟩:=lay_rg t tm D.n
 have hdn:=D.n
 obtain ⟨a,b⟩:=dEv_ok D hN l 0 0 old false hA hs q0 q0 q0 q0 q0
 obtain ⟨c,d⟩:=flagEv_ok (N:=N) q0 (l:=ex) q0
 exact ⟨Evs.app a c,by unfold evsD; rw [List.length_append]; omega⟩
theorem x0_ok (D:DE t ax ay kd tm ex.length) (h:st = []∨(vM kd st = true∧(st.length:Int) = nk t tm)):(x0 t tm ex.length st).Ok kd∧((x0 t tm ex.length st).st.length:Int) = tot t tm ex.length∧(x0 t tm ex.length st).st.length≤8192:=
 ⟨ok_new (st0_ok D.n D.kk h),(st0_len D.n h).1,(st0_len D.n h).2⟩
end
theorem senc {fl:Nat} (hfl:9223372036854775808≤fl) {t ax ay kd tm kk:Int} {ty:Bool} {st:List Int} {old:List Bmp} {l:List Sh} {ex:List Bool} (ho:old.length≤1000000000000000) (hl:l.length≤1000000000000000) (hzo:∀ b ∈ old,∀ v ∈ b.2.2,0≤v) (hzl:∀ s ∈ l,∀ v ∈ s.1.2.2,0≤v) {K:Int×Int×List Int×List Int→OA}:
  aW fl t ax ay ty kd tm kk st old l ex K = K (encR t ax ay ty kd tm kk st old l ex):=by
 unfold aW oS encR encE
 rw [begun_ok hfl ho]
 try dsimp only
 by_cases he:bgErr t ax ay ty kd tm kk st old = 0
 rotate_left
 ·rw [cond_f (by simpa using he),cond_f (by simpa using he),cond_t (by simpa using he),if_neg he,if_neg he]
 rw [cond_t (by simp [he]),if_pos he,rs_ok hfl ho hl]
 try dsimp only
 by_cases hr:rsErr old l = 0
 rotate_left
 ·rw [cond_f (by simpa using hr),cond_t (by simpa using hr),if_neg hr,if_neg hr]
 obtain ⟨r1,r2,r3⟩:=rs_parts hr
 rw [cond_t (by simp [hr]),if_pos hr,w6 (x:=(old.length:Int) + (l.length:Int)),cn]
 by_cases hx:ex.length = old.length + l.length
 rotate_left
 ·rw [if_neg q0,if_neg hx,if_neg q0]
 rw [if_pos q0,if_pos hx,if_pos rfl,cond_f (by simp [hr])]
 obtain ⟨b1,b2,b3⟩:=bg_parts he
 have D:=de_of (n:=ex.length) b1 q0
 obtain ⟨v1,v2,v3⟩:=dv_iff.1 b1
 subst v2
 have hA:=allok_of b3 hzo
 have hs:=shs_all hr hzl
 obtain ⟨ok,hN,hn⟩:=x0_ok (ex:=ex) D b2
 have hv:=st0_ok (t:=t) (tm:=tm) (c:=ex.length) D.n D.kk b2
 obtain ⟨ev1,ev2⟩:=evsD_ok D hN hA hs hx
 rw [lay_ok D.n b1]
 try dsimp only
 rw [model_ok hfl D b2]
 try dsimp only
 rw [new_enc hfl hv]
 try dsimp only
 rw [cloneM q0]
 try dsimp only
 have hsh:=fun K=>shapes_at hfl ok hn (out:=[]) D hN hA hs q0 (E:=[]) (Evs.nil _) (by simp only [List.length_nil]; omega) (K:=K)
 have hsh:∀ K,fD fl l t ax ay false kd tm (wd ex.length:Int) (dir ex.length) (lik t ex.length) (tot t tm ex.length) kd 0 4294967295 true old (st0 t tm ex.length st) [] K = _:=hsh
 rw [hsh]
 try dsimp only
 rw [List.nil_append]
 have hde:=dEv_ok D hN l 0 0 old false hA hs q0 q0 q0 q0 q0
 rw [flags_at hfl ok hn D hN q0 hde.1 (by have:=hde.2; simp only [List.length_nil]; omega)]
 try dsimp only
 have hrun:=run_ok (evsD t ax ay tm old l ex) (out:=[]) ok ev1
 have hol:=run_len_le (evsD t ax ay tm old l ex) (kd:=kd) (x:=x0 t tm ex.length st) (out:=[])
 have eR:run kd (x0 t tm ex.length st) [] (dEv t ax ay tm ex.length l 0 0 old false++flagEv ex) = runD t ax ay kd tm st old l ex:=rfl
 have eR2:run kd (x0 t tm ex.length st) [] (evsD t ax ay tm old l ex) = runD t ax ay kd tm st old l ex:=rfl
 rw [eR]
 rw [eR2] at hrun hol
 generalize runD t ax ay kd tm st old l ex = R at *
 rw [end_ok hfl hrun.1.r (by rw [List.length_nil] at hol; omega)]
 try dsimp only
 rw [emodel_ok (by rw [hrun.2]; omega)]
 try dsimp only
 obtain ⟨e1,e2,e3,e4,e5,e6,e7⟩:=lay_rg t tm D.n
 rw [after_ok hfl (by rw [hrun.2,hN]; omega) (by rw [hrun.2]; exact hn)]
end Go.Proofs.YtohnjbmiaegofaaGreat.Di
namespace Go.Proofs.YtohnjbmiaegofaaGreat.Gen
open Go Ev Bm Co
def iv0 (t:Int):Iv:=⟨List.replicate (size t).toNat 0,0,4294967295⟩
open Go Ev Bm Co
def decR (t ax ay kd w h:Int) (ty:Bool) (code:List Int):Int×Int×Int×List Int:=
 if vr t ax ay kd = true then (if fit w h = true then
  (if (dAll t ax ay 0 w h kd ty [] code (d0 w h (iv0 t) 0) h.toNat).ok = true then (w,h,0,(dAll t ax ay 0 w h kd ty [] code (d0 w h (iv0 t) 0) h.toNat).p) else (0,0,6,[]))
  else (0,0,30,[])) else (0,0,2,[])
open Go Ev Bm Co
open Go Ev Bm Co
def encS (t ax ay kd w h:Int) (ty:Bool) (p:List Int):Iv×List Int:=run kd (iv0 t) [] (allEv t ax ay 0 w h ty p [] h.toNat)
def encC (t ax ay kd w h:Int) (ty:Bool) (p:List Int):List Int:=(encS t ax ay kd w h ty p).2++endB (encS t ax ay kd w h ty p).1.lo (encS t ax ay kd w h ty p).1.hi
def encR (t ax ay kd w h:Int) (ty:Bool) (p:List Int):Int×List Int:=
 if vr t ax ay kd = true then (if valid w h p = true then (0,encC t ax ay kd w h ty p) else (30,[])) else (2,[])
open Go Ev Bm Co
def upTo (p:List Int) (i:Nat):List Int:=p.take i++List.replicate (p.length - i) 0
theorem upTo_len (p:List Int) {i:Nat} (h:i≤p.length):(upTo p i).length = p.length:=by
 unfold upTo
 rw [List.length_append,List.length_take,List.length_replicate]
 omega
theorem upTo_getD (p:List Int) {i:Nat} (h:i≤p.length) (j:Nat):(upTo p i).getD j 0 = if j < i then p.getD j 0 else 0:=by
 unfold upTo
 simp only [List.getD_eq_getElem?_getD,List.getElem?_append,List.length_take,List.getElem?_take,List.getElem?_replicate]
 rw [Nat.min_eq_left h]
 split
 ·rfl
 ·split <;> rfl
theorem upTo_set {p:List Int} {i:Nat} (h:i < p.length):(upTo p i).set i (p.getD i 0) = upTo p (i + 1):=by
 apply list_ext_getD 0
 ·rw [List.length_set,upTo_len _ q0,upTo_len _ q0]
 ·intro j hj
  rw [List.length_set,upTo_len _ q0] at hj
  rw [upTo_getD _ q0,List.getD_eq_getElem?_getD,List.getElem?_set]
  by_cases hji:i = j
  ·subst hji
   rw [if_pos rfl,if_pos (by rw [upTo_len _ q0]; exact h),if_pos q0]
   rfl
  ·rw [if_neg hji, ← List.getD_eq_getElem?_getD,upTo_getD _ q0]
   by_cases hlt:j < i
   ·rw [if_pos hlt,if_pos q0]
   ·rw [if_neg hlt,if_neg q0]
theorem upTo_zero (p:List Int):upTo p 0 = List.replicate p.length 0:=by simp [upTo]
theorem upTo_all (p:List Int):upTo p p.length = p:=by simp [upTo]
theorem px_upTo {w h:Int} {p:List Int} {i:Nat} (hi:i≤p.length) {x y:Int} (hx:ins w h x y→(y * w + x).toNat < i):px w h (upTo p i) x y = px w h p x y:=by
 unfold px
 by_cases hin:ins w h x y
 ·rw [if_pos hin,if_pos hin,upTo_getD _ hi,if_pos (hx hin)]
 ·rw [if_neg hin,if_neg hin]
theorem ctxv_congr {w h:Int} {p p':List Int} {x y:Int} {l:List (Int×Int)} (hd:∀ d ∈ l,px w h p (x + d.1) (y + d.2) = px w h p' (x + d.1) (y + d.2)):ctxv w h p x y l = ctxv w h p' x y l:=by
 unfold ctxv
 generalize (0:Int) = a
 induction l generalizing a with
 | nil=>rfl
 | cons d l ih=>
  rw [List.foldl_cons,List.foldl_cons,hd d (by simp)]
  exact ih (fun e he=>hd e (by simp [he])) _
theorem tpl_before (t:Int):∀ d ∈ tpl t,d.2 < 0∨(d.2 = 0∧d.1 < 0):=by
 unfold tpl
 repeat' split
 all_goals decide
theorem around_before {t ax ay kd:Int} (hv:vr t ax ay kd = true):∀ d ∈ around t ax ay,d.2 < 0∨(d.2 = 0∧d.1 < 0):=by
 obtain ⟨_,_,_,v1,v2,v3,v4,v5⟩:=vr_iff.1 hv
 intro d hd
 unfold around at hd
 rcases List.mem_append.1 hd with hd | hd
 ·exact tpl_before t d hd
 ·simp at hd; subst hd
  dsimp only
  omega
theorem idx_above {w h:Int} {y:Nat} {x' y':Int} (hin:ins w h x' y') (hy:y' < (y:Int)):(y' * w + x').toNat < y * w.toNat:=by
 obtain ⟨i1,i2,i3,i4⟩:=hin
 have h1:(y' + 1) * w≤(y:Int) * w:=Int.mul_le_mul_of_nonneg_right q0 q0
 rw [Int.add_mul,Int.one_mul] at h1
 have h2:((y * w.toNat:Nat):Int) = (y:Int) * w:=by rw [Int.natCast_mul]; congr 1; omega
 have h3:0≤y' * w:=Int.mul_nonneg i2 q0
 omega
theorem ctx_upTo {t ax ay kd w h:Int} {p:List Int} (hv:vr t ax ay kd = true) {x y:Nat} (hi:y * w.toNat + x≤p.length) (hw:0≤w):ctxv w h (upTo p (y * w.toNat + x)) (x:Int) (y:Int) (around t ax ay) = ctxv w h p (x:Int) (y:Int) (around t ax ay):=by
 refine ctxv_congr fun d hd=>px_upTo hi fun hin=> ?_
 rcases around_before hv d hd with hb | ⟨hb,hb2⟩
 ·have:=idx_above (y:=y) hin q0
  omega
 ·obtain ⟨i1,i2,i3,i4⟩:=hin
  rw [hb,Int.add_zero]
  have h2:((y * w.toNat:Nat):Int) = (y:Int) * w:=by rw [Int.natCast_mul]; congr 1; omega
  omega
section
variable {t ax ay kd base w h:Int} {p:List Int} {ty:Bool} {kx:Int} {x0:Iv}
def codeOf (kx:Int) (x0:Iv) (E:List (Int×Int)) (z:Nat):List Int:=((run kx x0 [] E).2++endB (run kx x0 [] E).1.lo (run kx x0 [] E).1.hi)++List.replicate z 0
theorem get_ev (hx:x0.Ok kx) {E L:List (Int×Int)} {c b:Int} (hE:∃ r,E = (L++ [(c,b)])++r) (he:Evs x0.st.length E) (z:Nat):
  Co.get kx (codeOf kx x0 E z) (run kx x0 [] L).1 (run kx x0 [] L).2.length c = some (b,(run kx x0 [] (L++ [(c,b)])).1,(run kx x0 [] (L++ [(c,b)])).2.length):=by
 obtain ⟨r,hr⟩:=hE
 have hE:E = L++(c,b)::r:=by rw [hr,List.append_assoc]; rfl
 unfold codeOf
 rw [hE] at he ⊢
 exact get_put hx he
end
theorem pix_valid {w h:Int} {p:List Int} (hp:Pix w h p):valid w h p = true:=valid_iff.2 ⟨⟨hp.w0,hp.h0,hp.w1,hp.h1,hp.n⟩,hp.len,fun v hv=>(hp.bit v hv).2⟩
end Go.Proofs.YtohnjbmiaegofaaGreat.Gen
namespace Go.Proofs.YtohnjbmiaegofaaGreat.Di
open Go Ev Bm Co Gen Dc Rf
def gpxD (t ax ay base w h:Int) (y x:Nat) (p:List Int):Dec (List Int):=.get (base + ctxv w h p (x:Int) (y:Int) (around t ax ay)) fun b=>.ret (p.set (y * w.toNat + x) b)
def growD (t ax ay base w h:Int) (y:Nat) (p:List Int):Dec (List Int):=loopD (gpxD t ax ay base w h y) w.toNat 0 p
def gregD (t ax ay base w h:Int):Dec (List Int):=loopD (growD t ax ay base w h) h.toNat 0 (List.replicate (w * h).toNat 0)
theorem loopD_snoc {A:Type} (bd:Nat→A→Dec A):∀ (n i:Nat) (a:A),loopD bd (n + 1) i a = (loopD bd n i a).bind (bd (i + n))
 | 0,i,a=>by
  show (bd i a).bind (loopD bd 0 (i + 1)) = bd (i + 0) a
  rw [Nat.add_zero]
  have:∀ d:Dec A,d.bind (loopD bd 0 (i + 1)) = d:=fun d=>by
   induction d with
   | ret a=>rfl
   | bad e=>rfl
   | get c k ih=>
    simp only [Dec.bind]
    congr 1
    funext b
    exact ih b
  exact this _
 | n + 1,i,a=>by
  have ih:=fun a=>loopD_snoc bd n (i + 1) a
  show (bd i a).bind (loopD bd (n + 1) (i + 1)) = ((bd i a).bind (loopD bd n (i + 1))).bind (bd (i + (n + 1)))
  rw [bind_assoc]
  congr 1
  funext a
  rw [ih a,show i + 1 + n = i + (n + 1) by omega]
def toR (d:D):(Int ⊕ List Int)×Dc.S:=if d.ok = true then (.inr d.p,⟨true,d.x,d.k⟩) else (.inl 6,⟨false,d.x,d.k⟩)
theorem toR_ok {d:D} (h:d.ok = true):toR d = (.inr d.p,⟨true,d.x,d.k⟩):=if_pos h
theorem toR_no {d:D} (h:d.ok = false):toR d = (.inl 6,⟨false,d.x,d.k⟩):=if_neg (by rw [h]; simp)
section
variable {t ax ay base w h kx:Int} {code:List Int}
theorem gpx_run {y x:Nat} {s:D}:(gpxD t ax ay base w h y x s.p).run kx code ⟨true,s.x,s.k⟩ = toR (dPix t ax ay base w h kx [] code y x s):=by
 unfold gpxD dPix
 rw [if_neg (by rw [skb_nil]; simp)]
 simp only [Dec.run]
 cases Co.get kx code s.x s.k (base + ctxv w h s.p (x:Int) (y:Int) (around t ax ay)) with
 | none=>rfl
 | some v=>
  obtain ⟨b,x',k'⟩:=v
  rfl
theorem grow_run {y:Nat} {s:D} (ho:s.ok = true):∀ m,(loopD (gpxD t ax ay base w h y) m 0 s.p).run kx code ⟨true,s.x,s.k⟩ = toR (dPixs t ax ay base w h kx [] code y s m)
 | 0=>by
  unfold dPixs toR
  rw [if_pos ho]
  rfl
 | m + 1=>by
  rw [loopD_snoc,run_bind,grow_run ho m,Nat.zero_add]
  have e:dPixs t ax ay base w h kx [] code y s (m + 1) = if (dPixs t ax ay base w h kx [] code y s m).ok = true then dPix t ax ay base w h kx [] code y m (dPixs t ax ay base w h kx [] code y s m) else dPixs t ax ay base w h kx [] code y s m:=rfl
  rw [e]
  generalize dPixs t ax ay base w h kx [] code y s m = q
  by_cases hb:q.ok = true
  ·rw [if_pos hb,toR_ok hb]
   exact gpx_run
  ·rw [if_neg hb,toR_no (by simpa using hb)]
theorem greg_run {s:D} (ho:s.ok = true):∀ m,(loopD (growD t ax ay base w h) m 0 s.p).run kx code ⟨true,s.x,s.k⟩ = toR (dAll t ax ay base w h kx false [] code s m)
 | 0=>by
  unfold dAll toR
  rw [if_pos ho]
  rfl
 | m + 1=>by
  rw [loopD_snoc,run_bind,greg_run ho m,Nat.zero_add]
  have e:dAll t ax ay base w h kx false [] code s (m + 1) = if (dAll t ax ay base w h kx false [] code s m).ok = true then dRow t ax ay base w h kx false [] code m (dAll t ax ay base w h kx false [] code s m) else dAll t ax ay base w h kx false [] code s m:=rfl
  rw [e]
  generalize dAll t ax ay base w h kx false [] code s m = q
  by_cases hb:q.ok = true
  ·rw [if_pos hb,toR_ok hb]
   have e2:dRow t ax ay base w h kx false [] code m q = dPixs t ax ay base w h kx [] code m q w.toNat:=by
    unfold dRow
    rw [if_neg (by simp)]
   rw [e2]
   exact grow_run hb _
  ·rw [if_neg hb,toR_no (by simpa using hb)]
end
section
variable {t ax ay kd base w h:Int} {n:Nat}
theorem gpxD_all (hv:vr t ax ay kd = true) (h0:0≤base) (h1:base + size t≤(n:Int)) {p:List Int} (hp:Pix w h p) (y x:Nat):(gpxD t ax ay base w h y x p).All n (Pix w h):=by
 have c:=ctx_rg (w:=w) (h:=h) hp.bit t ax ay (x:Int) (y:Int)
 exact ⟨⟨by omega,by omega⟩,fun b hb=>hp.set hb⟩
theorem gregD_all (hv:vr t ax ay kd = true) (h0:0≤base) (h1:base + size t≤(n:Int)) (hf:fit w h = true):(gregD t ax ay base w h).All n (Pix w h):=
 loopD_all (I:=fun _ p=>Pix w h p) h.toNat 0 _ (fun j a _ _ ha=>loopD_all (I:=fun _ p=>Pix w h p) w.toNat 0 a (fun i b _ _ hb=>gpxD_all hv h0 h1 hb j i) ha) (pix_d0 hf)
theorem pixEvs_flat (p:List Int) (y:Nat):∀ m,pixEvs t ax ay base w h p [] y m = flatE (fun x=>[(base + ctxv w h p (x:Int) (y:Int) (around t ax ay),p.getD (y * w.toNat + x) 0)]) m 0
 | 0=>rfl
 | m + 1=>by
  rw [pixEvs,pixEvs_flat p y m,flatE_snoc,Nat.zero_add]
  congr 1
theorem allEv_flat (p:List Int):∀ m,allEv t ax ay base w h false p [] m = flatE (fun y=>pixEvs t ax ay base w h p [] y w.toNat) m 0
 | 0=>rfl
 | m + 1=>by
  rw [allEv,allEv_flat p m,flatE_snoc,Nat.zero_add]
  rfl
theorem greg_fol (hv:vr t ax ay kd = true) {p:List Int} (hp:Pix w h p):Fol (gregD t ax ay base w h) (allEv t ax ay base w h false p [] h.toNat) p:=by
 have hw0:=hp.w0; have hh0:=hp.h0
 have hlen:=hp.len
 have hl:p.length = h.toNat * w.toNat:=by
  have e:((h.toNat * w.toNat:Nat):Int) = w * h:=by
   rw [Int.natCast_mul,Int.toNat_of_nonneg hh0,Int.toNat_of_nonneg hw0,Int.mul_comm]
  omega
 have row:∀ y,y < h.toNat→Fol (growD t ax ay base w h y (Gen.upTo p (y * w.toNat))) (pixEvs t ax ay base w h p [] y w.toNat) (Gen.upTo p ((y + 1) * w.toNat)):=by
  intro y hy
  have hle:(y + 1) * w.toNat≤h.toNat * w.toNat:=Nat.mul_le_mul_right _ hy
  rw [Nat.succ_mul] at hle ⊢
  have:=fol_loop (bd:=gpxD t ax ay base w h y) (fun x=>Gen.upTo p (y * w.toNat + x)) (fun x=>[(base + ctxv w h p (x:Int) (y:Int) (around t ax ay),p.getD (y * w.toNat + x) 0)]) w.toNat 0 (fun x _ hx=>by
   refine ⟨p.getD (y * w.toNat + x) 0,[], ?_,⟨rfl, ?_⟩⟩
   ·rw [ctx_upTo hv q0 hw0]
   ·exact Gen.upTo_set q0)
  rw [← pixEvs_flat,Nat.zero_add] at this
  exact this
 have:=fol_loop (bd:=growD t ax ay base w h) (fun y=>Gen.upTo p (y * w.toNat)) (fun y=>pixEvs t ax ay base w h p [] y w.toNat) h.toNat 0 (fun y _ hy=>row y q0)
 rw [← allEv_flat,Nat.zero_add] at this
 simp only [Nat.zero_mul,Gen.upTo_zero] at this
 rw [← hl,Gen.upTo_all] at this
 have e2:(w * h).toNat = p.length:=by omega
 unfold gregD
 rw [e2]
 exact this
end
section
variable {fl:Nat} (hfl:9223372036854775808≤fl) {kx:Int} {code:List Int} {N:Nat} (hcb:Bytes code) (hcl:code.length≤1000000) (hN:N≤8192)
include hfl hcb hcl hN
theorem gget3 {t ax ay kd base w h:Int} (hv:vr t ax ay kd = true) (hf:fit w h = true) (h0:0≤base) (h1:base + size t≤(N:Int)) {s:Dc.S} (hs:Dc.St kx code N s) {K}:
  fJ fl base t ax ay false kd w h 0 0 [] kx s.x.lo s.x.hi ((4 + s.k:Nat):Int) (win (strm code) s.k) (byd code s.k) false true s.x.st code K
  = Aft (fun p s'=>K (w,h,p,0,kx,s'.x.lo,s'.x.hi,((4 + s'.k:Nat):Int),win (strm code) s'.k,byd code s'.k,!s'.ok,true,s'.x.st,code)) (fun e s'=>K (0,0,[],e,kx,s'.x.lo,s'.x.hi,((4 + s'.k:Nat):Int),win (strm code) s'.k,byd code s'.k,!s'.ok,true,s'.x.st,code)) ((gregD t ax ay base w h).run kx code s):=by
 obtain ⟨ok,x,k⟩:=s
 obtain ⟨hok,hx,hsl,hk⟩:=hs
 have hok:ok = true:=hok
 subst hok
 have hx:x.Ok kx:=hx
 have hsl:x.st.length = N:=hsl
 have he:gErr t ax ay kd base w h 0 0 [] x.st.length = 0:=by
  unfold gErr
  rw [hv,if_pos rfl,hf,if_pos rfl,show valid 0 0 [] = true from rfl,if_pos rfl,if_pos (.inl ⟨rfl,rfl⟩),if_pos ⟨h0,by rw [hsl]; exact h1⟩]
 rw [gget hfl hx q0 hcb hcl hk (fun v hv=>by cases hv) he (ty:=false) rfl]
 have hr:=greg_run (t:=t) (ax:=ax) (ay:=ay) (base:=base) (w:=w) (h:=h) (kx:=kx) (code:=code) (s:=d0 w h x k) rfl h.toNat
 have hr:(gregD t ax ay base w h).run kx code ⟨true,x,k⟩ = toR (dAll t ax ay base w h kx false [] code (d0 w h x k) h.toNat):=hr
 rw [hr]
 unfold gRes
 rw [if_pos rfl]
 generalize dAll t ax ay base w h kx false [] code (d0 w h x k) h.toNat = q
 by_cases hb:q.ok = true
 ·rw [if_pos hb,toR_ok hb]
  simp only [Aft,hb]
 ·rw [if_neg hb,toR_no (by simpa using hb)]
  simp only [Aft]
end
end Go.Proofs.YtohnjbmiaegofaaGreat.Di
namespace Go.Proofs.YtohnjbmiaegofaaGreat.Rf
open Go Ev Bm Co Gen Dc
section
variable {fl:Nat} (hfl:9223372036854775808≤fl) {t dx dy kd w h:Int} {p:List Int} {rw rh:Int} {rp:List Int} {ty:Bool}
include hfl
theorem flat_ok2 (hr:RR t dx dy kd w h p rw rh rp) {x y:Int} (hx: -1000≤x∧x≤1000) (hy: -1000≤y∧y≤1000) {K:Int×Bool×Int×Int×Int×Bool×Int×Int×Int×Int×Int×List Int×List Int→OA}:
  dL fl x y t dx dy ty kd w h rw rh rp p K = K ((flatv dx dy rw rh rp x y).1,(flatv dx dy rw rh rp x y).2,t,dx,dy,ty,kd,w,h,rw,rh,rp,p):=by
 have h1:=hr.x
 have h2:=hr.y
 unfold dL ri
 rw [grid_ok hr.r,w6 (x:=x - dx),w6 (x:=y - dy)]
 try dsimp only
 unfold Dl flatv
 generalize hc:px rw rh rp (x - dx) (y - dy) = c
 have step:∀ i:Nat,i < 9→∀ (ret:Int×Bool×Int×Int×Int×Bool×Int×Int×Int×Int×Int×List Int×List Int→OA) (b:Int×Int×Int×Int×Bool×Int×Int×Int×Int×Int×List Int×List Int→OA) k,em fl (x,y,c,(i:Int),t,dx,dy,ty,kd,w,h,rw,rh,rp,p) k (ret,b)
   = if px rw rh rp (x - dx + ((i % 3:Nat):Int) - 1) (y - dy + ((i / 3:Nat):Int) - 1) = c then k (x,y,c,((i + 1:Nat):Int),t,dx,dy,ty,kd,w,h,rw,rh,rp,p) else ret (0,false,t,dx,dy,ty,kd,w,h,rw,rh,rp,p):=by
  intro i hi ret b k
  have e1:((i:Int)).tmod 3 = ((i % 3:Nat):Int):=by rw [tmod_e q0]; omega
  have e2:((i:Int)).tdiv 3 = ((i / 3:Nat):Int):=by rw [tdiv_e q0]; omega
  simp only [em,nX]
  rw [dec_t q0,e1,e2,w6 (x:=x - dx),w6 (x:=y - dy),w6 (x:=((i / 3:Nat):Int)),w6 (x:=x - dx + _),w6 (x:=x - dx + _ - 1),w6 (x:=y - dy + _),w6 (x:=y - dy + _ - 1),grid_ok hr.r]
  try dsimp only
  rw [cn]
  split
  ·rw [wrap64 q0 q0]
   rfl
  ·rfl
 rcases nat_or_first (fun i=>px rw rh rp (x - dx + ((i % 3:Nat):Int) - 1) (y - dy + ((i / 3:Nat):Int) - 1) = c) 9 with ha | ⟨n,hn,hb,hi⟩
 ·rw [if_pos (by rw [List.all_eq_true]; exact fun i hi=>decide_eq_true (ha i (List.mem_range.1 hi)))]
  refine iter_seq (step:=em fl) (fun i:Nat=>(x,y,c,(i:Int),t,dx,dy,ty,kd,w,h,rw,rh,rp,p)) 9 rfl (fun i hi k=> ?_) (fun k=> ?_) q0
  ·rw [step i hi,if_pos (ha i hi)]
  ·simp only [em,nX]
   rw [dec_f q0]
 ·rw [if_neg (by
   rw [List.all_eq_true]
   exact fun h=>hb (of_decide_eq_true (h n (List.mem_range.2 hn))))]
  refine iter_seq (step:=em fl) (fun i:Nat=>(x,y,c,(i:Int),t,dx,dy,ty,kd,w,h,rw,rh,rp,p)) n rfl (fun i hin k=> ?_) (fun k=> ?_) q0
  ·rw [step i q0,if_pos (hi i hin)]
  ·rw [step n hn,if_neg hb]
theorem ctx_ok2 (hr:RR t dx dy kd w h p rw rh rp) {x y:Int} (hx: -1000≤x∧x≤1000) (hy: -1000≤y∧y≤1000) {K:Int×Int×Int×Int×Bool×Int×Int×Int×Int×Int×List Int×List Int→OA}:
  ey fl x y t dx dy ty kd w h rw rh rp p K = K (rctx t dx dy w h p rw rh rp x y,t,dx,dy,ty,kd,w,h,rw,rh,rp,p):=by
 have h1:=hr.x
 have h2:=hr.y
 have hf:∀ K:List (Int×Int)→OA,ap fl t K = K (fr t):=fun K=>by
  unfold ap fr
  rw [cb]
  split <;> rfl
 have hl:=(fr_len t).1
 unfold ey xt
 rw [hf]
 try dsimp only
 unfold Bo
 refine iter_seq (step:=gh fl) (fun i:Nat=>(x,y,fold w h p x y ((fr t).take i) 0,((fr t).length:Int),(i:Int),t,dx,dy,ty,kd,w,h,rw,rh,rp,p,fr t)) (fr t).length rfl (fun i hi c=> ?_) (fun c=> ?_) q0
 ·have e:=fr_near t _ (getD_mem hi (0,0))
  have a:=fold_rg hr.p.bit (w:=w) (h:=h) (x:=x) (y:=y) ((fr t).take i) (a:=0) (M:=1) q0 q0
  have hle:(2:Int) ^ ((fr t).take i).length≤2 ^ 4:=by
   have:=Nat.pow_le_pow_right (n:=2) q0 (show ((fr t).take i).length≤4 by rw [List.length_take]; omega)
   exact_mod_cast this
  have b:=px_01 (w:=w) (h:=h) hr.p.bit (x + ((fr t).getD i (0,0)).1) (y + ((fr t).getD i (0,0)).2)
  simp (disch:=omega) only [gh,oG,dec_t,Int.toNat_natCast,wrap64,grid_ok hr.p]
  rw [fold_take hi]
  rfl
 ·simp (disch:=omega) only [gh,oG,dec_f,List.take_length]
  unfold aI Ck
  have a:=fold_rg hr.p.bit (w:=w) (h:=h) (x:=x) (y:=y) (fr t) (a:=0) (M:=1) q0 q0
  have hle:(2:Int) ^ (fr t).length≤2 ^ 4:=by
   have:=Nat.pow_le_pow_right (n:=2) q0 hl
   exact_mod_cast this
  unfold rctx
  generalize fold w h p x y (fr t) 0 = g at *
  refine iter_seq (step:=iL fl) (fun i:Nat=>(x,y,fold rw rh rp (x - dx) (y - dy) (bs.take i) g,(bs.length:Int),(i:Int),t,dx,dy,ty,kd,w,h,rw,rh,rp,p,bs)) bs.length rfl (fun i hi c=> ?_) (fun c=> ?_) (by show 5 < fl; omega)
  ·have e:=bs_near _ (getD_mem hi (0,0))
   have a':=fold_rg hr.r.bit (w:=rw) (h:=rh) (x:=x - dx) (y:=y - dy) (bs.take i) (a:=g) (M:=16) q0 q0
   have hle2:(2:Int) ^ (bs.take i).length≤2 ^ 5:=by
    have:=Nat.pow_le_pow_right (n:=2) q0 (show (bs.take i).length≤5 by rw [List.length_take]; exact Nat.min_le_right _ _)
    exact_mod_cast this
   have b:=px_01 (w:=rw) (h:=rh) hr.r.bit (x - dx + (bs.getD i (0,0)).1) (y - dy + (bs.getD i (0,0)).2)
   have hb5:bs.length = 5:=rfl
   simp (disch:=omega) only [iL,oH,dec_t,Int.toNat_natCast,wrap64,grid_ok hr.r]
   rw [fold_take hi]
   rfl
  ·simp (disch:=omega) only [iL,oH,dec_f,List.take_length]
end
def gRes (kx:Int) (code:List Int) (w h:Int) (K:Int×Int×List Int×Int×Int×Int×Int×Int×Int×Int×Bool×Bool×List Int×List Int→OA):(Int ⊕ List Int)×S→OA
 | (.inr p,s')=>K (w,h,p,0,kx,s'.x.lo,s'.x.hi,((4 + s'.k:Nat):Int),win (strm code) s'.k,byd code s'.k,!s'.ok,true,s'.x.st,code)
 | (.inl e,s')=>K (0,0,[],e,kx,s'.x.lo,s'.x.hi,((4 + s'.k:Nat):Int),win (strm code) s'.k,byd code s'.k,!s'.ok,true,s'.x.st,code)
theorem bnew0 {fl:Nat} (hfl:9223372036854775808≤fl) {w h:Int} (hf:fit w h = true) {K:Int×Int×Int×List Int→OA}:aX fl w h 0 K = K (w,h,0,List.replicate (w * h).toNat 0):=by
 obtain ⟨f1,f2,f3,f4,f5⟩:=fit_iff.1 hf
 have hm:=Int.mul_nonneg f1 f2
 have replicate_set:∀ n i:Nat,(List.replicate n (0:Int)).set i 0 = List.replicate n 0:=fun n i=>by
  apply List.ext_getElem (by simp)
  intro j h1 h2
  simp [List.getElem_set]
 unfold aX jz dl kK
 rw [dec_f q0,dec_f q0,cond_f (b:=(0:Int) != 0) rfl,fits_ok,hf,cond_f (b:=!true) rfl,w6 (x:=w * h),dec_t (by refine ⟨by omega, ?_,by omega,by omega⟩; first | rfl | trivial)]
 dsimp only
 unfold je
 refine iter_seq (step:=cx fl) (fun i:Nat=>(0,0,((List.replicate (w * h).toNat (0:Int)).length:Int),(i:Int),0,0,w,h,[],List.replicate (w * h).toNat 0)) (w * h).toNat rfl (fun i hi c=> ?_) (fun c=> ?_) q0
 ·simp only [cx,fM,List.length_replicate]
  rw [dec_t q0,dec_t q0,wrap64 q0 q0,wrap8 q0 q0,replicate_set]
  rfl
 ·simp only [cx,fM,List.length_replicate]
  rw [dec_f q0]
section
variable {fl:Nat} (hfl:9223372036854775808≤fl) {t dx dy base w h kd:Int} {rw rh:Int} {rp:List Int} {kx:Int} {code:List Int} {n:Nat} (hc:Cd code n)
include hfl hc
theorem row_get (hr:∀ p,Pix w h p→RR t dx dy kd w h p rw rh rp) (h0:0≤base) (h1:base + csz t + 1≤(n:Int)) {y:Nat} (hy:(y:Int) < h) {p:List Int} (hp:Pix w h p) {s:S} (hs:St kx code n s) {K} {R:Int→S→OA}
  (hK:∀ q (s:S),K (6,t,dx,dy,false,kd,w,h,rw,rh,rp,kx,s.x.lo,s.x.hi,((4 + s.k:Nat):Int),win (strm code) s.k,byd code s.k,true,true,q,s.x.st,code) = R 6 ⟨false,s.x,s.k⟩):
  dP fl base (y:Int) t dx dy false kd w h rw rh rp kx s.x.lo s.x.hi ((4 + s.k:Nat):Int) (win (strm code) s.k) (byd code s.k) false true p s.x.st code K
  = Aft (fun p' s'=>K (0,t,dx,dy,false,kd,w,h,rw,rh,rp,kx,s'.x.lo,s'.x.hi,((4 + s'.k:Nat):Int),win (strm code) s'.k,byd code s'.k,false,true,p',s'.x.st,code)) R ((rowD t dx dy base w h rw rh rp y p).run kx code s):=by
 have hw0:=hp.w0; have hw1:=hp.w1; have hh1:=hp.h1
 have hn:=hc.n; have hl:=hc.l
 have hcs:=csz_eq t
 have hrp:=(hr p hp).r
 unfold dP tf rowD
 rw [cond_false]
 unfold yb
 refine iter_dec (step:=ir fl) (N:=n) (fun _ p=>Pix w h p) (pxD t dx dy base w h rw rh rp y) (fun i p s=>(base,(y:Int),0,w,(i:Int),t,dx,dy,false,kd,w,h,rw,rh,rp,kx,s.x.lo,s.x.hi,((4 + s.k:Nat):Int),win (strm code) s.k,byd code s.k,false,true,p,s.x.st,code)) R (fun p s=>K (0,t,dx,dy,false,kd,w,h,rw,rh,rp,kx,s.x.lo,s.x.hi,((4 + s.k:Nat):Int),win (strm code) s.k,byd code s.k,false,true,p,s.x.st,code)) w.toNat (fun i a hi ha=>pxD_all hrp.bit h0 h1 ha y i) (fun i a s hi ha hs c=> ?_) (fun a s ha hs c=> ?_) (v:=(base,(y:Int),0,w,0,t,dx,dy,false,kd,w,h,rw,rh,rp,kx,s.x.lo,s.x.hi,((4 + s.k:Nat):Int),win (strm code) s.k,byd code s.k,false,true,p,s.x.st,code)) rfl hp hs (m:=fl) q0
 ·obtain ⟨p1,p2,p3⟩:=place_nat (w:=w) (h:=h) (x:=i) (y:=y) q0 hy
  have hyw:0≤(y:Int) * w:=Int.mul_nonneg q0 hw0
  have hal:=ha.len
  have han:=ha.n
  have hcx:=rctx_rg (t:=t) (dx:=dx) (dy:=dy) (w:=w) (h:=h) (rw:=rw) (rh:=rh) ha.bit hrp.bit (i:Int) (y:Int)
  have hk:=hs.k
  simp only [ir,mY]
  rw [dec_t q0,flat_ok2 hfl (hr a ha) q0 q0]
  dsimp only
  rw [cond_f (b:=(0:Int)==1) rfl,ctx_ok2 hfl (hr a ha) q0 q0]
  dsimp only
  rw [w6 (x:=base + _),Co.get_okB hfl hs.x q0 (by rw [hs.sl]; omega) hc.b hl q0]
  unfold pxD
  simp only [Dec.run]
  cases e:Co.get kx code s.x s.k (base + rctx t dx dy w h a rw rh rp (i:Int) (y:Int)) with
  | none=>
   dsimp only
   rw [cond_t (b:=(6:Int) != 0) rfl]
   exact hK a s
  | some v=>
   obtain ⟨b',x',k'⟩:=v
   obtain ⟨g1,g2,g3,g4⟩:=Dc.get_some hs.x q0 (by rw [hs.sl]; omega) e
   dsimp only
   rw [cond_f (b:=(0:Int) != 0) rfl,w6 (x:=(y:Int) * w),w6 (x:=(y:Int) * w + (i:Int)), ← p1,dec_t q0,Int.toNat_natCast,wrap8 (x:=b') q0 q0,w6 (x:=(i:Int) + 1)]
   rfl
 ·simp only [ir,mY]
  rw [dec_f q0]
theorem get_ok3 (hr:∀ p,Pix w h p→RR t dx dy kd w h p rw rh rp) (hf:fit w h = true) (h0:0≤base) (h1:base + csz t + 1≤(n:Int)) {s:S} (hs:St kx code n s) {K}:
  ei fl base t dx dy false kd w h rw rh rp kx s.x.lo s.x.hi ((4 + s.k:Nat):Int) (win (strm code) s.k) (byd code s.k) false true s.x.st code K = gRes kx code w h K ((regD t dx dy base w h rw rh rp).run kx code s):=by
 obtain ⟨f1,f2,f3,f4,f5⟩:=fit_iff.1 hf
 have hm:=Int.mul_nonneg f1 f2
 have hz:=pix_zero hf
 have hrz:=hr _ hz
 have hrp:=hrz.r
 have hn:=hc.n; have hl:=hc.l
 have hcs:=csz_eq t
 have hsl:=hs.sl
 unfold ei uW
 rw [Co.get_bad]
 dsimp only
 have hcc:∀ K:Int→OA,az fl t K = K (csz t):=fun K=>by
  unfold az oO ap csz
  rw [cb]
  rcases hrz.t with rfl | rfl
  ·rfl
  ·rfl
 have hv:∀ {w h:Int} {p:List Int},Pix w h p→valid w h p = true:=fun {w h p} hp=>valid_iff.2 ⟨⟨hp.w0,hp.h0,hp.w1,hp.h1,hp.n⟩,hp.len,fun v hv=>(hp.bit v hv).2⟩
 rw [cond_f (b:=(2:Int)==7) rfl,rvalid_ok2 hfl hrz]
 try dsimp only
 rw [cond_f (b:=!true) rfl,bnew0 hfl hf]
 dsimp only
 rw [cond_f (b:=(0:Int) != 0) rfl,valid_ok hfl,hv hrp]
 try dsimp only
 rw [cond_f (b:=!true) rfl]
 unfold ak eN aS
 dsimp only
 rw [cond_f (b:=!true) rfl,clone_ok q0]
 dsimp only
 unfold be mj dX
 rw [dec_t q0,hcc]
 try dsimp only
 rw [w6 (x:=(s.x.st.length:Int) - csz t),wrap64 q0 q0,decide_eq_true q0,cond_f (b:=!true) rfl,w6 (x:=w * h),dec_t (by refine ⟨by omega, ?_,by omega,by omega⟩; first | rfl | trivial)]
 unfold zO regD
 have main:=iter_dec (step:=ig fl) (b:=(fun r=>K (r.2.2.2.2.2.2.2.2.2.2.2.1,r.2.2.2.2.2.2.2.2.2.2.2.2.1,r.2.2.2.2.2.2.2.2.2.2.2.2.2,r.1,r.2.1,r.2.2.1,r.2.2.2.1,r.2.2.2.2.1,r.2.2.2.2.2.1,r.2.2.2.2.2.2.1,r.2.2.2.2.2.2.2.1,r.2.2.2.2.2.2.2.2.1,r.2.2.2.2.2.2.2.2.2.1,r.2.2.2.2.2.2.2.2.2.2.1),
   fun b=>K (b.1,b.2.1,b.2.2.2.2.2.2.2.2.2.2.2.2.2.2.2.2.2.2.2.2.2.2.2.2.2,0,b.2.2.1,b.2.2.2.1,b.2.2.2.2.1,b.2.2.2.2.2.1,b.2.2.2.2.2.2.1,b.2.2.2.2.2.2.2.1,b.2.2.2.2.2.2.2.2.1,b.2.2.2.2.2.2.2.2.2.1,b.2.2.2.2.2.2.2.2.2.2.1,b.2.2.2.2.2.2.2.2.2.2.2.1))) (N:=n) (fun _ p=>Pix w h p) (rowD t dx dy base w h rw rh rp) (fun i p s=>(base,w,h,h,(i:Int),kx,s.x.lo,s.x.hi,((4 + s.k:Nat):Int),win (strm code) s.k,byd code s.k,false,true,s.x.st,code,0,0,t,dx,dy,false,kd,w,h,rw,rh,rp,[],p)) (fun e s'=>K (0,0,[],e,kx,s'.x.lo,s'.x.hi,((4 + s'.k:Nat):Int),win (strm code) s'.k,byd code s'.k,!s'.ok,true,s'.x.st,code)) (fun p s=>K (w,h,p,0,kx,s.x.lo,s.x.hi,((4 + s.k:Nat):Int),win (strm code) s.k,byd code s.k,false,true,s.x.st,code)) h.toNat (fun i a hi ha=>rowD_all hrp.bit h0 h1 ha i) (fun i a s hi ha hs c=> ?_) (fun a s ha hs c=> ?_) (v:=(base,w,h,h,0,kx,s.x.lo,s.x.hi,((4 + s.k:Nat):Int),win (strm code) s.k,byd code s.k,false,true,s.x.st,code,0,0,t,dx,dy,false,kd,w,h,rw,rh,rp,[],List.replicate (w * h).toNat 0)) rfl hz hs (m:=fl) q0
 ·refine Eq.trans main ?_
  have he:=run_ends (loopD (rowD t dx dy base w h rw rh rp) h.toNat 0 (List.replicate (w * h).toNat 0)) (regD_all hrp.bit h0 h1 hf) hs
  cases hrn:(loopD (rowD t dx dy base w h rw rh rp) h.toNat 0 (List.replicate (w * h).toNat 0)).run kx code s with
  | mk r s'=>
   rw [hrn] at he
   cases r with
   | inl e=>rfl
   | inr a=>
    have:=he.2.ok
    simp only [gRes,Aft,this,Bool.not_true]
 ·simp only [ig,ng]
  rw [dec_t q0,row_get hfl hc hr h0 h1 q0 ha hs (R:=fun e s'=>K (0,0,[],e,kx,s'.x.lo,s'.x.hi,((4 + s'.k:Nat):Int),win (strm code) s'.k,byd code s'.k,!s'.ok,true,s'.x.st,code)) (fun q s=>rfl)]
  cases hrn:(rowD t dx dy base w h rw rh rp i a).run kx code s with
  | mk r s'=>
   cases r with
   | inl e=>rfl
   | inr a'=>
    simp only [Aft]
    rw [cond_f (b:=(0:Int) != 0) rfl,w6 (x:=(i:Int) + 1)]
    rfl
 ·simp only [ig,ng]
  rw [dec_f q0]
end
end Go.Proofs.YtohnjbmiaegofaaGreat.Rf
namespace Go.Proofs.YtohnjbmiaegofaaGreat.Dc
open Go Ev Bm Co
section
variable {fl:Nat} (hfl:9223372036854775808≤fl) {kx:Int} {code:List Int} {n:Nat} (hc:Cd code n)
include hfl hc
theorem id_loop {β:Type} {base:Int} {Q:Nat} (hQ:Q≤10) (h0:0≤base) (h1:base + 2 ^ Q - 1≤(n:Int)) {k:Int→Dec β} {F:(Int ⊕ β)×S→OA} {ret b}
  (hb:∀ (p:Int) (s:S),2 ^ Q≤p→p < 2 ^ Q + 2 ^ Q→St kx code n s→b ((Q:Int),p,kx,s.x.lo,s.x.hi,((4 + s.k:Nat):Int),win (strm code) s.k,byd code s.k,false,true,s.x.st,code) = F ((k p).run kx code s))
  (hret:∀ s:S,ret (0,6,kx,s.x.lo,s.x.hi,((4 + s.k:Nat):Int),win (strm code) s.k,byd code s.k,true,true,s.x.st,code) = F (.inl 6,⟨false,s.x,s.k⟩)):
  ∀ (l i:Nat) (p:Int) (s:S) (m:Nat),i + l = Q→2 ^ i≤p→p < 2 ^ i + 2 ^ i→St kx code n s→l < m→iter (gA fl) m (base,(Q:Int),p,(Q:Int),(i:Int),kx,s.x.lo,s.x.hi,((4 + s.k:Nat):Int),win (strm code) s.k,byd code s.k,false,true,s.x.st,code) (ret,b) = F ((idD base k l p).run kx code s)
 | 0,i,p,s,m,hil,hp0,hp1,hs,hm=>by
  obtain ⟨m,rfl⟩:∃ j,m = j + 1:=⟨m - 1,by omega⟩
  have:i = Q:=by omega
  subst this
  simp only [iter,gA,mn]
  rw [dec_f q0,hb p s hp0 hp1 hs]
  rfl
 | l + 1,i,p,s,m,hil,hp0,hp1,hs,hm=>by
  obtain ⟨m,rfl⟩:∃ j,m = j + 1:=⟨m - 1,by omega⟩
  have hn:=hc.n
  have hk:=hs.k
  have hl:=hc.l
  have e:(2:Int) ^ (i + 1) = 2 ^ i + 2 ^ i:=by rw [Int.pow_succ]; omega
  have hle:(2:Int) ^ (i + 1)≤2 ^ Q:=by
   have:=Nat.pow_le_pow_right (n:=2) q0 (show i + 1≤Q by omega)
   exact_mod_cast this
  have hpp:(0:Int) < 2 ^ i:=Int.pow_pos q0
  simp only [iter,gA,mn]
  rw [dec_t q0,w6 (x:=base + p),w6 (x:=base + p - 1),Co.get_okB hfl hs.x q0 (by rw [hs.sl]; omega) hc.b hl q0]
  simp only [idD,Dec.run]
  cases eg:Co.get kx code s.x s.k (base + p - 1) with
  | none=>
   dsimp only
   rw [cond_t (b:=(6:Int) != 0) rfl]
   exact hret s
  | some v=>
   obtain ⟨b',x',k'⟩:=v
   obtain ⟨g1,g2,g3,g4⟩:=get_some hs.x q0 (by rw [hs.sl]; omega) eg
   have hs':St kx code n ⟨true,x',k'⟩:=⟨rfl,g2,by rw [g3]; exact hs.sl,g4⟩
   dsimp only
   rw [cond_f (b:=(0:Int) != 0) rfl,w6 (x:=2 * p),w6 (x:=2 * p + b'),w6 (x:=(i:Int) + 1)]
   exact id_loop hQ h0 h1 hb hret l (i + 1) (2 * p + b') ⟨true,x',k'⟩ m q0 q0 q0 hs' (by omega)
theorem GetId_ok {base:Int} {Q:Nat} (hQ:Q≤10) (h0:0≤base) (h1:base + 2 ^ Q - 1≤(n:Int)) {s:S} (hs:St kx code n s) {K:Int×Int×Int×Int×Int×Int×Int×Int×Bool×Bool×List Int×List Int→OA}:
  iq fl base (Q:Int) kx s.x.lo s.x.hi ((4 + s.k:Nat):Int) (win (strm code) s.k) (byd code s.k) false true s.x.st code K
  = Aft (fun id s'=>K (id,0,kx,s'.x.lo,s'.x.hi,((4 + s'.k:Nat):Int),win (strm code) s'.k,byd code s'.k,!s'.ok,true,s'.x.st,code)) (fun e s'=>K (0,e,kx,s'.x.lo,s'.x.hi,((4 + s'.k:Nat):Int),win (strm code) s'.k,byd code s'.k,!s'.ok,true,s'.x.st,code)) ((idD base (fun p=>.ret (p - ((2 ^ Q:Nat):Int))) Q 1).run kx code s):=by
 have hn:=hc.n
 have hsl:=hs.sl
 have hp:0 < 2 ^ Q:=Nat.pow_pos q0
 have hp2:2 ^ Q≤2 ^ 10:=Nat.pow_le_pow_right q0 hQ
 have e2:(2:Int) ^ Q = ((2 ^ Q:Nat):Int):=by rw [Int.natCast_pow]; rfl
 have es:ishl .i64 1 (Q:Int) = ((2 ^ Q:Nat):Int):=by rw [ishl_one q0 q0,Int.toNat_natCast,e2]
 have h1':=h1
 rw [e2] at h1'
 unfold iq xv
 rw [Co.get_bad]
 dsimp only
 rw [cond_f (b:=(2:Int)==7) rfl,dec_f q0,dec_f q0,dec_f q0]
 unfold ak eN aS
 dsimp only
 rw [cond_f (b:=!true) rfl,clone_ok q0]
 dsimp only
 unfold au
 rw [es,w6 (x:=((2 ^ Q:Nat):Int) - 1),dec_f q0,w6 (x:=(s.x.st.length:Int) - _),dec_f q0]
 dsimp only
 rw [cond_f (b:=(0:Int) != 0) rfl]
 unfold AI
 refine id_loop hfl hc hQ h0 h1 (k:=fun p=>.ret (p - ((2 ^ Q:Nat):Int))) (F:=Aft (fun id s'=>K (id,0,kx,s'.x.lo,s'.x.hi,((4 + s'.k:Nat):Int),win (strm code) s'.k,byd code s'.k,!s'.ok,true,s'.x.st,code)) (fun e s'=>K (0,e,kx,s'.x.lo,s'.x.hi,((4 + s'.k:Nat):Int),win (strm code) s'.k,byd code s'.k,!s'.ok,true,s'.x.st,code))) (fun p s hp0 hp1 hs=> ?_) (fun s=> ?_) Q 0 1 s fl q0 (by decide) (by decide) hs q0
 ·dsimp only
  rw [e2] at hp0 hp1
  rw [dec_f q0,es,wrap64 q0 q0]
  simp only [Dec.run,Aft,hs.ok,Bool.not_true]
 ·rfl
end
end Go.Proofs.YtohnjbmiaegofaaGreat.Dc
set_option maxHeartbeats 2000000
namespace Go.Proofs.YtohnjbmiaegofaaGreat.Di
open Go Ev Bm Co Gen Dc Rf
def withinD (base add low high:Int):Dec Int:=(numD base).bind fun v=>if v.1 = false∧low≤v.2 + add∧v.2 + add≤high then .ret (v.2 + add) else .bad 3
section
variable (t ax ay tm:Int) (c:Nat)
def shD (all:List Bmp) (w h:Int):Dec Shp:=
 .get 240 fun b=>if b = 0 then (gregD t ax ay (dir c) w h).bind fun p=>.ret ((w,h,p), -1)
  else (idD 241 (fun p=>.ret (p - ((2 ^ wd c:Nat):Int))) (wd c) 1).bind fun id=>
   if id < (all.length:Int) then (withinD 96 0 (-200) 200).bind fun dx=>(withinD 144 0 (-200) 200).bind fun dy=>
    (regD tm dx dy (lik t c) w h (bmAt all id).1 (bmAt all id).2.1 (bmAt all id).2.2).bind fun p=>.ret ((w,h,p),id)
   else .bad 3
def clsD (n h:Int):Nat→Bool→Int→List Bmp→List Shp→Dec (List Bmp×List Shp)
 | 0,_,_,_,_=>.bad 3
 | f + 1,first,w,all,l=>(numD 48).bind fun v=>
   if v.1 = true then (if first = true then .bad 3 else .ret (all,l))
   else if (l.length:Int) < n∧1≤w + v.2∧w + v.2≤40 then (shD t ax ay tm c all (w + v.2) h).bind fun s=>clsD n h f false (w + v.2) (all++ [s.1]) (l++ [s])
   else .bad 3
def dicD (n:Int):Nat→Int→List Bmp→List Shp→Dec (List Bmp×List Shp)
 | 0,_,all,l=>.ret (all,l)
 | f + 1,h,all,l=>if (l.length:Int) < n then (withinD 0 h (h + 1) 40).bind fun h'=>(clsD t ax ay tm c n h' 62 true 0 all l).bind fun r=>dicD n f h' r.1 r.2 else .ret (all,l)
end
def flgD (total:Int):Nat→Bool→List Bool→Dec (List Bool)
 | 0,_,out=>.ret out
 | f + 1,v,out=>if (out.length:Int) < total then (withinD 192 0 (if v = false∧out = [] then 0 else 1) (total - (out.length:Int))).bind fun k=>flgD total f (!v) (out++List.replicate k.toNat v) else .ret out
theorem withinD_all {base add low high:Int} {N:Nat} (h0:0≤base) (h1:base + 48≤(N:Int)):(withinD base add low high).All N (fun v=>low≤v∧v≤high):=
 Dec.All.bind (P:=NumOk) (fun v hv=>by
  try dsimp only
  split
  ·rename_i h
   exact ⟨h.2.1,h.2.2⟩
  ·rfl) _ (numD_all h0 h1)
section
variable {fl:Nat} (hfl:9223372036854775808≤fl) {kx:Int} {code:List Int} {N:Nat} (hc:Cd code N)
variable {t ax ay kd tm n:Int} {c:Nat} {all:List Bmp} {l:List Shp}
theorem fine_ok {e err:Int} {s:S} {K}:aG fl e t ax ay false kd tm (wd c:Int) (dir c) (lik t c) (tot t tm c) n err kx s.x.lo s.x.hi ((4 + s.k:Nat):Int) (win (strm code) s.k) (byd code s.k) (!s.ok) true all l s.x.st code K = K (decide ((if err = 0 then e else err) = 0),t,ax,ay,false,kd,tm,(wd c:Int),dir c,lik t c,tot t tm c,n,if err = 0 then e else err,kx,s.x.lo,s.x.hi,((4 + s.k:Nat):Int),win (strm code) s.k,byd code s.k,!s.ok,true,all,l,s.x.st,code):=by
 unfold aG
 rw [cb]
 by_cases h:err = 0
 ·simp only [if_pos h]; rfl
 ·simp only [if_neg h]; rfl
theorem check_ok {b:Bool} {err:Int} {s:S} {K}:bg fl b t ax ay false kd tm (wd c:Int) (dir c) (lik t c) (tot t tm c) n err kx s.x.lo s.x.hi ((4 + s.k:Nat):Int) (win (strm code) s.k) (byd code s.k) (!s.ok) true all l s.x.st code K = K (b&&decide (err = 0),t,ax,ay,false,kd,tm,(wd c:Int),dir c,lik t c,tot t tm c,n,if b = true then err else if err = 0 then 3 else err,kx,s.x.lo,s.x.hi,((4 + s.k:Nat):Int),win (strm code) s.k,byd code s.k,!s.ok,true,all,l,s.x.st,code):=by
 unfold bg u3
 rw [fine_ok]
 cases b with
 | true=>
  rw [cond_f (b:=!true) rfl,if_pos rfl]
  rfl
 | false=>
  rw [cond_t (b:=!false) rfl]
  try dsimp only
  by_cases h:err = 0
  ·simp only [if_pos h]; rfl
  ·simp only [if_neg h,decide_eq_false h]; rfl
theorem fine_0 {s:S} {K}:aG fl 0 t ax ay false kd tm (wd c:Int) (dir c) (lik t c) (tot t tm c) n 0 kx s.x.lo s.x.hi ((4 + s.k:Nat):Int) (win (strm code) s.k) (byd code s.k) (!s.ok) true all l s.x.st code K = K (true,t,ax,ay,false,kd,tm,(wd c:Int),dir c,lik t c,tot t tm c,n,0,kx,s.x.lo,s.x.hi,((4 + s.k:Nat):Int),win (strm code) s.k,byd code s.k,!s.ok,true,all,l,s.x.st,code):=fine_ok
theorem fine_e {e:Int} (he:e ≠ 0) {s:S} {K}:aG fl e t ax ay false kd tm (wd c:Int) (dir c) (lik t c) (tot t tm c) n 0 kx s.x.lo s.x.hi ((4 + s.k:Nat):Int) (win (strm code) s.k) (byd code s.k) (!s.ok) true all l s.x.st code K = K (false,t,ax,ay,false,kd,tm,(wd c:Int),dir c,lik t c,tot t tm c,n,e,kx,s.x.lo,s.x.hi,((4 + s.k:Nat):Int),win (strm code) s.k,byd code s.k,!s.ok,true,all,l,s.x.st,code):=by
 rw [fine_ok]
 simp only [if_true,decide_eq_false he]
theorem check_1 {s:S} {K}:bg fl true t ax ay false kd tm (wd c:Int) (dir c) (lik t c) (tot t tm c) n 0 kx s.x.lo s.x.hi ((4 + s.k:Nat):Int) (win (strm code) s.k) (byd code s.k) (!s.ok) true all l s.x.st code K = K (true,t,ax,ay,false,kd,tm,(wd c:Int),dir c,lik t c,tot t tm c,n,0,kx,s.x.lo,s.x.hi,((4 + s.k:Nat):Int),win (strm code) s.k,byd code s.k,!s.ok,true,all,l,s.x.st,code):=check_ok
theorem check_0 {s:S} {K}:bg fl false t ax ay false kd tm (wd c:Int) (dir c) (lik t c) (tot t tm c) n 0 kx s.x.lo s.x.hi ((4 + s.k:Nat):Int) (win (strm code) s.k) (byd code s.k) (!s.ok) true all l s.x.st code K = K (false,t,ax,ay,false,kd,tm,(wd c:Int),dir c,lik t c,tot t tm c,n,3,kx,s.x.lo,s.x.hi,((4 + s.k:Nat):Int),win (strm code) s.k,byd code s.k,!s.ok,true,all,l,s.x.st,code):=check_ok
theorem num_err {base err:Int} (he:err ≠ 0) {s:S} {K}:bL fl base t ax ay false kd tm (wd c:Int) (dir c) (lik t c) (tot t tm c) n err kx s.x.lo s.x.hi ((4 + s.k:Nat):Int) (win (strm code) s.k) (byd code s.k) (!s.ok) true all l s.x.st code K = K (false,0,t,ax,ay,false,kd,tm,(wd c:Int),dir c,lik t c,tot t tm c,n,err,kx,s.x.lo,s.x.hi,((4 + s.k:Nat):Int),win (strm code) s.k,byd code s.k,!s.ok,true,all,l,s.x.st,code):=by
 unfold bL lI
 rw [cond_t (by simp [he])]
include hfl hc
theorem num_ok {base:Int} (h0:0≤base) (h1:base + 48≤(N:Int)) {s:S} (hs:St kx code N s) {K}:bL fl base t ax ay false kd tm (wd c:Int) (dir c) (lik t c) (tot t tm c) n 0 kx s.x.lo s.x.hi ((4 + s.k:Nat):Int) (win (strm code) s.k) (byd code s.k) (!s.ok) true all l s.x.st code K = Aft (fun v s'=>K (v.1,v.2,t,ax,ay,false,kd,tm,(wd c:Int),dir c,lik t c,tot t tm c,n,0,kx,s'.x.lo,s'.x.hi,((4 + s'.k:Nat):Int),win (strm code) s'.k,byd code s'.k,!s'.ok,true,all,l,s'.x.st,code)) (fun e s'=>K (false,0,t,ax,ay,false,kd,tm,(wd c:Int),dir c,lik t c,tot t tm c,n,e,kx,s'.x.lo,s'.x.hi,((4 + s'.k:Nat):Int),win (strm code) s'.k,byd code s'.k,!s'.ok,true,all,l,s'.x.st,code)) ((numD base).run kx code s):=by
 unfold bL lI
 rw [cond_f (b:=(0:Int) != 0) rfl,hs.ok,Bool.not_true,Nget_ok hfl hc h0 h1 hs]
 cases (numD base).run kx code s with
 | mk r s'=>
  cases r with
  | inr v=>
   simp only [nRes,Aft]
   rw [fine_ok,if_pos rfl]
  | inl e=>
   simp only [nRes,Aft]
   rw [fine_ok,if_pos rfl]
omit hfl hc in
theorem within_err {base add low high err:Int} (he:err ≠ 0) (ha: -1000000≤add∧add≤1000000) {s:S} {K}:aA fl base add low high t ax ay false kd tm (wd c:Int) (dir c) (lik t c) (tot t tm c) n err kx s.x.lo s.x.hi ((4 + s.k:Nat):Int) (win (strm code) s.k) (byd code s.k) (!s.ok) true all l s.x.st code K = K (add,t,ax,ay,false,kd,tm,(wd c:Int),dir c,lik t c,tot t tm c,n,err,kx,s.x.lo,s.x.hi,((4 + s.k:Nat):Int),win (strm code) s.k,byd code s.k,!s.ok,true,all,l,s.x.st,code):=by
 unfold aA oi
 rw [num_err he]
 dsimp only
 simp only [check_ok,if_neg he]
 rw [w6 (x:=0 + add),Int.zero_add]
 have e:∀ b:Bool,(if b = true then err else err) = err:=fun b=>by split <;> rfl
 rw [cond_t (b:=!false) rfl]
 simp only [e]
 cases decide (add≥low) <;> rfl
theorem within_ok {base add low high:Int} (h0:0≤base) (h1:base + 48≤(N:Int)) (ha: -1000000≤add∧add≤1000000) {s:S} (hs:St kx code N s) {K} {R:Int→S→OA} (hK:∀ v e (s:S),e ≠ 0→K (v,t,ax,ay,false,kd,tm,(wd c:Int),dir c,lik t c,tot t tm c,n,e,kx,s.x.lo,s.x.hi,((4 + s.k:Nat):Int),win (strm code) s.k,byd code s.k,!s.ok,true,all,l,s.x.st,code) = R e s):
  aA fl base add low high t ax ay false kd tm (wd c:Int) (dir c) (lik t c) (tot t tm c) n 0 kx s.x.lo s.x.hi ((4 + s.k:Nat):Int) (win (strm code) s.k) (byd code s.k) (!s.ok) true all l s.x.st code K = Aft (fun v s'=>K (v,t,ax,ay,false,kd,tm,(wd c:Int),dir c,lik t c,tot t tm c,n,0,kx,s'.x.lo,s'.x.hi,((4 + s'.k:Nat):Int),win (strm code) s'.k,byd code s'.k,!s'.ok,true,all,l,s'.x.st,code)) R ((withinD base add low high).run kx code s):=by
 unfold aA oi withinD
 rw [num_ok hfl hc h0 h1 hs,fin_bind]
 have e3:∀ b:Bool,(if b = true then (0:Int) else if (0:Int) = 0 then 3 else 0) = if b = true then 0 else 3:=fun b=>by split <;> rfl
 have e4:∀ (b:Bool) (e:Int),e ≠ 0→(if b = true then e else if e = 0 then 3 else e) = e:=fun b e he=>by split <;> simp [he]
 refine fin_congr (numD_all h0 h1) hs (fun v s' hv hs'=> ?_) (fun e s' he=> ?_)
 ·obtain ⟨v1,v2,v3⟩:=hv
  dsimp only
  simp only [check_ok,e3]
  rw [w6 (x:=v.2 + add)]
  cases hv1:v.1 with
  | true=>
   simp only [Bool.not_true,cond_false,Bool.false_eq_true,if_false,Bool.true_eq_false,false_and,Dec.run,Aft]
   exact hK _ 3 s' (by decide)
  | false=>
   rw [cond_t (b:=!false) rfl]
   by_cases c1:v.2 + add≥low
   rotate_left
   ·have hn:¬ (low≤v.2 + add∧v.2 + add≤high):=fun h=>c1 h.1
    rw [dec_f c1]
    simp only [Bool.false_eq_true,if_false,if_true,true_and,if_neg hn,Dec.run,Aft]
    exact hK _ 3 s' (by decide)
   rw [dec_t c1]
   by_cases c2:v.2 + add≤high
   ·have hy:low≤v.2 + add∧v.2 + add≤high:=⟨c1,c2⟩
    simp only [decide_eq_true c2,if_true,true_and,if_pos hy,Dec.run,Aft]
   ·have hn:¬ (low≤v.2 + add∧v.2 + add≤high):=fun h=>c2 h.2
    simp only [decide_eq_false c2,Bool.false_eq_true,if_false,if_true,true_and,if_neg hn,Dec.run,Aft]
    exact hK _ 3 s' (by decide)
 ·dsimp only
  simp only [check_ok,e4 _ _ he]
  rw [cond_t (b:=!false) rfl]
  cases decide (IntKind.i64.wrap (0 + add)≥low)
  ·exact hK _ e s' he
  ·exact hK _ e s' he
end
end Go.Proofs.YtohnjbmiaegofaaGreat.Di
set_option maxHeartbeats 2000000
namespace Go.Proofs.YtohnjbmiaegofaaGreat.Di
open Go Ev Bm Co Gen Dc Rf
theorem gRes_aft {kx:Int} {code:List Int} {w h:Int} {K}:Rf.gRes kx code w h K = Aft (fun p s'=>K (w,h,p,0,kx,s'.x.lo,s'.x.hi,((4 + s'.k:Nat):Int),win (strm code) s'.k,byd code s'.k,!s'.ok,true,s'.x.st,code)) (fun e s'=>K (0,0,[],e,kx,s'.x.lo,s'.x.hi,((4 + s'.k:Nat):Int),win (strm code) s'.k,byd code s'.k,!s'.ok,true,s'.x.st,code)):=by
 funext r
 obtain ⟨r,s⟩:=r
 cases r <;> rfl
theorem shape_fit {w h:Int} (w0:1≤w) (w1:w≤40) (h0:1≤h) (h1:h≤40):fit w h = true:=by
 have:=mul_le (w:=w) (h:=h) (a:=40) (b:=40) q0 w1 q0 h1
 exact fit_iff.2 ⟨by omega,by omega,by omega,by omega,by omega⟩
def ShR (all:List Bmp) (w h:Int) (s:Shp):Prop:=BOk s.1∧s.1.1 = w∧s.1.2.1 = h∧ -1≤s.2∧s.2 < (all.length:Int)
theorem bok_of {w h:Int} {p:List Int} (hp:Pix w h p) (w0:1≤w) (w1:w≤40) (h0:1≤h) (h1:h≤40):BOk (w,h,p):=by
 refine ⟨?_,fun v hv=>(hp.bit v hv).1⟩
 unfold shp
 rw [show valid (w,h,p).1 (w,h,p).2.1 (w,h,p).2.2 = true from pix_valid hp,decide_eq_true (⟨w0,w1,h0,h1⟩:1≤w∧w≤40∧1≤h∧h≤40)]
 rfl
section
variable {t ax ay kd tm:Int} {c:Nat} {N:Nat} (D:DE t ax ay kd tm c) (hN:(N:Int) = tot t tm c)
include D hN
theorem shD_all {all:List Bmp} (hA:AllOk all) (hal:all.length≤c) {w h:Int} (w0:1≤w) (w1:w≤40) (h0:1≤h) (h1:h≤40):(shD t ax ay tm c all w h).All N (ShR all w h):=by
 obtain ⟨e1,e2,e3,e4,e5,e6,e7⟩:=lay_rg t tm D.n
 obtain ⟨ka,kb,kc,kd'⟩:=wd_rg D.n
 have hc0:0≤csz tm:=by have:=csz_eq tm; omega
 have e2':(2:Int) ^ wd c = ((2 ^ wd c:Nat):Int):=by rw [Int.natCast_pow]; rfl
 have hf:=shape_fit w0 w1 h0 h1
 unfold shD
 refine ⟨⟨by omega,by omega⟩,fun b _=> ?_⟩
 dsimp only
 split
 ·refine Dec.All.bind (P:=Pix w h) (fun p hp=> ?_) _ (gregD_all (dv_iff.1 D.v).1 q0 q0 hf)
  have q:BOk (w,h,p)∧w = w∧h = h∧ -1≤(-1:Int)∧(-1:Int) < (all.length:Int):=⟨bok_of hp w0 w1 h0 h1,rfl,rfl,by omega,by omega⟩
  exact q
 ·refine Dec.All.bind (P:=fun id:Int=>0≤id) (fun id hid=> ?_) _ (idD_all (P:=fun id:Int=>0≤id) q0 (by rw [e2']; unfold dir at *; omega) (fun p hp _=>by show (0:Int)≤p - ((2 ^ wd c:Nat):Int); rw [← e2']; omega) _ 0 1 q0 (by decide) (by decide))
  split
  rotate_left
  ·rfl
  rename_i hlt
  refine Dec.All.bind (fun dx _=> ?_) _ (withinD_all q0 q0)
  refine Dec.All.bind (fun dy _=> ?_) _ (withinD_all q0 q0)
  have pb:=(hA.at hid hlt).pix.1
  refine Dec.All.bind (P:=Pix w h) (fun p hp=> ?_) _ (regD_all pb.bit q0 (by unfold tot at *; omega) hf)
  have q:BOk (w,h,p)∧w = w∧h = h∧ -1≤id∧id < (all.length:Int):=⟨bok_of hp w0 w1 h0 h1,rfl,rfl,by omega,hlt⟩
  exact q
end
section
variable {fl:Nat} (hfl:9223372036854775808≤fl) {kx:Int} {code:List Int} {N:Nat} (hc:Cd code N) (hcl:code.length≤1000000)
variable {t ax ay kd tm n:Int} {c:Nat} {all:List Bmp} {l:List Shp} (D:DE t ax ay kd tm c) (hN:(N:Int) = tot t tm c)
include hfl hc hcl D hN
theorem shape_ok (hA:AllOk all) (hal:all.length≤c) (hll:l.length≤100000) {w h:Int} (w0:1≤w) (w1:w≤40) (h0:1≤h) (h1:h≤40) {s:S} (hs:St kx code N s) {K} {R:Int→S→OA}
  (hK:∀ e (s:S),e ≠ 0→K (t,ax,ay,false,kd,tm,(wd c:Int),dir c,lik t c,tot t tm c,n,e,kx,s.x.lo,s.x.hi,((4 + s.k:Nat):Int),win (strm code) s.k,byd code s.k,!s.ok,true,all,l,s.x.st,code) = R e s):
  ez fl w h t ax ay false kd tm (wd c:Int) (dir c) (lik t c) (tot t tm c) n 0 kx s.x.lo s.x.hi ((4 + s.k:Nat):Int) (win (strm code) s.k) (byd code s.k) (!s.ok) true all l s.x.st code K
  = Aft (fun (q:Shp) s'=>K (t,ax,ay,false,kd,tm,(wd c:Int),dir c,lik t c,tot t tm c,n,0,kx,s'.x.lo,s'.x.hi,((4 + s'.k:Nat):Int),win (strm code) s'.k,byd code s'.k,!s'.ok,true,all++ [q.1],l++ [q],s'.x.st,code)) R ((shD t ax ay tm c all w h).run kx code s):=by
 obtain ⟨e1,e2,e3,e4,e5,e6,e7⟩:=lay_rg t tm D.n
 obtain ⟨ka,kb,kc,kd'⟩:=wd_rg D.n
 have hc0:0≤csz tm:=by have:=csz_eq tm; omega
 have hdn:=D.n
 have e2':(2:Int) ^ wd c = ((2 ^ wd c:Nat):Int):=by rw [Int.natCast_pow]; rfl
 have hf:=shape_fit w0 w1 h0 h1
 have hv:=(dv_iff.1 D.v).1
 have tt:=(dv_iff.1 D.v).2.2
 have hcl':=hc.l
 have hl1:(l.length + (1:Nat)) * (48:Nat)≤(140737488355328:Nat)∧l.length + (1:Nat)≤(140737488355328:Nat):=by omega
 have hl2:(all.length + (1:Nat)) * (40:Nat)≤(140737488355328:Nat)∧all.length + (1:Nat)≤(140737488355328:Nat):=by omega
 unfold ez shD
 rw [hs.ok,Bool.not_true,Co.get_okB hfl hs.x q0 (by rw [hs.sl]; omega) hc.b hc.l (by have:=hs.k; omega)]
 simp only [Dec.run]
 cases eg:Co.get kx code s.x s.k 240 with
 | none=>
  try dsimp only
  refine Eq.trans (fine_e (s:=⟨false,s.x,s.k⟩) (by decide)) ?_
  try dsimp only
  rw [cond_t (b:=!false) rfl]
  exact hK 6 ⟨false,s.x,s.k⟩ (by decide)
 | some v=>
  obtain ⟨b',x',k'⟩:=v
  obtain ⟨g1,g2,g3,g4⟩:=Dc.get_some hs.x q0 (by rw [hs.sl]; omega) eg
  have hs3:Dc.St kx code N ⟨true,x',k'⟩:=⟨rfl,g2,by rw [g3]; exact hs.sl,g4⟩
  try dsimp only
  refine Eq.trans (fine_0 (s:=⟨true,x',k'⟩)) ?_
  try dsimp only
  rw [cond_f (b:=!true) rfl]
  rcases g1 with rfl | rfl
  ·rw [cond_t (b:=(0:Int)==0) rfl,if_pos rfl]
   refine Eq.trans (gget3 hfl hc.b hcl hc.n hv hf q0 q0 hs3) ?_
   rw [fin_bind]
   refine fin_congr (gregD_all hv q0 q0 hf) hs3 (fun p sp hp hsp=> ?_) (fun e s he=> ?_)
   ·try dsimp only
    refine Eq.trans fine_0 ?_
    try dsimp only
    rw [cond_true]
    simp only [dec_t hl1,dec_t hl2,both_same]
    rfl
   ·try dsimp only
    refine Eq.trans (fine_e he) ?_
    try dsimp only
    rw [cond_false]
    exact hK e s he
  ·rw [cond_f (b:=(1:Int)==0) rfl,if_neg (by decide)]
   refine Eq.trans (GetId_ok hfl hc (Q:=wd c) q0 q0 (by rw [e2']; unfold dir at *; omega) hs3) ?_
   rw [fin_bind]
   refine fin_congr (idD_all (P:=fun id:Int=>0≤id) q0 (by rw [e2']; unfold dir at *; omega) (fun p hp _=>by show (0:Int)≤p - ((2 ^ wd c:Nat):Int); rw [← e2']; omega) _ 0 1 q0 (by decide) (by decide)) hs3 (fun id sq hid hsq=> ?_) (fun e s he=> ?_)
   rotate_left
   ·try dsimp only
    rw [fine_e he]
    try dsimp only
    rw [cond_t (b:=!false) rfl]
    exact hK e s he
   try dsimp only
   rw [fine_0]
   try dsimp only
   rw [cond_f (b:=!true) rfl]
   by_cases hlt:id < (all.length:Int)
   rotate_left
   ·rw [decide_eq_false hlt,check_0]
    try dsimp only
    rw [cond_t (b:=!false) rfl,if_neg hlt]
    exact hK 3 sq (by decide)
   rw [decide_eq_true hlt,check_1]
   try dsimp only
   rw [cond_f (b:=!true) rfl,if_pos hlt]
   have pb:=(hA.at hid hlt).pix.1
   refine Eq.trans (within_ok hfl hc q0 q0 q0 hsq (R:=R) (fun v e s he=> ?_)) ?_
   ·dsimp only
    rw [within_err he q0]
    dsimp only
    rw [cond_t (by simp [he])]
    exact hK e s he
   rw [fin_bind]
   refine fin_congr (withinD_all q0 q0) hsq (fun dx sx hdx hsx=> ?_) (fun e s he=>rfl)
   try dsimp only
   refine Eq.trans (within_ok hfl hc q0 q0 q0 hsx (R:=R) (fun v e s he=> ?_)) ?_
   ·dsimp only
    rw [cond_t (by simp [he])]
    exact hK e s he
   rw [fin_bind]
   refine fin_congr (withinD_all q0 q0) hsx (fun dy sy hdy hsy=> ?_) (fun e s he=>rfl)
   try dsimp only
   have eb:all.getD id.toNat (0,0,[]) = bmAt all id:=rfl
   generalize hB:bmAt all id = B at *
   have hr:∀ p,Pix w h p→RR tm dx dy kd w h p B.1 B.2.1 B.2.2:=fun p hp=>⟨tt,D.kk,hdx,hdy,hp,pb⟩
   have hg:∀ K,ei fl (lik t c) tm dx dy false kd w h B.1 B.2.1 B.2.2 kx sy.x.lo sy.x.hi ((4 + sy.k:Nat):Int) (win (strm code) sy.k) (byd code sy.k) false true sy.x.st code K = Rf.gRes kx code w h K ((regD tm dx dy (lik t c) w h B.1 B.2.1 B.2.2).run kx code sy):=fun K=>get_ok3 hfl hc hr hf q0 (by unfold tot at *; omega) hsy
   rw [cond_f (b:=(0:Int) != 0) rfl]
   unfold bC
   simp only [hsy.ok,Bool.not_true,eb,hg,gRes_aft,dec_t (show (0:Int)≤id∧id < (all.length:Int) from ⟨hid,hlt⟩),both_same]
   rw [fin_bind]
   refine fin_congr (regD_all pb.bit q0 (by unfold tot at *; omega) hf) hsy (fun p sp hp hsp=> ?_) (fun e s he=> ?_)
   ·try dsimp only
    refine Eq.trans fine_0 ?_
    try dsimp only
    rw [cond_true]
    simp only [dec_t hl1,dec_t hl2,both_same]
    rfl
   ·try dsimp only
    refine Eq.trans (fine_e he) ?_
    try dsimp only
    rw [cond_false]
    exact hK e s he
end
end Go.Proofs.YtohnjbmiaegofaaGreat.Di
set_option maxHeartbeats 2000000
namespace Go.Proofs.YtohnjbmiaegofaaGreat.Di
open Go Ev Bm Co Gen Dc Rf
structure RdOk (c:Nat) (n:Int) (all:List Bmp) (l:List Shp):Prop where
 A:AllOk all
 s:(all.length:Int) + n≤(c:Int) + (l.length:Int)
 n:(l.length:Int)≤n
 g:l.length≤all.length
theorem RdOk.snoc {c:Nat} {n:Int} {all:List Bmp} {l:List Shp} (h:RdOk c n all l) {s:Shp} (hb:BOk s.1) (hn:(l.length:Int) < n):RdOk c n (all++ [s.1]) (l++ [s]):=
 ⟨h.A.snoc hb,by have:=h.s; simp only [List.length_append,List.length_cons,List.length_nil]; omega,by simp only [List.length_append,List.length_cons,List.length_nil]; omega,by have:=h.g; simp only [List.length_append,List.length_cons,List.length_nil]; omega⟩
section
variable {t ax ay kd tm n:Int} {c:Nat} {N:Nat} (D:DE t ax ay kd tm c) (hN:(N:Int) = tot t tm c)
include D hN
theorem clsD_all {h:Int} (h0:1≤h) (h1:h≤40):∀ (f:Nat) (first:Bool) (w:Int) (all:List Bmp) (l:List Shp),RdOk c n all l→(clsD t ax ay tm c n h f first w all l).All N (fun r=>RdOk c n r.1 r.2)
 | 0,first,w,all,l,hR=>rfl
 | f + 1,first,w,all,l,hR=>by
  obtain ⟨e1,e2,e3,e4,e5,e6,e7⟩:=lay_rg t tm D.n
  unfold clsD
  refine Dec.All.bind (fun v _=> ?_) _ (numD_all q0 q0)
  try dsimp only
  by_cases hv:v.1 = true
  ·rw [if_pos hv]
   by_cases hf:first = true
   ·rw [if_pos hf]
    rfl
   ·rw [if_neg hf]
    exact hR
  ·rw [if_neg hv]
   by_cases hh:(l.length:Int) < n∧1≤w + v.2∧w + v.2≤40
   rotate_left
   ·rw [if_neg hh]
    rfl
   rw [if_pos hh]
   have hs:=hR.s
   refine Dec.All.bind (fun s hs=> ?_) _ (shD_all D hN hR.A q0 hh.2.1 hh.2.2 h0 h1)
   exact clsD_all h0 h1 f false (w + v.2) (all++ [s.1]) (l++ [s]) (hR.snoc hs.1 hh.1)
end
section
variable {fl:Nat} (hfl:9223372036854775808≤fl) {kx:Int} {code:List Int} {N:Nat} (hc:Cd code N) (hcl:code.length≤1000000)
variable {t ax ay kd tm n:Int} {c:Nat} (D:DE t ax ay kd tm c) (hN:(N:Int) = tot t tm c)
include hfl hc hcl D hN
theorem class_loop {h:Int} (h0:1≤h) (h1:h≤40) {ret:_→OA} {R:Int→S→OA} (hret:∀ e (s:S) all l,e ≠ 0→ret (t,ax,ay,false,kd,tm,(wd c:Int),dir c,lik t c,tot t tm c,n,e,kx,s.x.lo,s.x.hi,((4 + s.k:Nat):Int),win (strm code) s.k,byd code s.k,!s.ok,true,all,l,s.x.st,code) = R e s):
  ∀ (f:Nat) (first:Bool) (w:Int) (all:List Bmp) (l:List Shp) (s:S) (m:Nat),61≤l.length + f→RdOk c n all l→0≤w→w≤40→Dc.St kx code N s→f < m→
  iter (kA fl) m (h,w,first,t,ax,ay,false,kd,tm,(wd c:Int),dir c,lik t c,tot t tm c,n,0,kx,s.x.lo,s.x.hi,((4 + s.k:Nat):Int),win (strm code) s.k,byd code s.k,!s.ok,true,all,l,s.x.st,code) ret
  = Aft (fun (r:List Bmp×List Shp) s'=>ret (t,ax,ay,false,kd,tm,(wd c:Int),dir c,lik t c,tot t tm c,n,0,kx,s'.x.lo,s'.x.hi,((4 + s'.k:Nat):Int),win (strm code) s'.k,byd code s'.k,!s'.ok,true,r.1,r.2,s'.x.st,code)) R ((clsD t ax ay tm c n h f first w all l).run kx code s):=by
 obtain ⟨e1,e2,e3,e4,e5,e6,e7⟩:=lay_rg t tm D.n
 have hdn:=D.n
 intro f
 induction f with
 | zero=>
  intro first w all l s m hlf hR w0 w1 hs hm
  have:=hR.s
  have:=hR.n
  have:=hR.g
  omega
 | succ f ih=>
  intro first w all l s m hlf hR w0 w1 hs hm
  obtain ⟨m,rfl⟩:∃ j,m = j + 1:=⟨m - 1,by omega⟩
  have hRs:=hR.s
  have hRn:=hR.n
  have hRg:=hR.g
  simp only [iter,kA,tH]
  unfold clsD
  refine Eq.trans (num_ok hfl hc q0 q0 hs) ?_
  rw [fin_bind]
  refine fin_congr (numD_all q0 q0) hs (fun v sv hv hsv=> ?_) (fun e s he=> ?_)
  rotate_left
  ·try dsimp only
   rw [cond_t (by simp [he])]
   exact hret e s all l he
  obtain ⟨v1,v2,v3⟩:=hv
  try dsimp only
  rw [cond_f (b:=(0:Int) != 0) rfl]
  cases hv1:v.1 with
  | true=>
   rw [cond_true,if_pos rfl]
   cases first with
   | true=>
    refine Eq.trans check_0 ?_
    exact hret 3 sv all l (by decide)
   | false=>
    refine Eq.trans check_1 ?_
    rfl
  | false=>
   rw [cond_false,if_neg (by simp),both_same,w6 (x:=w + v.2)]
   by_cases q1:(l.length:Int) < n
   rotate_left
   ·rw [dec_f q1,if_neg (fun k=>q1 k.1)]
    refine Eq.trans check_0 ?_
    try dsimp only
    rw [cond_t (b:=!false) rfl]
    exact hret 3 sv all l (by decide)
   rw [dec_t q1]
   by_cases q2:w + v.2≥1
   rotate_left
   ·rw [dec_f q2,if_neg (fun k=>q2 k.2.1)]
    refine Eq.trans check_0 ?_
    try dsimp only
    rw [cond_t (b:=!false) rfl]
    exact hret 3 sv all l (by decide)
   rw [dec_t q2]
   by_cases q3:w + v.2≤40
   rotate_left
   ·rw [decide_eq_false q3,if_neg (fun k=>q3 k.2.2)]
    refine Eq.trans check_0 ?_
    try dsimp only
    rw [cond_t (b:=!false) rfl]
    exact hret 3 sv all l (by decide)
   rw [decide_eq_true q3,if_pos ⟨q1,q2,q3⟩]
   refine Eq.trans check_1 ?_
   try dsimp only
   rw [cond_f (b:=!true) rfl]
   refine Eq.trans (shape_ok hfl hc hcl D hN hR.A q0 q0 q2 q3 h0 h1 hsv (R:=R) (fun e s he=> ?_)) ?_
   ·try dsimp only
    rw [cond_t (by simp [he])]
    exact hret e s all l he
   rw [fin_bind]
   refine fin_congr (shD_all D hN hR.A q0 q2 q3 h0 h1) hsv (fun q sq hq hsq=> ?_) (fun e s he=>rfl)
   try dsimp only
   rw [cond_f (b:=(0:Int) != 0) rfl]
   exact ih false (w + v.2) (all++ [q.1]) (l++ [q]) sq m (by rw [List.length_append,List.length_singleton]; omega) (hR.snoc hq.1 q1) q0 q3 hsq (by omega)
theorem class_ok {h:Int} (h0:1≤h) (h1:h≤40) {all:List Bmp} {l:List Shp} (hR:RdOk c n all l) {s:S} (hs:Dc.St kx code N s) {K:_→OA} {R:Int→S→OA} (hK:∀ e (s:S) all l,e ≠ 0→K (t,ax,ay,false,kd,tm,(wd c:Int),dir c,lik t c,tot t tm c,n,e,kx,s.x.lo,s.x.hi,((4 + s.k:Nat):Int),win (strm code) s.k,byd code s.k,!s.ok,true,all,l,s.x.st,code) = R e s):
  dQ fl h t ax ay false kd tm (wd c:Int) (dir c) (lik t c) (tot t tm c) n 0 kx s.x.lo s.x.hi ((4 + s.k:Nat):Int) (win (strm code) s.k) (byd code s.k) (!s.ok) true all l s.x.st code K
  = Aft (fun (r:List Bmp×List Shp) s'=>K (t,ax,ay,false,kd,tm,(wd c:Int),dir c,lik t c,tot t tm c,n,0,kx,s'.x.lo,s'.x.hi,((4 + s'.k:Nat):Int),win (strm code) s'.k,byd code s'.k,!s'.ok,true,r.1,r.2,s'.x.st,code)) R ((clsD t ax ay tm c n h 62 true 0 all l).run kx code s):=by
 unfold dQ xA Eg
 exact class_loop hfl hc hcl D hN h0 h1 (ret:=fun v=>K v) hK 62 true 0 all l s fl q0 hR q0 q0 hs (by omega)
theorem dict_stop {old:List Bmp} {h e:Int} {x3:Int} {x34:List Int} (he:e ≠ 0) {s:S} {all:List Bmp} {l:List Shp} {b} {m:Nat} (hm:0 < m):
  iter (fm fl) m (old,n,h,x3,t,ax,ay,false,kd,tm,(wd c:Int),dir c,lik t c,tot t tm c,kx,s.x.lo,s.x.hi,((4 + s.k:Nat):Int),win (strm code) s.k,byd code s.k,!s.ok,true,t,ax,ay,false,kd,tm,(wd c:Int),dir c,lik t c,tot t tm c,n,e,x34,s.x.st,code,all,l) b
  = b (old,n,x3,t,ax,ay,false,kd,tm,(wd c:Int),dir c,lik t c,tot t tm c,kx,s.x.lo,s.x.hi,((4 + s.k:Nat):Int),win (strm code) s.k,byd code s.k,!s.ok,true,t,ax,ay,false,kd,tm,(wd c:Int),dir c,lik t c,tot t tm c,n,e,x34,s.x.st,code,all,l):=by
 obtain ⟨m,rfl⟩:∃ j,m = j + 1:=⟨m - 1,by omega⟩
 simp only [iter,fm,lP]
 rw [cond_f (by simp [he])]
theorem dict_loop {old:List Bmp} {x3:Int} {x34:List Int} {K:_→OA} {R:Int→S→OA} (hK:∀ e (s:S) all l,e ≠ 0→K (old,n,x3,t,ax,ay,false,kd,tm,(wd c:Int),dir c,lik t c,tot t tm c,kx,s.x.lo,s.x.hi,((4 + s.k:Nat):Int),win (strm code) s.k,byd code s.k,!s.ok,true,t,ax,ay,false,kd,tm,(wd c:Int),dir c,lik t c,tot t tm c,n,e,x34,s.x.st,code,all,l) = R e s):
  ∀ (f:Nat) (h:Int) (all:List Bmp) (l:List Shp) (s:S) (m:Nat),41≤h + f→h≤40→0≤h→RdOk c n all l→Dc.St kx code N s→f + 1 < m→
  iter (fm fl) m (old,n,h,x3,t,ax,ay,false,kd,tm,(wd c:Int),dir c,lik t c,tot t tm c,kx,s.x.lo,s.x.hi,((4 + s.k:Nat):Int),win (strm code) s.k,byd code s.k,!s.ok,true,t,ax,ay,false,kd,tm,(wd c:Int),dir c,lik t c,tot t tm c,n,0,x34,s.x.st,code,all,l) K
  = Aft (fun (r:List Bmp×List Shp) s=>K (old,n,x3,t,ax,ay,false,kd,tm,(wd c:Int),dir c,lik t c,tot t tm c,kx,s.x.lo,s.x.hi,((4 + s.k:Nat):Int),win (strm code) s.k,byd code s.k,!s.ok,true,t,ax,ay,false,kd,tm,(wd c:Int),dir c,lik t c,tot t tm c,n,0,x34,s.x.st,code,r.1,r.2)) R ((dicD t ax ay tm c n f h all l).run kx code s):=by
 obtain ⟨e1,e2,e3,e4,e5,e6,e7⟩:=lay_rg t tm D.n
 intro f
 induction f with
 | zero=>
  intro h all l s m hlf h1 h0 hR hs hm
  omega
 | succ f ih=>
  intro h all l s m hlf h1 h0 hR hs hm
  obtain ⟨m,rfl⟩:∃ j,m = j + 1:=⟨m - 1,by omega⟩
  simp only [iter,fm,lP]
  rw [cond_t (b:=(0:Int)==0) rfl]
  unfold dicD
  by_cases hln:(l.length:Int) < n
  rotate_left
  ·rw [dec_f hln,if_neg hln]
   rfl
  rw [dec_t hln,if_pos hln,w6 (x:=h + 1)]
  refine Eq.trans (within_ok hfl hc q0 q0 q0 hs (R:=R) (fun v e s he=> ?_)) ?_
  ·try dsimp only
   rw [cond_f (by simp [he])]
   exact (dict_stop hfl hc hcl D hN he q0).trans (hK e s all l he)
  rw [fin_bind]
  refine fin_congr (withinD_all q0 q0) hs (fun h' sv hv hsv=> ?_) (fun e s he=>rfl)
  try dsimp only
  rw [cond_t (b:=(0:Int)==0) rfl]
  refine Eq.trans (class_ok hfl hc hcl D hN q0 q0 hR hsv (R:=R) (fun e s all l he=> ?_)) ?_
  ·exact (dict_stop hfl hc hcl D hN he q0).trans (hK e s all l he)
  rw [fin_bind]
  refine fin_congr (clsD_all D hN q0 q0 62 true 0 all l hR) hsv (fun r sr hr hsr=> ?_) (fun e s he=>rfl)
  exact ih h' r.1 r.2 sr m q0 q0 q0 hr hsr (by omega)
omit hfl hc hcl in
theorem dicD_all:∀ (f:Nat) (h:Int) (all:List Bmp) (l:List Shp),0≤h→RdOk c n all l→(dicD t ax ay tm c n f h all l).All N (fun r=>RdOk c n r.1 r.2)
 | 0,h,all,l,h0,hR=>hR
 | f + 1,h,all,l,h0,hR=>by
  obtain ⟨e1,e2,e3,e4,e5,e6,e7⟩:=lay_rg t tm D.n
  unfold dicD
  by_cases hln:(l.length:Int) < n
  rotate_left
  ·rw [if_neg hln]
   exact hR
  rw [if_pos hln]
  refine Dec.All.bind (fun h' hh=> ?_) _ (withinD_all q0 q0)
  refine Dec.All.bind (fun r hr=> ?_) _ (clsD_all D hN q0 q0 62 true 0 all l hR)
  exact dicD_all f h' r.1 r.2 q0 hr
end
end Go.Proofs.YtohnjbmiaegofaaGreat.Di
set_option maxHeartbeats 2000000
namespace Go.Proofs.YtohnjbmiaegofaaGreat.Di
open Go Ev Bm Co Gen Dc Rf
theorem flgD_all {N:Nat} (hN:240≤N) {total:Int}:∀ (f:Nat) (v:Bool) (out:List Bool),(flgD total f v out).All N (fun _=>True)
 | 0,v,out=>trivial
 | f + 1,v,out=>by
  unfold flgD
  by_cases h:(out.length:Int) < total
  ·rw [if_pos h]
   exact Dec.All.bind (fun k _=>flgD_all hN f (!v) (out++List.replicate k.toNat v)) _ (withinD_all q0 q0)
  ·rw [if_neg h]
   exact trivial
section
variable {fl:Nat} (hfl:9223372036854775808≤fl) {kx:Int} {code:List Int} {N:Nat} (hc:Cd code N)
variable {t ax ay kd tm n:Int} {c:Nat} {all:List Bmp} {l:List Shp} (D:DE t ax ay kd tm c) (hN:(N:Int) = tot t tm c)
include hfl
theorem run_ok2 {total:Int} {v:Bool} {k:Int} (k0:0≤k) {out:List Bool} (ho:(out.length:Int) + k≤1000) {s:S} {b}:
  eC fl (total,v,k,0,t,ax,ay,false,kd,tm,(wd c:Int),dir c,lik t c,tot t tm c,n,0,kx,s.x.lo,s.x.hi,((4 + s.k:Nat):Int),win (strm code) s.k,byd code s.k,!s.ok,true,all,l,s.x.st,code,out) b
  = b (total,v,t,ax,ay,false,kd,tm,(wd c:Int),dir c,lik t c,tot t tm c,n,0,kx,s.x.lo,s.x.hi,((4 + s.k:Nat):Int),win (strm code) s.k,byd code s.k,!s.ok,true,all,l,s.x.st,code,out++List.replicate k.toNat v):=by
 unfold eC
 refine iter_seq (step:=dj fl) (fun i:Nat=>(total,v,k,(i:Int),t,ax,ay,false,kd,tm,(wd c:Int),dir c,lik t c,tot t tm c,n,0,kx,s.x.lo,s.x.hi,((4 + s.k:Nat):Int),win (strm code) s.k,byd code s.k,!s.ok,true,all,l,s.x.st,code,out++List.replicate i v)) k.toNat (by simp) (fun i hi c=> ?_) (fun c=> ?_) q0
 ·simp only [dj,kg]
  rw [dec_t q0,cond_f (b:=(0:Int) != 0) rfl,dec_t (by simp only [List.length_append,List.length_replicate,List.length_cons,List.length_nil]; omega),wrap64 q0 q0,List.replicate_succ',List.append_assoc]
  rfl
 ·simp only [dj,kg]
  rw [dec_f q0]
theorem run_err {total:Int} {v:Bool} {k e:Int} (he:e ≠ 0) {out:List Bool} {s:S} {b}:
  eC fl (total,v,k,0,t,ax,ay,false,kd,tm,(wd c:Int),dir c,lik t c,tot t tm c,n,e,kx,s.x.lo,s.x.hi,((4 + s.k:Nat):Int),win (strm code) s.k,byd code s.k,!s.ok,true,all,l,s.x.st,code,out) b
  = b (total,v,t,ax,ay,false,kd,tm,(wd c:Int),dir c,lik t c,tot t tm c,n,e,kx,s.x.lo,s.x.hi,((4 + s.k:Nat):Int),win (strm code) s.k,byd code s.k,!s.ok,true,all,l,s.x.st,code,out):=by
 obtain ⟨f,hf⟩:∃ f,fl = f + 1:=⟨fl - 1,by omega⟩
 unfold eC
 rw [show iter (dj fl) fl = iter (dj fl) (f + 1) from by rw [← hf]]
 simp only [iter,dj,kg]
 by_cases h:(0:Int) < k
 ·rw [dec_t h,cond_t (by simp [he])]
 ·rw [dec_f h]
theorem flag_stop {total:Int} {v:Bool} {e:Int} (he:e ≠ 0) {out:List Bool} {s:S} {b} {m:Nat} (hm:0 < m):
  iter (dJ fl) m (total,v,t,ax,ay,false,kd,tm,(wd c:Int),dir c,lik t c,tot t tm c,n,e,kx,s.x.lo,s.x.hi,((4 + s.k:Nat):Int),win (strm code) s.k,byd code s.k,!s.ok,true,all,l,s.x.st,code,out) b
  = b (t,ax,ay,false,kd,tm,(wd c:Int),dir c,lik t c,tot t tm c,n,e,kx,s.x.lo,s.x.hi,((4 + s.k:Nat):Int),win (strm code) s.k,byd code s.k,!s.ok,true,all,l,s.x.st,code,out):=by
 obtain ⟨m,rfl⟩:∃ j,m = j + 1:=⟨m - 1,by omega⟩
 simp only [iter,dJ,lj]
 rw [cond_f (by simp [he])]
include hc D hN
theorem rflag_loop {total:Int} (ht:total≤100) {b:_→OA} {R:Int→S→OA} (hb:∀ e (s:S) out,e ≠ 0→b (t,ax,ay,false,kd,tm,(wd c:Int),dir c,lik t c,tot t tm c,n,e,kx,s.x.lo,s.x.hi,((4 + s.k:Nat):Int),win (strm code) s.k,byd code s.k,!s.ok,true,all,l,s.x.st,code,out) = R e s):
  ∀ (f:Nat) (v:Bool) (out:List Bool) (s:S) (m:Nat),total + 1 + (if v = false∧out = [] then 1 else 0)≤(out.length:Int) + f→(out.length:Int)≤total→Dc.St kx code N s→f + 1 < m→
  iter (dJ fl) m (total,v,t,ax,ay,false,kd,tm,(wd c:Int),dir c,lik t c,tot t tm c,n,0,kx,s.x.lo,s.x.hi,((4 + s.k:Nat):Int),win (strm code) s.k,byd code s.k,!s.ok,true,all,l,s.x.st,code,out) b
  = Aft (fun (out:List Bool) s=>b (t,ax,ay,false,kd,tm,(wd c:Int),dir c,lik t c,tot t tm c,n,0,kx,s.x.lo,s.x.hi,((4 + s.k:Nat):Int),win (strm code) s.k,byd code s.k,!s.ok,true,all,l,s.x.st,code,out)) R ((flgD total f v out).run kx code s):=by
 obtain ⟨e1,e2,e3,e4,e5,e6,e7⟩:=lay_rg t tm D.n
 intro f
 induction f with
 | zero=>
  intro v out s m h1 h2 hs hm
  split at h1 <;> omega
 | succ f ih=>
  intro v out s m h1 h2 hs hm
  obtain ⟨m,rfl⟩:∃ j,m = j + 1:=⟨m - 1,by omega⟩
  simp only [iter,dJ,lj]
  rw [cond_t (b:=(0:Int)==0) rfl]
  unfold flgD
  by_cases hln:(out.length:Int) < total
  rotate_left
  ·rw [dec_f hln,if_neg hln]
   rfl
  rw [dec_t hln,if_pos hln,w6 (x:=total - (out.length:Int))]
  have key:∀ low:Int,low = (if v = false∧out = [] then 0 else 1)→0≤low→
    aA fl 192 0 low (total - (out.length:Int)) t ax ay false kd tm (wd c:Int) (dir c) (lik t c) (tot t tm c) n 0 kx s.x.lo s.x.hi ((4 + s.k:Nat):Int) (win (strm code) s.k) (byd code s.k) (!s.ok) true all l s.x.st code
     (fun (y6_0,y6_1,y6_2,y6_3,y6_4,y6_5,y6_6,y6_7,y6_8,y6_9,y6_10,y6_11,y6_12,y6_13,y6_14,y6_15,y6_16,y6_17,y6_18,y6_19,y6_20,y6_21,y6_22,y6_23,y6_24)=>
      (eC fl (total,v,y6_0,0,y6_1,y6_2,y6_3,y6_4,y6_5,y6_6,y6_7,y6_8,y6_9,y6_10,y6_11,y6_12,y6_13,y6_14,y6_15,y6_16,y6_17,y6_18,y6_19,y6_20,y6_21,y6_22,y6_23,y6_24,out)
       (fun (b2_0,b2_1,b2_2,b2_3,b2_4,b2_5,b2_6,b2_7,b2_8,b2_9,b2_10,b2_11,b2_12,b2_13,b2_14,b2_15,b2_16,b2_17,b2_18,b2_19,b2_20,b2_21,b2_22,b2_23,b2_24,b2_25,b2_26)=>
        iter (dJ fl) m (b2_0,!b2_1,b2_2,b2_3,b2_4,b2_5,b2_6,b2_7,b2_8,b2_9,b2_10,b2_11,b2_12,b2_13,b2_14,b2_15,b2_16,b2_17,b2_18,b2_19,b2_20,b2_21,b2_22,b2_23,b2_24,b2_25,b2_26) b)))
    = Aft (fun (out:List Bool) s=>b (t,ax,ay,false,kd,tm,(wd c:Int),dir c,lik t c,tot t tm c,n,0,kx,s.x.lo,s.x.hi,((4 + s.k:Nat):Int),win (strm code) s.k,byd code s.k,!s.ok,true,all,l,s.x.st,code,out)) R (((withinD 192 0 low (total - (out.length:Int))).bind fun k=>flgD total f (!v) (out++List.replicate k.toNat v)).run kx code s):=by
   intro low hlow hl0
   refine Eq.trans (within_ok hfl hc q0 q0 q0 hs (R:=R) (fun k e s he=> ?_)) ?_
   ·try dsimp only
    rw [run_err hfl he]
    exact (flag_stop hfl he q0).trans (hb e s out he)
   rw [fin_bind]
   refine fin_congr (withinD_all q0 q0) hs (fun k sk hk hsk=> ?_) (fun e s he=>rfl)
   try dsimp only
   rw [run_ok2 hfl q0 q0]
   have hl2:((out++List.replicate k.toNat v).length:Int) = (out.length:Int) + k:=by
    rw [List.length_append,List.length_replicate]
    omega
   refine ih (!v) (out++List.replicate k.toNat v) sk m ?_ q0 hsk q0
   rw [hl2]
   by_cases h3:v = false∧out = []
   ·rw [if_pos h3] at h1
    rw [if_neg (fun q=>by rw [h3.1] at q; exact absurd q.1 (by simp))]
    omega
   ·rw [if_neg h3] at h1 hlow
    have hne:out++List.replicate k.toNat v ≠ []:=fun q=>by
     rw [q] at hl2
     simp only [List.length_nil] at hl2
     omega
    rw [if_neg (fun q=>hne q.2)]
    omega
  cases v with
  | true=>
   rw [cond_f (b:=!true) rfl]
   have hl:(1:Int) = (if true = false∧out = [] then 0 else 1):=by rw [if_neg (fun q=>absurd q.1 (by simp))]
   rw [← hl]
   exact key 1 hl q0
  | false=>
   rw [cond_t (b:=!false) rfl]
   by_cases h3:out = []
   ·subst h3
    rw [cond_t (by simp)]
    have hl:(0:Int) = (if false = false∧([]:List Bool) = [] then 0 else 1):=by rw [if_pos ⟨rfl,rfl⟩]
    rw [← hl]
    exact key 0 hl q0
   ·have hne:¬ (out.length:Int) = 0:=fun q=>h3 (List.eq_nil_of_length_eq_zero q0)
    rw [cond_f (by simpa using h3)]
    have hl:(1:Int) = (if false = false∧out = [] then 0 else 1):=by rw [if_neg (fun q=>h3 q.2)]
    rw [← hl]
    exact key 1 hl (by omega)
theorem rflags_ok {total:Int} (h0:0≤total) (ht:total≤60) {s:S} (hs:Dc.St kx code N s) {K:_→OA} {R:Int→S→OA} (hK:∀ e (s:S) out,e ≠ 0→K (t,ax,ay,false,kd,tm,(wd c:Int),dir c,lik t c,tot t tm c,n,e,kx,s.x.lo,s.x.hi,((4 + s.k:Nat):Int),win (strm code) s.k,byd code s.k,!s.ok,true,all,l,s.x.st,code,out) = R e s):
  cz fl total t ax ay false kd tm (wd c:Int) (dir c) (lik t c) (tot t tm c) n 0 kx s.x.lo s.x.hi ((4 + s.k:Nat):Int) (win (strm code) s.k) (byd code s.k) (!s.ok) true all l s.x.st code K
  = Aft (fun (out:List Bool) s=>K (t,ax,ay,false,kd,tm,(wd c:Int),dir c,lik t c,tot t tm c,n,0,kx,s.x.lo,s.x.hi,((4 + s.k:Nat):Int),win (strm code) s.k,byd code s.k,!s.ok,true,all,l,s.x.st,code,out)) R ((flgD total 62 false []).run kx code s):=by
 unfold cz nL rs
 exact rflag_loop hfl hc D hN q0 (b:=fun v=>K v) hK 62 false [] s fl (by rw [if_pos ⟨rfl,rfl⟩]; simp only [List.length_nil]; omega) (by simpa using h0) hs (by omega)
theorem rflags_err {total e:Int} (he:e ≠ 0) {s:S} {K:_→OA}:
  cz fl total t ax ay false kd tm (wd c:Int) (dir c) (lik t c) (tot t tm c) n e kx s.x.lo s.x.hi ((4 + s.k:Nat):Int) (win (strm code) s.k) (byd code s.k) (!s.ok) true all l s.x.st code K
  = K (t,ax,ay,false,kd,tm,(wd c:Int),dir c,lik t c,tot t tm c,n,e,kx,s.x.lo,s.x.hi,((4 + s.k:Nat):Int),win (strm code) s.k,byd code s.k,!s.ok,true,all,l,s.x.st,code,[]):=by
 unfold cz nL rs
 exact flag_stop (fl:=fl) hfl he (by omega)
end
end Go.Proofs.YtohnjbmiaegofaaGreat.Di
set_option maxHeartbeats 2000000
namespace Go.Proofs.YtohnjbmiaegofaaGreat.Di
open Go Ev Bm Co Gen Dc Rf
def bothD (t ax ay tm:Int) (c:Nat) (n:Int) (old:List Bmp):Dec (List Shp×List Bool):=(dicD t ax ay tm c n 41 0 old []).bind fun r=>(flgD (c:Int) 62 false []).bind fun ex=>.ret (r.2,ex)
def decR (t ax ay:Int) (ty:Bool) (kd tm kk:Int) (st:List Int) (old:List Bmp) (n:Int) (code:List Int):Int×Int×List Shp×List Bool×List Int:=
 if bgErr t ax ay ty kd tm kk st old = 0 then
  (if 0≤n∧(old.length:Int) + n≤60 then
   (match (bothD t ax ay tm (old.length + n.toNat) n old).run kd code ⟨true,x0 t tm (old.length + n.toNat) st,0⟩ with
    | (.inr r,s)=>(kd,0,r.1,r.2,s.x.st.drop (dir (old.length + n.toNat)).toNat)
    | (.inl e,_)=>(0,e,[],[],[]))
  else (0,2,[],[],[]))
 else (0,bgErr t ax ay ty kd tm kk st old,[],[],[])
theorem sdec {fl:Nat} (hfl:9223372036854775808≤fl) {t ax ay kd tm kk n:Int} {ty:Bool} {st:List Int} {old:List Bmp} {code:List Int} (ho:old.length≤1000000000000000) (hzo:∀ b ∈ old,∀ v ∈ b.2.2,0≤v) (hcb:Bytes code) (hcl:code.length≤1000000) {K:Int×Int×List Shp×List Bool×List Int→OA}:
  aQ fl t ax ay ty kd tm kk st old n code K = K (decR t ax ay ty kd tm kk st old n code):=by
 unfold aQ yD decR
 rw [begun_ok hfl ho]
 try dsimp only
 by_cases he:bgErr t ax ay ty kd tm kk st old = 0
 rotate_left
 ·rw [cond_f (by simpa using he),cond_t (by simpa using he),if_neg he]
 rw [cond_t (by simp [he]),if_pos he]
 by_cases h1:n < 0
 ·rw [dec_t h1,if_neg q0]
 rw [dec_f h1,w6 (x:=60 - (old.length:Int))]
 by_cases h2:n > 60 - (old.length:Int)
 ·rw [dec_t h2,if_neg q0]
 rw [dec_f h2,if_pos q0,cond_f (by simp [he]),w6 (x:=(old.length:Int) + n)]
 obtain ⟨b1,b2,b3⟩:=bg_parts he
 obtain ⟨c,hc⟩:∃ c:Nat,c = old.length + n.toNat:=⟨_,rfl⟩
 rw [← hc]
 have hcn:(old.length:Int) + n = (c:Int):=by omega
 have D:=de_of (n:=c) b1 q0
 obtain ⟨v1,v2,v3⟩:=dv_iff.1 b1
 subst v2
 have hA:=allok_of b3 hzo
 have hv:=st0_ok (t:=t) (tm:=tm) (c:=c) D.n D.kk b2
 obtain ⟨hN,hn⟩:=st0_len (t:=t) (tm:=tm) (c:=c) D.n b2
 have ok:(x0 t tm c st).Ok kd:=ok_new hv
 rw [hcn,lay_ok D.n b1]
 try dsimp only
 rw [model_ok hfl D b2]
 try dsimp only
 rw [new_decB hfl hv hcb q0]
 try dsimp only
 rw [cloneM q0]
 try dsimp only
 obtain ⟨e1,e2,e3,e4,e5,e6,e7⟩:=lay_rg t tm D.n
 have hst:Dc.St kd code (st0 t tm c st).length ⟨true,x0 t tm c st,0⟩:=⟨rfl,ok,rfl,Nat.zero_le _⟩
 have hcd:Cd code (st0 t tm c st).length:=⟨hcb,by omega,hn⟩
 have hR:RdOk c n old []:=⟨hA,by simp only [List.length_nil]; omega,by simp only [List.length_nil]; omega,Nat.zero_le _⟩
 unfold uR
 refine Eq.trans (dict_loop hfl hcd hcl D hN (R:=fun e _=>K (0,e,[],[],[])) (fun e s all l he=> ?_) 41 0 old [] ⟨true,x0 t tm c st,0⟩ fl q0 q0 q0 hR hst q0) ?_
 ·try dsimp only
  rw [hcn,w6 (x:=(c:Int)),rflags_err hfl hcd D hN he]
  try dsimp only
  rw [cond_t (by simp [he])]
 unfold bothD
 rw [run_bind]
 have hall:=run_ends (dicD t ax ay tm c n 41 0 old []) (kx:=kd) (code:=code) (dicD_all D hN 41 0 old [] q0 hR) hst
 cases hr:(dicD t ax ay tm c n 41 0 old []).run kd code ⟨true,x0 t tm c st,0⟩ with
 | mk r s1=>
 rw [hr] at hall
 cases r with
 | inl e=>rfl
 | inr r=>
  obtain ⟨hr1,hs1⟩:=hall
  simp only [Aft]
  rw [hcn,w6 (x:=(c:Int))]
  refine Eq.trans (rflags_ok hfl hcd D hN q0 (by have:=D.n; omega) hs1 (R:=fun e _=>K (0,e,[],[],[])) (fun e s out he=> ?_)) ?_
  ·try dsimp only
   rw [cond_t (by simp [he])]
  rw [run_bind]
  have hfa:=run_ends (flgD (c:Int) 62 false []) (kx:=kd) (code:=code) (P:=fun _=>True) (flgD_all q0 62 false []) hs1
  cases hf:(flgD (c:Int) 62 false []).run kd code s1 with
  | mk q s2=>
  rw [hf] at hfa
  cases q with
  | inl e=>rfl
  | inr q=>
   obtain ⟨_,hs2⟩:=hfa
   simp only [Aft,Dec.run]
   rw [cond_f (b:=(0:Int) != 0) rfl]
   unfold ak eN aS
   try dsimp only
   rw [cond_f (b:=!true) rfl,clone_ok (by rw [hs2.sl]; omega)]
   try dsimp only
   rw [after_ok hfl (by rw [hs2.sl,hN]; omega) (by rw [hs2.sl]; omega)]
end Go.Proofs.YtohnjbmiaegofaaGreat.Di
set_option maxHeartbeats 2000000
namespace Go.Proofs.YtohnjbmiaegofaaGreat.Di
open Go Ev Bm Co Gen Dc Rf
theorem fol_within {base add low high v:Int} (h0: -1048576≤v - add) (h1:v - add≤1048576) (h2:low≤v) (h3:v≤high):Fol (withinD base add low high) (numEv base false (v - add)) v:=by
 unfold withinD
 have:=fol_bind (f:=fun v:Bool×Int=>if v.1 = false∧low≤v.2 + add∧v.2 + add≤high then (.ret (v.2 + add):Dec Int) else .bad 3) (b:=v) (F:=[]) (numD base) (fol_num (base:=base) (none:=false) (n:=v - add) (fun h=>absurd h (by simp)) h0 h1) (by
  dsimp only
  rw [if_pos ⟨rfl,by omega,by omega⟩]
  exact ⟨rfl,by omega⟩)
 rwa [List.append_nil] at this
section
variable {t ax ay kd tm:Int} {c:Nat} (D:DE t ax ay kd tm c)
include D
theorem shD_fol {all:List Bmp} {s:Shp} (hA:AllOk all) (q:ShOk all s) (hal:all.length≤c):Fol (shD t ax ay tm c all s.1.1 s.1.2.1) (shEv t ax ay tm c all s) s:=by
 obtain ⟨hb,f0,f1⟩:=q
 obtain ⟨p,w0,w1,h0,h1⟩:=hb.pix
 have hdn:=D.n
 obtain ⟨ka,kb,kc,kd'⟩:=wd_rg D.n
 have hv:=(dv_iff.1 D.v).1
 obtain ⟨⟨w,h,pp⟩,fr⟩:=s
 unfold shD shEv
 by_cases hneg:fr < 0
 ·rw [if_pos hneg]
  simp only [List.cons_append,List.nil_append]
  refine ⟨0,_,rfl, ?_⟩
  dsimp only
  rw [if_pos rfl, ← List.append_nil (allEv _ _ _ _ _ _ _ _ _ _)]
  refine fol_bind (a:=pp) _ (greg_fol hv p) ⟨rfl, ?_⟩
  have:fr = -1:=by
   have: -1≤fr:=f0
   omega
  rw [this]
 ·rw [if_neg hneg]
  simp only [List.append_assoc,List.cons_append,List.nil_append]
  refine ⟨1,_,rfl, ?_⟩
  dsimp only
  rw [if_neg (by decide)]
  have f1:fr < (all.length:Int):=f1
  have hidk:=fol_idK (base:=241) (K:=wd c) (id:=fr.toNat) q0
  refine fol_bind (a:=((fr.toNat:Nat):Int)) _ hidk ?_
  rw [Int.toNat_of_nonneg q0,if_pos f1]
  have hx:=fol_within (base:=96) (add:=0) (low:= -200) (high:=200) (v:=0) q0 q0 q0 q0
  have hy:=fol_within (base:=144) (add:=0) (low:= -200) (high:=200) (v:=0) q0 q0 q0 q0
  rw [Int.sub_zero] at hx hy
  refine fol_bind (a:=0) _ hx ?_
  refine fol_bind (a:=0) _ hy ?_
  rw [← List.append_nil (rwE _ _ _ _ _ _ _ _ _ _ _)]
  exact fol_bind (a:=pp) _ (reg_fol p) ⟨rfl,rfl⟩
end
def Asc:Int→List Shp→Prop
 | _,[]=>True
 | h,s::l=>h≤s.1.2.1∧Asc s.1.2.1 l
theorem dicD_end {t ax ay tm:Int} {c:Nat} {n:Int} {h:Int} {all:List Bmp} {l:List Shp} (hn:¬ (l.length:Int) < n):∀ f,dicD t ax ay tm c n f h all l = .ret (all,l)
 | 0=>rfl
 | f + 1=>by
  unfold dicD
  rw [if_neg hn]
section
variable {t ax ay kd tm:Int} {c:Nat} (D:DE t ax ay kd tm c)
include D
theorem cls_one {n:Int} {s:Shp} {l pre:List Shp} {all:List Bmp} {h w:Int} {f:Nat} {first:Bool} {G:List Bmp×List Shp→Dec (List Bmp×List Shp)} {F:List (Int×Int)} {r:List Bmp×List Shp}
  (hA:AllOk all) (q:ShOk all s) (hal:all.length≤c) (hh:s.1.2.1 = h) (w0:0≤w) (w1:w≤40) (hn:(pre.length:Int) < n)
  (hF:Fol ((clsD t ax ay tm c n h f false s.1.1 (all++ [s.1]) (pre++ [s])).bind G) F r):
  Fol ((clsD t ax ay tm c n h (f + 1) first w all pre).bind G) (numEv 48 false (s.1.1 - w)++(shEv t ax ay tm c all s++F)) r:=by
 obtain ⟨p,p0,p1,p2,p3⟩:=q.1.pix
 unfold clsD
 rw [bind_assoc]
 refine fol_bind (a:=(false,s.1.1 - w)) _ (fol_num (fun h=>absurd h (by simp)) q0 q0) ?_
 dsimp only
 have e:w + (s.1.1 - w) = s.1.1:=by omega
 rw [if_neg (by simp),e,if_pos ⟨hn,p0,p1⟩,bind_assoc, ← hh]
 refine fol_bind (a:=s) _ (shD_fol D hA q hal) ?_
 rw [hh]
 exact hF
theorem cls_fol {n:Int}:∀ (l pre:List Shp) (all:List Bmp) (h w:Int) (f1 f2:Nat),AllOk all→ShsOk l all→all.length + l.length≤c→(pre.length:Int) + (l.length:Int) = n→Asc h l→0≤h→h≤40→0≤w→w≤40→l.length < f1→41≤h + f2→
  Fol ((clsD t ax ay tm c n h f1 false w all pre).bind fun r=>dicD t ax ay tm c n f2 h r.1 r.2) (dEv t ax ay tm c l h w all true) (all++l.map (·.1),pre++l)
 | [],pre,all,h,w,f1,f2,hA,hs,hla,hn,ha,h0,h1,w0,w1,hf1,hf2=>by
  obtain ⟨f1,rfl⟩:∃ k,f1 = k + 1:=⟨f1 - 1,by simp at hf1; omega⟩
  unfold clsD dEv
  rw [bind_assoc,if_pos rfl, ← List.append_nil (numEv _ _ _)]
  refine fol_bind (a:=(true,0)) _ (fol_num (fun _=>rfl) q0 q0) ?_
  dsimp only
  rw [if_pos rfl,if_neg (by simp)]
  simp only [Dec.bind]
  rw [dicD_end (by simp only [List.length_nil] at hn; omega)]
  exact ⟨rfl,by simp⟩
 | s::l,pre,all,h,w,f1,f2,hA,hs,hla,hn,ha,h0,h1,w0,w1,hf1,hf2=>by
  obtain ⟨q,hs⟩:=hs
  obtain ⟨ha1,ha2⟩:=ha
  rw [List.length_cons] at hla hn hf1
  obtain ⟨p,p0,p1,p2,p3⟩:=q.1.pix
  have hdn:=D.n
  have hsn:(all++ [s.1]).length = all.length + 1:=by simp
  have hpn:((pre++ [s]).length:Int) = (pre.length:Int) + 1:=by simp
  obtain ⟨f1,rfl⟩:∃ k,f1 = k + 1:=⟨f1 - 1,by omega⟩
  have er:(all++(s::l).map (·.1),pre++s::l) = ((all++ [s.1])++l.map (·.1),(pre++ [s])++l):=by simp
  rw [er]
  by_cases hc:s.1.2.1 = h
  ·have ed:dEv t ax ay tm c (s::l) h w all true = numEv 48 false (s.1.1 - w)++(shEv t ax ay tm c all s++dEv t ax ay tm c l h s.1.1 (all++ [s.1]) true):=by
    conv=>lhs; unfold dEv
    rw [if_pos ⟨rfl,hc⟩]
    simp only [List.append_assoc]
   rw [ed]
   rw [hc] at ha2
   exact cls_one D (l:=l) hA q q0 hc w0 w1 q0 (cls_fol l (pre++ [s]) (all++ [s.1]) h s.1.1 f1 f2 (hA.snoc q.1) hs q0 q0 ha2 h0 h1 q0 q0 q0 hf2)
  ·obtain ⟨f2,rfl⟩:∃ k,f2 = k + 1:=⟨f2 - 1,by omega⟩
   have ed:dEv t ax ay tm c (s::l) h w all true = numEv 48 true 0++(numEv 0 false (s.1.2.1 - h)++(numEv 48 false (s.1.1 - 0)++(shEv t ax ay tm c all s++dEv t ax ay tm c l s.1.2.1 s.1.1 (all++ [s.1]) true))):=by
    conv=>lhs; unfold dEv
    rw [if_neg (fun k=>hc k.2),if_pos rfl,Int.sub_zero]
    simp only [List.append_assoc]
   rw [ed]
   conv=>unfold clsD
   rw [bind_assoc]
   refine fol_bind (a:=(true,0)) _ (fol_num (fun _=>rfl) q0 q0) ?_
   dsimp only
   rw [if_pos rfl,if_neg (by simp)]
   simp only [Dec.bind]
   unfold dicD
   rw [if_pos q0]
   refine fol_bind (a:=s.1.2.1) _ (fol_within q0 q0 q0 q0) ?_
   exact cls_one D (l:=l) hA q q0 rfl q0 q0 q0 (cls_fol l (pre++ [s]) (all++ [s.1]) s.1.2.1 s.1.1 61 f2 (hA.snoc q.1) hs q0 q0 ha2 q0 q0 q0 q0 q0 q0)
theorem dic_fol {l:List Shp} {old:List Bmp} (hA:AllOk old) (hs:ShsOk l old) (hla:old.length + l.length≤c) (ha:Asc 0 l):
  Fol (dicD t ax ay tm c (l.length:Int) 41 0 old []) (dEv t ax ay tm c l 0 0 old false) (old++l.map (·.1),l):=by
 have hdn:=D.n
 cases l with
 | nil=>
  rw [dicD_end (by simp)]
  exact ⟨rfl,by simp⟩
 | cons s l=>
  obtain ⟨q,hs⟩:=hs
  obtain ⟨ha1,ha2⟩:=ha
  rw [List.length_cons] at hla
  obtain ⟨p,p0,p1,p2,p3⟩:=q.1.pix
  have hsn:(old++ [s.1]).length = old.length + 1:=by simp
  have hlc:((s::l).length:Int) = (l.length:Int) + 1:=by simp
  have er:(old++(s::l).map (·.1),s::l) = ((old++ [s.1])++l.map (·.1),([]++ [s])++l):=by simp
  rw [er]
  have ed:dEv t ax ay tm c (s::l) 0 0 old false = numEv 0 false (s.1.2.1 - 0)++(numEv 48 false (s.1.1 - 0)++(shEv t ax ay tm c old s++dEv t ax ay tm c l s.1.2.1 s.1.1 (old++ [s.1]) true)):=by
   conv=>lhs; unfold dEv
   rw [if_neg (fun k=>by cases k.1),if_neg (by simp),Int.sub_zero,Int.sub_zero]
   simp only [List.append_assoc,List.nil_append]
  rw [ed]
  unfold dicD
  rw [if_pos (by simp)]
  refine fol_bind (a:=s.1.2.1) _ (fol_within q0 q0 q0 q0) ?_
  exact cls_one D (l:=l) hA q q0 rfl q0 q0 (by simp) (cls_fol D l ([]++ [s]) (old++ [s.1]) s.1.2.1 s.1.1 61 40 (hA.snoc q.1) hs q0 (by rw [hlc]; simp; omega) ha2 q0 q0 q0 q0 q0 q0)
end
theorem rl_take (v:Bool):∀ l:List Bool,List.replicate (rl v l) v++l.drop (rl v l) = l
 | []=>rfl
 | b::l=>by
  rw [rl_cons]
  by_cases hb:b = v
  ·rw [if_pos hb,List.replicate_succ,List.drop_succ_cons,List.cons_append,rl_take v l,hb]
  ·rw [if_neg hb]
   rfl
theorem flg_fol {total:Int} (ht:total≤1000):∀ (f:Nat) (v:Bool) (out l:List Bool),(out.length:Int) + (l.length:Int) = total→(l = []∨l.getD 0 false = v∨(v = false∧out = []))→l.length + 1 + (if v = false∧out = [] then 1 else 0)≤f→
  Fol (flgD total f v out) (if l = [] then [] else flEv l v 0) (out++l)
 | 0,v,out,l,hl,hv,hf=>by omega
 | f + 1,v,out,l,hl,hv,hf=>by
  unfold flgD
  by_cases hn:l = []
  ·subst hn
   rw [if_pos rfl,if_neg (by simp only [List.length_nil] at hl; omega)]
   exact ⟨rfl,by simp⟩
  have hpos:0 < l.length:=List.length_pos_iff.2 hn
  have hle:=rl_le v l
  rw [if_neg hn,if_pos q0,flEv_run l v 0,Nat.zero_add]
  have h1:l.getD 0 false = v→1≤rl v l:=fun e=>by
   cases l with
   | nil=>exact absurd rfl hn
   | cons a l=>
    have:a = v:=e
    rw [rl_cons,if_pos this]
    omega
  have hlow:(if v = false∧out = [] then (0:Int) else 1)≤(rl v l:Int):=by
   by_cases h3:v = false∧out = []
   ·rw [if_pos h3]
    omega
   ·rw [if_neg h3]
    have:=h1 ((hv.resolve_left hn).resolve_right h3)
    omega
  have hw:=fol_within (base:=192) (add:=0) (low:=if v = false∧out = [] then (0:Int) else 1) (high:=total - (out.length:Int)) (v:=(rl v l:Int)) q0 q0 hlow q0
  rw [Int.sub_zero] at hw
  refine fol_bind (a:=(rl v l:Int)) _ hw ?_
  rw [Int.toNat_natCast]
  have hdl:(l.drop (rl v l)).length = l.length - rl v l:=List.length_drop
  have ih:=flg_fol ht f (!v) (out++List.replicate (rl v l) v) (l.drop (rl v l)) (by rw [List.length_append,List.length_replicate,hdl]; omega) (by
   by_cases hr:rl v l < l.length
   ·right
    left
    have:=bool_ne (rl_end v l hr)
    rw [List.getD_eq_getElem?_getD] at this ⊢
    rw [List.getElem?_drop,Nat.add_zero]
    exact this
   ·left
    exact List.drop_of_length_le q0) (by
   rw [hdl]
   by_cases h3:v = false∧out = []
   ·rw [if_pos h3] at hf
    rw [if_neg (fun q=>by rw [h3.1] at q; exact absurd q.1 (by simp))]
    omega
   ·rw [if_neg h3] at hf
    have:=h1 ((hv.resolve_left hn).resolve_right h3)
    rw [if_neg (fun q=>by
     have q2:=congrArg List.length q.2
     rw [List.length_append,List.length_replicate,List.length_nil] at q2
     omega)]
    omega)
  rw [List.append_assoc,rl_take] at ih
  exact ih
section
variable {t ax ay kd tm kk:Int} {ty:Bool} {st:List Int} {old:List Bmp} {l:List Sh} {ex:List Bool}
theorem asc_of {L:List Sh} (hr:rsErr old L = 0):∀ (d k:Nat) (h:Int),k + d = L.length→(k < L.length→h≤(L.getD k dS).1.2.1)→Asc h (L.drop k)
 | 0,k,h,hk,hh=>by
  rw [List.drop_of_length_le q0]
  exact trivial
 | d + 1,k,h,hk,hh=>by
  obtain ⟨r1,r2,r3⟩:=rs_parts hr
  have hlt:k < L.length:=by omega
  have e1:L.drop k = L.getD k dS::L.drop (k + 1):=by
   rw [List.drop_eq_getElem_cons hlt,List.getD_eq_getElem?_getD,List.getElem?_eq_getElem hlt,Option.getD_some]
  rw [e1]
  refine ⟨hh hlt,asc_of hr d (k + 1) _ q0 (fun h2=> ?_)⟩
  obtain ⟨a1,a2,a3⟩:=okAt_get (r2 (k + 1) h2)
  have:=a3.resolve_left q0
  rwa [Nat.add_sub_cancel] at this
theorem both_fol (D:DE t ax ay kd tm ex.length) (hA:AllOk old) (hs:ShsOk l old) (hx:ex.length = old.length + l.length) (ha:Asc 0 l):
  Fol (bothD t ax ay tm ex.length (l.length:Int) old) (evsD t ax ay tm old l ex) (l,ex):=by
 unfold bothD evsD
 refine fol_bind (a:=(old++l.map (·.1),l)) _ (dic_fol D hA hs q0 ha) ?_
 have hdn:=D.n
 have:=flg_fol (total:=(ex.length:Int)) q0 62 false [] ex (by simp) (.inr (.inr ⟨rfl,rfl⟩)) (by rw [if_pos ⟨rfl,rfl⟩]; omega)
 rw [List.nil_append] at this
 unfold flagEv
 rw [← List.append_nil (if ex = [] then [] else flEv ex false 0)]
 exact fol_bind (a:=ex) _ this ⟨rfl,rfl⟩
theorem round (he:encE t ax ay ty kd tm kk st old l ex = 0) (hzo:∀ b ∈ old,∀ v ∈ b.2.2,0≤v) (hzl:∀ s ∈ l,∀ v ∈ s.1.2.2,0≤v):
  decR t ax ay ty kd tm kk st old (l.length:Int) (encR t ax ay ty kd tm kk st old l ex).2.2.1 = (kd,0,l,ex,(encR t ax ay ty kd tm kk st old l ex).2.2.2):=by
 have he':=he
 unfold encE at he'
 by_cases hb:bgErr t ax ay ty kd tm kk st old = 0
 rotate_left
 ·rw [if_neg hb] at he'
  exact absurd he' hb
 rw [if_pos hb] at he'
 by_cases hr:rsErr old l = 0
 rotate_left
 ·rw [if_neg hr] at he'
  exact absurd he' hr
 rw [if_pos hr] at he'
 by_cases hx:ex.length = old.length + l.length
 rotate_left
 ·rw [if_neg hx] at he'
  omega
 obtain ⟨r1,r2,r3⟩:=rs_parts hr
 obtain ⟨b1,b2,b3⟩:=bg_parts hb
 have D:=de_of (n:=ex.length) b1 q0
 have hA:=allok_of b3 hzo
 have hs:=shs_all hr hzl
 have ha:Asc 0 l:=by
  have:=asc_of hr l.length 0 0 q0 (fun h=>by
   have hm:l.getD 0 dS ∈ l:=getD_mem h dS
   have:=(shp_rg (List.all_eq_true.1 r1 _ hm)).2.2.1
   omega)
  simpa using this
 obtain ⟨ok,hN,hn⟩:=x0_ok (ex:=ex) D b2
 obtain ⟨ev1,ev2⟩:=evsD_ok D hN hA hs hx
 unfold encR decR
 rw [if_pos he,if_pos hb,if_pos q0]
 have ec:old.length + (l.length:Int).toNat = ex.length:=by omega
 rw [ec]
 have hf:=fol_run ok ev1 0 (bothD t ax ay tm ex.length (l.length:Int) old) (L:=[]) (F:=evsD t ax ay tm old l ex) ⟨[],by simp⟩ (both_fol D hA hs hx ha)
 have e1:Dc.codeOf kd (x0 t tm ex.length st) (evsD t ax ay tm old l ex) 0 = (runD t ax ay kd tm st old l ex).2++endB (runD t ax ay kd tm st old l ex).1.lo (runD t ax ay kd tm st old l ex).1.hi:=by
  unfold Dc.codeOf
  rw [List.replicate_zero,List.append_nil]
  rfl
 rw [e1] at hf
 have hf:(bothD t ax ay tm ex.length (l.length:Int) old).run kd ((runD t ax ay kd tm st old l ex).2++endB (runD t ax ay kd tm st old l ex).1.lo (runD t ax ay kd tm st old l ex).1.hi) ⟨true,x0 t tm ex.length st,0⟩ = _:=hf
 dsimp only
 rw [hf]
 rfl
end
end Go.Proofs.YtohnjbmiaegofaaGreat.Di
set_option maxHeartbeats 1000000
namespace Go.Proofs.YtohnjbmiaegofaaGreat.Di
open Go Ev Bm Co Gen Dc Rf
theorem code_ok {t ax ay kd tm kk:Int} {ty:Bool} {st:List Int} {old:List Bmp} {l:List Sh} {ex:List Bool} (he:encE t ax ay ty kd tm kk st old l ex = 0) (hzo:∀ b ∈ old,∀ v ∈ b.2.2,0≤v) (hzl:∀ s ∈ l,∀ v ∈ s.1.2.2,0≤v):
  Bytes (encR t ax ay ty kd tm kk st old l ex).2.2.1∧(encR t ax ay ty kd tm kk st old l ex).2.2.1.length≤1000000∧vM kd (encR t ax ay ty kd tm kk st old l ex).2.2.2 = true∧((encR t ax ay ty kd tm kk st old l ex).2.2.2.length:Int) = nk t tm:=by
 have he':=he
 unfold encE at he'
 by_cases hb:bgErr t ax ay ty kd tm kk st old = 0
 rotate_left
 ·rw [if_neg hb] at he'
  exact absurd he' hb
 rw [if_pos hb] at he'
 by_cases hr:rsErr old l = 0
 rotate_left
 ·rw [if_neg hr] at he'
  exact absurd he' hr
 rw [if_pos hr] at he'
 by_cases hx:ex.length = old.length + l.length
 rotate_left
 ·rw [if_neg hx] at he'
  omega
 obtain ⟨r1,r2,r3⟩:=rs_parts hr
 obtain ⟨b1,b2,b3⟩:=bg_parts hb
 have D:=de_of (n:=ex.length) b1 q0
 have hA:=allok_of b3 hzo
 have hs:=shs_all hr hzl
 obtain ⟨ok,hN,hn⟩:=x0_ok (ex:=ex) D b2
 obtain ⟨ev1,ev2⟩:=evsD_ok D hN hA hs hx
 obtain ⟨e1,e2,e3,e4,e5,e6,e7⟩:=lay_rg t tm D.n
 unfold encR
 rw [if_pos he]
 have hrun:=run_ok (evsD t ax ay tm old l ex) (out:=[]) ok ev1
 have hol:=run_len_le (evsD t ax ay tm old l ex) (kd:=kd) (x:=x0 t tm ex.length st) (out:=[])
 have hby:=run_byte (evsD t ax ay tm old l ex) (out:=[]) ok ev1 (fun v hv=>by cases hv)
 have eR2:run kd (x0 t tm ex.length st) [] (evsD t ax ay tm old l ex) = runD t ax ay kd tm st old l ex:=rfl
 rw [eR2] at hrun hol hby
 dsimp only
 generalize runD t ax ay kd tm st old l ex = R at *
 have hel:=endB_len R.1.lo R.1.hi
 refine ⟨fun v hv=> ?_, ?_, ?_, ?_⟩
 ·rcases List.mem_append.1 hv with hv | hv
  ·exact hby v hv
  ·exact endB_byte hrun.1.r v hv
 ·rw [List.length_append]
  rw [List.length_nil] at hol
  omega
 ·unfold vM
  simp only [Bool.and_eq_true,decide_eq_true_eq,List.all_eq_true]
  refine ⟨⟨D.kk,by rw [List.length_drop]; omega⟩,fun s hs=>hrun.1.s s (List.mem_of_mem_drop hs)⟩
 ·rw [List.length_drop]
  unfold nk
  omega
theorem same_sh {fl:Nat} (hfl:9223372036854775808≤fl) {l:List Sh} (hl:l.length≤1000000000000000) {K:Bool→OA}:aV fl l l K = K true:=by
 unfold aV sX DM
 rw [cond_f (by simp)]
 refine iter_seq (step:=iK fl) (fun i:Nat=>(l,l,(i:Int))) l.length rfl (fun i hi c=> ?_) (fun c=> ?_) q0
 ·simp only [iK,ou,dN]
  rw [dec_t q0,dec_t q0,dec_t q0,cond_f (by simp),dec_t q0,dec_t q0,cond_t (by simp),cond_t (by simp),cond_f (by simp),wrap64 q0 q0]
  rfl
 ·simp only [iK,ou]
  rw [dec_f q0]
theorem enc_fine {t ax ay kd tm kk:Int} {ty:Bool} {st:List Int} {old:List Bmp} {l:List Sh} {ex:List Bool} (he:encE t ax ay ty kd tm kk st old l ex = 0):encR t ax ay ty kd tm kk st old l ex = (kd,0,(encR t ax ay ty kd tm kk st old l ex).2.2.1,(encR t ax ay ty kd tm kk st old l ex).2.2.2):=by
 unfold encR
 rw [if_pos he]
end Go.Proofs.YtohnjbmiaegofaaGreat.Di
namespace Go.Proofs.YtohnjbmiaegofaaGreat.So
open Go Ev
section
variable {α:Type} (key:α→Int)
def Srt (l:List α):Prop:=l.Pairwise fun x y=>key x≤key y
def Stb (c d:List α):Prop:=c.Perm d∧∀ v:Int,c.filter (fun x=>key x==v) = d.filter (fun x=>key x==v)
end
section
variable {α:Type} {key:α→Int}
theorem Stb.refl (l:List α):Stb key l l:=⟨List.Perm.refl l,fun v=>rfl⟩
theorem Stb.trans {a b c:List α} (h:Stb key a b) (k:Stb key b c):Stb key a c:=⟨h.1.trans k.1,fun v=>(h.2 v).trans (k.2 v)⟩
theorem Stb.symm {a b:List α} (h:Stb key a b):Stb key b a:=⟨h.1.symm,fun v=>(h.2 v).symm⟩
theorem Stb.app {a b c d:List α} (h:Stb key a b) (k:Stb key c d):Stb key (a++c) (b++d):=⟨h.1.append k.1,fun v=>by rw [List.filter_append,List.filter_append,h.2 v,k.2 v]⟩
theorem Stb.len {a b:List α} (h:Stb key a b):a.length = b.length:=h.1.length_eq
theorem Stb.swap {x y:List α} (h:∀ u ∈ x,∀ w ∈ y,key u ≠ key w):Stb key (x++y) (y++x):=by
 refine ⟨List.perm_append_comm,fun v=> ?_⟩
 rw [List.filter_append,List.filter_append]
 by_cases hx:∃ u ∈ x,key u = v
 ·obtain ⟨u,hu,rfl⟩:=hx
  have:y.filter (fun z=>key z==key u) = []:=by
   rw [List.filter_eq_nil_iff]
   intro w hw
   have:=h u hu w hw
   simp
   exact fun e=>this e.symm
  rw [this,List.append_nil,List.nil_append]
 ·have:x.filter (fun z=>key z==v) = []:=by
   rw [List.filter_eq_nil_iff]
   intro w hw
   simp
   exact fun e=>hx ⟨w,hw,e⟩
  rw [this,List.append_nil,List.nil_append]
theorem srt_app {a b:List α}:Srt key (a++b)↔Srt key a∧Srt key b∧∀ x ∈ a,∀ y ∈ b,key x≤key y:=by
 unfold Srt
 exact List.pairwise_append
theorem srt_single (x:α):Srt key [x]:=List.pairwise_singleton _ _
theorem srt_cons {x:α} {l:List α}:Srt key (x::l)↔(∀ y ∈ l,key x≤key y)∧Srt key l:=List.pairwise_cons
theorem srt_unique:∀ {c d:List α},Srt key c→Srt key d→Stb key c d→c = d
 | [],d,_,_,h=>by
  have:=h.len
  exact (List.eq_nil_of_length_eq_zero (by simpa using this.symm)).symm
 | x::c,[],_,_,h=>by
  have:=h.len
  simp at this
 | x::c,y::d,hc,hd,h=>by
  obtain ⟨h1,h2⟩:=srt_cons.1 hc
  obtain ⟨h3,h4⟩:=srt_cons.1 hd
  have hxy:key x = key y:=by
   have mx:x ∈ y::d:=h.1.mem_iff.1 (by simp)
   have my:y ∈ x::c:=h.1.mem_iff.2 (by simp)
   have a1:key y≤key x:=by
    rcases List.mem_cons.1 mx with rfl | hm
    ·exact Int.le_refl _
    ·exact h3 x hm
   have a2:key x≤key y:=by
    rcases List.mem_cons.1 my with rfl | hm
    ·exact Int.le_refl _
    ·exact h1 y hm
   omega
  have e:=h.2 (key x)
  rw [List.filter_cons_of_pos (by simp),List.filter_cons_of_pos (by simp [hxy])] at e
  injection e with e1 e2
  subst e1
  congr 1
  refine srt_unique h2 h4 ⟨h.1.cons_inv,fun v=> ?_⟩
  by_cases hv:key x = v
  ·subst hv
   exact e2
  ·have:=h.2 v
   rw [List.filter_cons_of_neg (by simpa using hv),List.filter_cons_of_neg (by simpa using hv)] at this
   exact this
theorem srt_get {l:List α} (h:Srt key l) (d:α) {i j:Nat} (hij:i≤j) (hj:j < l.length):key (l.getD i d)≤key (l.getD j d):=by
 rw [getD_lt q0,getD_lt hj]
 rcases Nat.lt_or_ge i j with h' | h'
 ·exact List.pairwise_iff_getElem.1 h i j q0 hj h'
 ·have:i = j:=by omega
  subst this
  exact Int.le_refl _
theorem insert_front {a b:List α} {x:α} (ha:Srt key (a++b)) (h1:∀ y ∈ a,key y≤key x) (h2:∀ y ∈ b,key x < key y):Srt key (a++(x::b))∧Stb key (a++(x::b)) ((a++b)++ [x]):=by
 obtain ⟨p1,p2,p3⟩:=srt_app.1 ha
 refine ⟨srt_app.2 ⟨p1,srt_cons.2 ⟨fun y hy=>Int.le_of_lt (h2 y hy),p2⟩,fun y hy z hz=> ?_⟩, ?_⟩
 ·rcases List.mem_cons.1 hz with rfl | hz
  ·exact h1 y hy
  ·exact p3 y hy z hz
 ·rw [List.append_assoc]
  refine (Stb.refl a).app ?_
  have:=Stb.swap (key:=key) (x:=[x]) (y:=b) fun u hu w hw=>by
   rw [List.mem_singleton] at hu
   subst hu
   have:=h2 w hw
   omega
  exact this
theorem insert_back {a b:List α} {x:α} (ha:Srt key (a++b)) (h1:∀ y ∈ a,key y < key x) (h2:∀ y ∈ b,key x≤key y):Srt key (a++(x::b))∧Stb key (a++(x::b)) (x::(a++b)):=by
 obtain ⟨p1,p2,p3⟩:=srt_app.1 ha
 refine ⟨srt_app.2 ⟨p1,srt_cons.2 ⟨fun y hy=>h2 y hy,p2⟩,fun y hy z hz=> ?_⟩, ?_⟩
 ·rcases List.mem_cons.1 hz with rfl | hz
  ·exact Int.le_of_lt (h1 y hy)
  ·exact p3 y hy z hz
 ·have:=Stb.swap (key:=key) (x:=a) (y:=[x]) fun u hu w hw=>by
   rw [List.mem_singleton] at hw
   subst hw
   have:=h1 u hu
   omega
  have:=this.app (Stb.refl b)
  simpa using this
theorem halves {a1 x y b2:List α} (hA:Srt key (a1++x)) (hB:Srt key (y++b2)) (hxy:∀ u ∈ y,∀ w ∈ x,key u < key w) (hab:∀ u ∈ a1,∀ w ∈ b2,key u≤key w) {c d:List α} (hc:Srt key c) (hd:Srt key d) (sc:Stb key c (a1++y)) (sd:Stb key d (x++b2)):
  Srt key (c++d)∧Stb key (c++d) ((a1++x)++(y++b2)):=by
 obtain ⟨p1,p2,p3⟩:=srt_app.1 hA
 obtain ⟨q1,q2,q3⟩:=srt_app.1 hB
 refine ⟨srt_app.2 ⟨hc,hd,fun u hu w hw=> ?_⟩,(sc.app sd).trans ?_⟩
 ·have hu:=sc.1.mem_iff.1 hu
  have hw:=sd.1.mem_iff.1 hw
  rcases List.mem_append.1 hu with hu | hu <;> rcases List.mem_append.1 hw with hw | hw
  ·exact p3 u hu w hw
  ·exact hab u hu w hw
  ·exact Int.le_of_lt (hxy u hu w hw)
  ·exact q3 u hu w hw
 ·have:Stb key (y++x) (x++y):=Stb.swap fun u hu w hw=>by
   have:=hxy u hu w hw
   omega
  have:=(Stb.refl (key:=key) a1).app (this.app (Stb.refl b2))
  simpa only [List.append_assoc] using this
end
open Go Ev
theorem stb_of_filter {α:Type} [DecidableEq α] {key:α→Int} {c d:List α} (h:∀ v:Int,c.filter (fun x=>key x==v) = d.filter (fun x=>key x==v)):Stb key c d:=by
 refine ⟨List.perm_iff_count.2 fun x=> ?_,h⟩
 have e:∀ l:List α,l.count x = (l.filter (fun y=>key y==key x)).count x:=fun l=>by
  rw [List.count_filter (by simp)]
 rw [e c,e d,h]
section
variable (n:Nat) (H W:Nat→Int)
def cell (h w:Int):List Nat:=(List.range n).filter fun i=>decide (H i = h∧W i = w)
def row1 (h:Int) (m:Nat):List Nat:=(List.range m).flatMap fun w:Nat=>cell n H W h ((w:Int) + 1)
def ord (m k:Nat):List Nat:=(List.range k).flatMap fun h:Nat=>row1 n H W ((h:Int) + 1) m
def okey (i:Nat):Int:=H i * 64 + W i
end
section
variable {n:Nat} {H W:Nat→Int}
theorem cell_mem {h w:Int} {i:Nat} (hi:i ∈ cell n H W h w):H i = h∧W i = w:=by
 have:=(List.mem_filter.1 hi).2
 exact of_decide_eq_true this
theorem row1_mem {h:Int} {m i:Nat} (hi:i ∈ row1 n H W h m):H i = h∧∃ w:Nat,w < m∧W i = (w:Int) + 1:=by
 obtain ⟨w,hw,h2⟩:=List.mem_flatMap.1 hi
 obtain ⟨a,b⟩:=cell_mem h2
 exact ⟨a,w,List.mem_range.1 hw,b⟩
theorem ord_srt:Srt (okey H W) (ord n H W 40 40):=by
 unfold Srt ord
 refine List.pairwise_flatMap.2 ⟨fun h hh=> ?_, ?_⟩
 ·unfold row1
  refine List.pairwise_flatMap.2 ⟨fun w hw=> ?_, ?_⟩
  ·refine List.Pairwise.imp_of_mem (R:=fun _ _=>True) (fun {a b} ha hb _=> ?_) (List.pairwise_of_forall (fun _ _=>trivial))
   obtain ⟨a1,a2⟩:=cell_mem ha
   obtain ⟨b1,b2⟩:=cell_mem hb
   unfold okey
   rw [a1,a2,b1,b2]
   exact Int.le_refl _
  ·refine (List.pairwise_lt_range (n:=40)).imp_of_mem (fun {a b} ha hb hab x hx y hy=> ?_)
   obtain ⟨x1,x2⟩:=cell_mem hx
   obtain ⟨y1,y2⟩:=cell_mem hy
   unfold okey
   rw [x1,x2,y1,y2]
   omega
 ·refine (List.pairwise_lt_range (n:=40)).imp_of_mem (fun {a b} ha hb hab x hx y hy=> ?_)
  obtain ⟨x1,w,w1,x2⟩:=row1_mem hx
  obtain ⟨y1,u,u1,y2⟩:=row1_mem hy
  unfold okey
  rw [x1,x2,y1,y2]
  omega
theorem flatMap_one {α β:Type} {l:List α} {f:α→List β} (hd:l.Nodup) {a:α} (ha:a ∈ l) (h0:∀ b ∈ l,b ≠ a→f b = []):l.flatMap f = f a:=by
 induction l with
 | nil=>cases ha
 | cons x l ih=>
  rw [List.flatMap_cons]
  obtain ⟨n1,n2⟩:=List.nodup_cons.1 hd
  rcases List.mem_cons.1 ha with rfl | ha'
  ·have:l.flatMap f = []:=by
    rw [List.flatMap_eq_nil_iff]
    intro b hb
    exact h0 b (List.mem_cons_of_mem _ hb) (fun e=>n1 (e ▸ hb))
   rw [this,List.append_nil]
  ·have hx:f x = []:=h0 x List.mem_cons_self (fun e=>n1 (e ▸ ha'))
   rw [hx,List.nil_append]
   exact ih n2 ha' fun b hb=>h0 b (List.mem_cons_of_mem _ hb)
theorem ord_stb (hr:∀ i,i < n→1≤H i∧H i≤40∧1≤W i∧W i≤40):Stb (okey H W) (ord n H W 40 40) (List.range n):=by
 refine stb_of_filter fun v=> ?_
 unfold ord row1
 rw [List.filter_flatMap]
 simp only [List.filter_flatMap]
 by_cases hc:∃ h w:Nat,h < 40∧w < 40∧v = ((h:Int) + 1) * 64 + ((w:Int) + 1)
 ·obtain ⟨h,w,h1,w1,rfl⟩:=hc
  rw [flatMap_one List.nodup_range (List.mem_range.2 h1) (a:=h)]
  ·rw [flatMap_one List.nodup_range (List.mem_range.2 w1) (a:=w)]
   ·unfold cell
    rw [List.filter_filter]
    apply List.filter_congr
    intro i hi
    have:=hr i (List.mem_range.1 hi)
    unfold okey
    rw [Bool.eq_iff_iff]
    simp only [Bool.and_eq_true,beq_iff_eq,decide_eq_true_eq]
    omega
   ·intro u hu hne
    rw [List.filter_eq_nil_iff]
    intro i hi
    obtain ⟨a,b⟩:=cell_mem hi
    have:=List.mem_range.1 hu
    unfold okey
    rw [a,b]
    simp only [beq_iff_eq]
    omega
  ·intro u hu hne
   rw [List.flatMap_eq_nil_iff]
   intro z hz
   rw [List.filter_eq_nil_iff]
   intro i hi
   obtain ⟨a,b⟩:=cell_mem hi
   have:=List.mem_range.1 hu
   have:=List.mem_range.1 hz
   unfold okey
   rw [a,b]
   simp only [beq_iff_eq]
   omega
 ·have e1:(List.range n).filter (fun x=>okey H W x==v) = []:=by
   rw [List.filter_eq_nil_iff]
   intro i hi
   have h:=hr i (List.mem_range.1 hi)
   unfold okey
   simp only [beq_iff_eq]
   intro e
   exact hc ⟨(H i - 1).toNat,(W i - 1).toNat,by omega,by omega,by omega⟩
  rw [e1,List.flatMap_eq_nil_iff]
  intro h hh
  rw [List.flatMap_eq_nil_iff]
  intro w hw
  rw [List.filter_eq_nil_iff]
  intro i hi
  obtain ⟨a,b⟩:=cell_mem hi
  have h1:=List.mem_range.1 hh
  have w1:=List.mem_range.1 hw
  unfold okey
  rw [a,b]
  simp only [beq_iff_eq]
  intro e
  exact hc ⟨h,w,h1,w1,e.symm⟩
end
open Go Ev
section
variable {α β:Type} {f:α→β} {key:β→Int}
theorem srt_map {l:List α} (h:Srt (fun a=>key (f a)) l):Srt key (l.map f):=List.pairwise_map.2 h
theorem stb_map {c d:List α} (h:Stb (fun a=>key (f a)) c d):Stb key (c.map f) (d.map f):=by
 refine ⟨h.1.map f,fun v=> ?_⟩
 rw [List.filter_map,List.filter_map]
 exact congrArg _ (h.2 v)
end
def ints (n:Nat):List Int:=(List.range n).map fun i:Nat=>(i:Int)
theorem ints_succ (n:Nat):ints (n + 1) = ints n++ [(n:Int)]:=by
 unfold ints
 rw [List.range_succ,List.map_append]
 rfl
theorem ints_len (n:Nat):(ints n).length = n:=by simp [ints]
theorem ints_mem {n:Nat} {x:Int} (h:x ∈ ints n):0≤x∧x < n:=by
 obtain ⟨i,hi,rfl⟩:=List.mem_map.1 h
 have:=List.mem_range.1 hi
 omega
section
variable {n:Nat} {H W:Nat→Int}
def ordI (n:Nat) (H W:Nat→Int) (m k:Nat):List Int:=(ord n H W m k).map fun i:Nat=>(i:Int)
def keyI (H W:Nat→Int) (x:Int):Int:=H x.toNat * 64 + W x.toNat
theorem ordI_srt:Srt (keyI H W) (ordI n H W 40 40):=srt_map (key:=keyI H W) (f:=fun i:Nat=>(i:Int)) ord_srt
theorem ordI_stb (hr:∀ i,i < n→1≤H i∧H i≤40∧1≤W i∧W i≤40):Stb (keyI H W) (ordI n H W 40 40) (ints n):=stb_map (key:=keyI H W) (f:=fun i:Nat=>(i:Int)) (ord_stb hr)
theorem ordI_eq (hr:∀ i,i < n→1≤H i∧H i≤40∧1≤W i∧W i≤40) {C:List Int} (h1:Srt (keyI H W) C) (h2:Stb (keyI H W) C (ints n)):C = ordI n H W 40 40:=srt_unique h1 ordI_srt (h2.trans (ordI_stb hr).symm)
end
section
variable (H W:Nat→Int)
end
end Go.Proofs.YtohnjbmiaegofaaGreat.So
namespace Go.Proofs.YtohnjbmiaegofaaGreat.Sy
open Go Ev So
theorem half_ok {i j:Nat} (h:i + j≤40000000000000):IntKind.i64.wrap (ishr .u64 (IntKind.u64.wrap (IntKind.i64.wrap ((i:Int) + (j:Int)))) 1) = (((i + j) / 2:Nat):Int):=by
 rw [w6 (x:=(i:Int) + (j:Int))]
 have e:IntKind.u64.wrap ((i:Int) + (j:Int)) = (i:Int) + (j:Int):=by
  simp [IntKind.wrap,IntKind.min,IntKind.max,IntKind.signed,IntKind.bits]
  omega
 rw [e]
 have e2:ishr .u64 ((i:Int) + (j:Int)) 1 = (((i + j) / 2:Nat):Int):=by
  unfold ishr
  have e3:(2:Int) ^ min (Int.toNat 1) IntKind.u64.bits = 2:=by decide
  rw [e3,Int.fdiv_eq_ediv_of_nonneg _ q0]
  omega
 rw [e2,wrap64 q0 q0]
section
variable {α:Type}
theorem get_mid (P Q:List α) (x d:α):(P++x::Q).getD P.length d = x:=by simp
theorem get_mid2 (P M Q:List α) (x y d:α):(P++x::(M++y::Q)).getD (P.length + 1 + M.length) d = y:=by
 have:P++x::(M++y::Q) = (P++x::M)++y::Q:=by simp
 rw [this,show P.length + 1 + M.length = (P++x::M).length by simp; omega]
 exact get_mid _ _ _ _
theorem set_mid (P Q:List α) (x y:α):(P++x::Q).set P.length y = P++y::Q:=by simp
theorem swap_set (P M Q:List α) (x y:α):((P++x::(M++y::Q)).set P.length y).set (P.length + 1 + M.length) x = P++y::(M++x::Q):=by
 rw [set_mid]
 have:P++y::(M++y::Q) = (P++y::M)++y::Q:=by simp
 rw [this,show P.length + 1 + M.length = (P++y::M).length by simp; omega,set_mid]
 simp
theorem swap_set2 (P M Q:List α) (x y:α):((P++x::(M++y::Q)).set (P.length + 1 + M.length) x).set P.length y = P++y::(M++x::Q):=by
 have:P++x::(M++y::Q) = (P++x::M)++y::Q:=by simp
 rw [this,show P.length + 1 + M.length = (P++x::M).length by simp; omega,set_mid]
 rw [show (P++x::M)++x::Q = P++x::(M++x::Q) by simp,set_mid]
theorem two_get (P Q:List α) (x y d:α):(P++x::y::Q).getD (P.length + 1) d = y:=get_mid2 P [] Q x y d
theorem two_set (P Q:List α) (x y:α):((P++x::y::Q).set P.length y).set (P.length + 1) x = P++y::x::Q:=swap_set P [] Q x y
theorem two_set2 (P Q:List α) (x y:α):((P++x::y::Q).set (P.length + 1) x).set P.length y = P++y::x::Q:=swap_set2 P [] Q x y
theorem bs {V W:Type} {step:V→(V→OA)→(W→OA)→OA} {st:Nat→Nat→V} {fin:Nat→W} {p:Nat→Prop} [∀ t,Decidable (p t)] {lo hi:Nat} (hmono:∀ t u,lo≤t→t≤u→u < hi→p u→p t)
  (hstep:∀ i j c b,lo≤i→i < j→j≤hi→step (st i j) c b = if p ((i + j) / 2) then c (st ((i + j) / 2 + 1) j) else c (st i ((i + j) / 2))) (hend:∀ i c b,lo≤i→i≤hi→step (st i i) c b = b (fin i)):
  ∀ (n i j:Nat),j - i≤n→lo≤i→i≤j→j≤hi→(∀ t,lo≤t→t < i→p t)→(∀ t,j≤t→t < hi→¬ p t)→
  ∃ r,i≤r∧r≤j∧(∀ t,lo≤t→t < r→p t)∧(∀ t,r≤t→t < hi→¬ p t)∧∀ (f:Nat) (b:W→OA),n + 1≤f→iter step f (st i j) b = b (fin r):=by
 intro n
 induction n with
 | zero=>
  intro i j hn h1 h2 h3 h4 h5
  have:i = j:=by omega
  subst this
  refine ⟨i,by omega,by omega,h4,h5,fun f b hf=> ?_⟩
  obtain ⟨f,rfl⟩:∃ g,f = g + 1:=⟨f - 1,by omega⟩
  simp only [iter]
  exact hend i _ b h1 h3
 | succ n ih=>
  intro i j hn h1 h2 h3 h4 h5
  by_cases hij:i = j
  ·subst hij
   refine ⟨i,by omega,by omega,h4,h5,fun f b hf=> ?_⟩
   obtain ⟨f,rfl⟩:∃ g,f = g + 1:=⟨f - 1,by omega⟩
   simp only [iter]
   exact hend i _ b h1 h3
  ·by_cases hp:p ((i + j) / 2)
   ·obtain ⟨r,r1,r2,r3,r4,r5⟩:=ih ((i + j) / 2 + 1) j q0 q0 q0 h3 (fun t t1 t2=>hmono t ((i + j) / 2) t1 q0 q0 hp) h5
    refine ⟨r,by omega,r2,r3,r4,fun f b hf=> ?_⟩
    obtain ⟨f,rfl⟩:∃ g,f = g + 1:=⟨f - 1,by omega⟩
    simp only [iter]
    rw [hstep i j _ b h1 q0 h3,if_pos hp]
    exact r5 f b q0
   ·obtain ⟨r,r1,r2,r3,r4,r5⟩:=ih i ((i + j) / 2) q0 h1 q0 q0 h4 (fun t t1 t2 hpt=>hp (hmono _ t q0 t1 t2 hpt))
    refine ⟨r,r1,by omega,r3,r4,fun f b hf=> ?_⟩
    obtain ⟨f,rfl⟩:∃ g,f = g + 1:=⟨f - 1,by omega⟩
    simp only [iter]
    rw [hstep i j _ b h1 q0 h3,if_neg hp]
    exact r5 f b (by omega)
end
section
variable {fl:Nat} {bl:List (Int×(Int×(List Int)))}
theorem swap_loop:∀ (X Y P M Q:List Int) (i a b f:Nat),X.length = Y.length→a + i = P.length→b + i = P.length + X.length + M.length→(P++(X++(M++(Y++Q)))).length≤10000000000000→X.length + 1≤f→∀ kk,
  iter (fQ fl) f ((a:Int),(b:Int),((i + X.length:Nat):Int),(i:Int),P++(X++(M++(Y++Q))),bl) kk = kk (P++(Y++(M++(X++Q))),bl)
 | [],[],P,M,Q,i,a,b,f,h1,h2,h3,h4,h5,kk=>by
  obtain ⟨f,rfl⟩:∃ g,f = g + 1:=⟨f - 1,by omega⟩
  simp only [iter,fQ]
  rw [dec_f (by simp)]
 | x::X,[],P,M,Q,i,a,b,f,h1,h2,h3,h4,h5,kk=>by simp at h1
 | [],y::Y,P,M,Q,i,a,b,f,h1,h2,h3,h4,h5,kk=>by simp at h1
 | x::X,y::Y,P,M,Q,i,a,b,f,h1,h2,h3,h4,h5,kk=>by
  obtain ⟨f,rfl⟩:∃ g,f = g + 1:=⟨f - 1,by simp at h5; omega⟩
  simp only [List.length_cons] at h1 h3 h5
  have hdata:P++((x::X)++(M++((y::Y)++Q))) = P++x::((X++M)++y::(Y++Q)):=by simp
  rw [hdata] at h4 ⊢
  have hlen:=h4
  simp only [List.length_append,List.length_cons] at hlen
  have g1:(P++x::((X++M)++y::(Y++Q))).getD P.length 0 = x:=get_mid _ _ _ _
  have g2:(P++x::((X++M)++y::(Y++Q))).getD (P.length + 1 + (X++M).length) 0 = y:=get_mid2 _ _ _ _ _ _
  have g3:=swap_set P (X++M) (Y++Q) x y
  have ha:IntKind.i64.wrap ((a:Int) + (i:Int)) = ((P.length:Nat):Int):=by rw [wrap64 q0 q0]; omega
  have hb:IntKind.i64.wrap ((b:Int) + (i:Int)) = ((P.length + 1 + (X++M).length:Nat):Int):=by rw [wrap64 q0 q0]; simp only [List.length_append]; omega
  simp only [iter,fQ,both_same]
  simp only [ha,hb,Int.toNat_natCast,g1,g2,g3]
  rw [dec_t (by simp only [List.length_cons]; omega),dec_t (by simp only [List.length_append,List.length_cons]; omega),dec_t (by simp only [List.length_append,List.length_cons]; omega),dec_t (by simp only [List.length_append,List.length_cons]; omega),dec_t (by simp only [List.length_set,List.length_append,List.length_cons]; omega),w6 (x:=(i:Int) + 1)]
  have e:=swap_loop X Y (P++ [y]) (M++ [x]) Q (i + 1) a b f q0 (by simp; omega) (by simp; omega) (by simp only [List.length_append,List.length_cons,List.length_nil]; omega) q0 kk
  rw [show i + 1 + X.length = i + (x::X).length by simp only [List.length_cons]; omega] at e
  have e2:P++y::((X++M)++x::(Y++Q)) = (P++ [y])++(X++((M++ [x])++(Y++Q))):=by simp
  have e3:P++((y::Y)++(M++((x::X)++Q))) = (P++ [y])++(Y++((M++ [x])++(X++Q))):=by simp
  rw [e2,e3]
  exact e
theorem swap_ok (hfl:9223372036854775808≤fl) {X Y P M Q:List Int} (h1:X.length = Y.length) (h4:(P++(X++(M++(Y++Q)))).length≤10000000000000) {K}:
  dG fl (P.length:Int) ((P.length + X.length + M.length:Nat):Int) (X.length:Int) (P++(X++(M++(Y++Q)))) bl K = K (P++(Y++(M++(X++Q))),bl):=by
 have hlen:=h4
 simp only [List.length_append] at hlen
 unfold dG Ej
 have e:=swap_loop (fl:=fl) (bl:=bl) X Y P M Q 0 P.length (P.length + X.length + M.length) fl h1 q0 q0 h4 q0 fun v=>match v with | (b0_0,b0_1)=>K (b0_0,b0_1)
 rw [Nat.zero_add] at e
 exact e
theorem rot_loop (hfl:9223372036854775808≤fl):∀ (n:Nat) (X Y P Q:List Int),X.length + Y.length≤n→0 < X.length→0 < Y.length→(P++(X++(Y++Q))).length≤10000000000000→
  ∃ X1 Y1 P1 Q1:List Int,X1.length = Y1.length∧P1.length + X1.length = P.length + X.length∧P1++(Y1++(X1++Q1)) = P++(Y++(X++Q))∧(P1++(X1++(Y1++Q1))).length≤10000000000000∧
   ∀ f,n + 1≤f→∀ kk,iter (fg fl) f (((P.length + X.length:Nat):Int),(X.length:Int),(Y.length:Int),P++(X++(Y++Q)),bl) kk = kk (((P.length + X.length:Nat):Int),(X1.length:Int),P1++(X1++(Y1++Q1)),bl)
 | 0,X,Y,P,Q,h1,h2,h3,h4=>by omega
 | n + 1,X,Y,P,Q,h1,h2,h3,h4=>by
  have hlen:=h4
  simp only [List.length_append] at hlen
  by_cases hxy:X.length = Y.length
  ·refine ⟨X,Y,P,Q,hxy,rfl,rfl,h4,fun f hf kk=> ?_⟩
   obtain ⟨f,rfl⟩:∃ g,f = g + 1:=⟨f - 1,by omega⟩
   simp only [iter,fg,iQ]
   rw [cond_f (b:=(X.length:Int) != (Y.length:Int)) (by simp [hxy])]
  by_cases hgt:Y.length < X.length
  ·have hX:X = X.take Y.length++X.drop Y.length:=(List.take_append_drop _ _).symm
   generalize hX1:X.take Y.length = X1 at hX
   generalize hX2:X.drop Y.length = X2 at hX
   have l1:X1.length = Y.length:=by rw [← hX1,List.length_take]; omega
   have l2:X2.length = X.length - Y.length:=by rw [← hX2,List.length_drop]
   obtain ⟨A,B,P1,Q1,a1,a2,a3,a4,a5⟩:=rot_loop hfl n X2 X1 (P++Y) Q q0 q0 q0 (by simp only [List.length_append]; omega)
   refine ⟨A,B,P1,Q1,a1,by rw [a2,List.length_append]; omega,by rw [a3,hX]; simp,a4,fun f hf kk=> ?_⟩
   obtain ⟨f,rfl⟩:∃ g,f = g + 1:=⟨f - 1,by omega⟩
   have hs:=fun K=>swap_ok (K:=K) (bl:=bl) hfl (X:=X1) (Y:=Y) (P:=P) (M:=X2) (Q:=Q) l1 (by simp only [List.length_append]; omega)
   have hd:P++(X++(Y++Q)) = P++(X1++(X2++(Y++Q))):=by rw [hX]; simp
   have ea:((P.length:Nat):Int) = ((P.length + X.length:Nat):Int) - (X.length:Int):=by omega
   have eb:((P.length + X1.length + X2.length:Nat):Int) = ((P.length + X.length:Nat):Int):=by omega
   simp only [iter,fg,iQ]
   rw [cond_t (b:=(X.length:Int) != (Y.length:Int)) (by simp; omega),dec_t q0,w6 (x:=((P.length + X.length:Nat):Int) - (X.length:Int)),w6 (x:=(X.length:Int) - (Y.length:Int)),hd, ← ea]
   rw [eb,l1] at hs
   rw [hs]
   dsimp only
   have e:=a5 f q0 kk
   rw [show ((P++Y).length + X2.length:Nat) = P.length + X.length by rw [List.length_append]; omega,show ((X2.length:Nat):Int) = (X.length:Int) - (Y.length:Int) by omega,show (X1.length:Int) = (Y.length:Int) by omega,show (P++Y)++(X2++(X1++Q)) = P++(Y++(X2++(X1++Q))) by simp] at e
   exact e
  ·have hY:Y = Y.take (Y.length - X.length)++Y.drop (Y.length - X.length):=(List.take_append_drop _ _).symm
   generalize hY1:Y.take (Y.length - X.length) = Y1 at hY
   generalize hY2:Y.drop (Y.length - X.length) = Y2 at hY
   have l1:Y1.length = Y.length - X.length:=by rw [← hY1,List.length_take]; omega
   have l2:Y2.length = X.length:=by rw [← hY2,List.length_drop]; omega
   obtain ⟨A,B,P1,Q1,a1,a2,a3,a4,a5⟩:=rot_loop hfl n Y2 Y1 P (X++Q) q0 q0 q0 (by simp only [List.length_append]; omega)
   refine ⟨A,B,P1,Q1,a1,by rw [a2]; omega,by rw [a3,hY]; simp,a4,fun f hf kk=> ?_⟩
   obtain ⟨f,rfl⟩:∃ g,f = g + 1:=⟨f - 1,by omega⟩
   have hs:=fun K=>swap_ok (K:=K) (bl:=bl) hfl (X:=X) (Y:=Y2) (P:=P) (M:=Y1) (Q:=Q) q0 (by simp only [List.length_append]; omega)
   have hd:P++(X++(Y++Q)) = P++(X++(Y1++(Y2++Q))):=by rw [hY]; simp
   have ea:((P.length:Nat):Int) = ((P.length + X.length:Nat):Int) - (X.length:Int):=by omega
   have eb:((P.length + X.length + Y1.length:Nat):Int) = ((P.length + X.length:Nat):Int) + (Y.length:Int) - (X.length:Int):=by omega
   simp only [iter,fg,iQ]
   rw [cond_t (b:=(X.length:Int) != (Y.length:Int)) (by simp; omega),dec_f q0,w6 (x:=((P.length + X.length:Nat):Int) - (X.length:Int)),w6 (x:=((P.length + X.length:Nat):Int) + (Y.length:Int)),w6 (x:=((P.length + X.length:Nat):Int) + (Y.length:Int) - (X.length:Int)),w6 (x:=(Y.length:Int) - (X.length:Int)),hd, ← ea]
   rw [eb] at hs
   rw [hs]
   dsimp only
   have e:=a5 f q0 kk
   rw [show (P.length + Y2.length:Nat) = P.length + X.length by omega,show ((Y2.length:Nat):Int) = (X.length:Int) by omega,show (Y1.length:Int) = (Y.length:Int) - (X.length:Int) by omega] at e
   exact e
theorem rot_ok (hfl:9223372036854775808≤fl) {X Y P Q:List Int} (h2:0 < X.length) (h3:0 < Y.length) (h4:(P++(X++(Y++Q))).length≤10000000000000) {K}:
  bT fl (P.length:Int) ((P.length + X.length:Nat):Int) ((P.length + X.length + Y.length:Nat):Int) (P++(X++(Y++Q))) bl K = K (P++(Y++(X++Q)),bl):=by
 have hlen:=h4
 simp only [List.length_append] at hlen
 obtain ⟨X1,Y1,P1,Q1,a1,a2,a3,a4,a5⟩:=rot_loop (fl:=fl) (bl:=bl) hfl (X.length + Y.length) X Y P Q (Nat.le_refl _) h2 h3 h4
 unfold bT uc Cf
 rw [w6 (x:=((P.length + X.length:Nat):Int) - (P.length:Int)),w6 (x:=((P.length + X.length + Y.length:Nat):Int) - ((P.length + X.length:Nat):Int)),show ((P.length + X.length:Nat):Int) - (P.length:Int) = (X.length:Int) by omega,show ((P.length + X.length + Y.length:Nat):Int) - ((P.length + X.length:Nat):Int) = (Y.length:Int) by omega,a5 fl q0]
 dsimp only
 have hlen1:=a4
 simp only [List.length_append] at hlen1
 have hs:=swap_ok (K:=fun v=>match v with | (y0,y1)=>K (y0,y1)) (bl:=bl) hfl (X:=X1) (Y:=Y1) (P:=P1) (M:=[]) (Q:=Q1) a1 (by simpa using a4)
 rw [wrap64 q0 q0,show ((P.length + X.length:Nat):Int) - (X1.length:Int) = ((P1.length:Nat):Int) by omega, ← a2]
 simp only [List.length_nil,Nat.add_zero,List.nil_append] at hs
 rw [a3] at hs
 exact hs
end
end Go.Proofs.YtohnjbmiaegofaaGreat.Sy
