/- Each operation of the machine does what the evaluator says: conversions, fresh memory, stores. -/
import Derived.Test.YtohnjbmiaegofaaGreatEvE
set_option linter.unusedVariables false
set_option linter.unusedSimpArgs false
set_option linter.unusedSectionVars false
namespace Go.Proofs.YtohnjbmiaegofaaGreat.Ev
open Go
theorem seg_eq {α:Type} (C ws:List α) (p off s N:Nat) (h1:p + s≤N) (h2:N≤C.length) (h3:off + ws.length≤s):
  (C.take (p + off)++ws++C.drop (p + off + ws.length)).take N =
  (C.take N).take p++((((C.take N).drop p).take s).take off++ws++(((C.take N).drop p).take s).drop (off + ws.length))++(C.take N).drop (p + s):=by
 apply List.ext_getElem?
 intro n
 simp only [List.getElem?_take,List.getElem?_append,List.length_append,List.length_take,List.length_drop,List.getElem?_drop]
 have e1:min (p + off) C.length = p + off:=by omega
 have e2:min p (min N C.length) = p:=by omega
 have e3:min off (min s (min N C.length - p)) = off:=by omega
 have e4:min s (min N C.length - p) - (off + ws.length) = s - (off + ws.length):=by omega
 have e5:p + (off + ws.length + (s - (off + ws.length))) = p + s:=by omega
 rw [e1,e2,e3,e4,e5]
 by_cases c0:n < N
 ·rw [if_pos c0]
  by_cases c1:n < p
  ·rw [if_pos (by omega),if_pos (by omega),if_pos (by omega),if_pos (by omega),if_pos c1,if_pos (by omega),if_pos (by omega)]
  ·by_cases c2:n < p + off
   ·rw [if_pos (by omega),if_pos (by omega),if_pos (by omega),if_pos (by omega),if_neg c1,if_pos (by omega),if_pos (by omega),if_pos (by omega),if_pos (by omega),if_pos (by omega)]
    congr 1; omega
   ·by_cases c3:n < p + off + ws.length
    ·rw [if_pos (by omega),if_neg c2,if_pos (by omega),if_neg c1,if_pos (by omega),if_neg (by omega)]
     congr 1; omega
    ·by_cases c4:n < p + s
     ·rw [if_neg c3,if_pos (by omega),if_neg c1,if_neg (by omega),if_pos (by omega),if_pos (by omega)]
      congr 1; omega
     ·rw [if_neg c3,if_neg c4,if_pos (by omega)]
      congr 1; omega
 ·rw [if_neg c0,if_neg (by omega),if_neg (by omega)]
section
variable {P:Program} {tab:TypeId→Option TI} {G:Nat→Option Spec} (hP:TabOK P tab) {c:Cx} {st:St} {a:Act} {w:World} {k:SV→St→Option Ans} {r:Ans}
variable {Kp:Act→World→Prop} {Q:Exit→Act→World→Prop} {dst:Option Tmp} {ty:TypeId} {pos:String} {after:Array Edge} {guard:Option (Nat×Bool)}
include hP
theorem conv_str {R:Nat→Prop} {src d e:TypeId} (hs:P.underlying src = some (.slice e)) (he:P.underlying e = some (.int .u8)) (hd:P.underlying d = some .string) {xs:List Int} {v:Value} (h:slv R w (.int .u8) xs v):
  (convert src d v).run P w = .ok (.string (strOfNums xs)) w:=by
 obtain ⟨A,cc,rfl,hle,hel⟩:=slv_form.1 h
 have hel:∀ (i:Nat) (h:i < xs.length),∃ b o us,A = some ⟨b,o,none⟩∧R b∧b < w.heap.size∧rv R w (.int .u8) xs[i] us∧At w b (o + i * 1) us:=hel
 cases xs with
 | nil=>
  rw [run_convert_bytes_string w src d e _ _ _ hs he hd]
  cases A with
  | none=>simp [Conv.bytesToString]; rfl
  | some a=>simp [Conv.bytesToString,loadCells,loadCellsFrom]; rfl
 | cons x xs=>
  obtain ⟨b,o,us,rfl,_⟩:=hel 0 (by simp)
  refine run_convert_bytes_arg w src e hs he b o _ cc (x::xs) rfl (fun i hi=> ?_) d hd
  obtain ⟨b',o',us,e1,_,_,h1,h2⟩:=hel i hi
  cases e1
  simp only [rv] at h1
  subst h1
  have:=h2 0 _ rfl
  rw [Nat.mul_one,Nat.add_zero] at this
  rw [this]
  simp [List.getD_eq_getElem?_getD,List.getElem?_eq_getElem hi]
theorem nx_none {R:Nat→Prop} {μ:Nat→Option Value} (h:RelB c st a w R μ):μ st.nx = none:=by
 cases hm:μ st.nx with
 | none=>rfl
 | some u=>exact absurd (h.mem.dom _ _ hm) (Nat.lt_irrefl _)
theorem sameSl_ok {src d:TypeId} {hp:List (Nat×Ob)} {x:SC} {i:Nat} (h:sameSl tab src d hp x = some i):
  src = d∧∃ (e:TypeId) (t:Ty) (xs:List (D t)) (m:Bool) (e':TypeId),P.underlying src = some (.slice e)∧P.underlying e = some (.int .u8)∧x = .own i∧look i hp = some (.vec e' t xs m)∧0 < xs.length:=by
 unfold sameSl at h
 cases hb:Nat.beq src d with
 | false=>rw [hb] at h; cases h
 | true=>
  rw [hb] at h
  simp only [cond_true] at h
  refine ⟨Nat.eq_of_beq_eq_true hb, ?_⟩
  split at h
  ·rename_i e _ _ _ _ _ i' hs
   split at h
   ·rename_i _ _ _ _ _ _ e2 t xs m he hl
    cases hn:Nat.blt 0 xs.length with
    | false=>rw [hn] at h; cases h
    | true=>
     rw [hn] at h
     cases h
     exact ⟨e,t,xs,m,e2,(hP _ _ hs).und,(hP _ _ he).und,rfl,hl,Nat.le_of_ble_eq_true hn⟩
   ·cases h
  ·cases h
theorem s_convert {src d:TypeId} {x:Operand} (h:evalOp tab G ⟨dst,.convert src d x,ty,pos,after,guard⟩ st k = some r) (hr:Rel c st a w) (hk:Kok c a k r dst Kp):(⟨dst,.convert src d x,ty,pos,after,guard⟩:Oper).wp P a w Kp Q:=by
 simp only [evalOp,e_convert] at h
 obtain ⟨R,μ,hr⟩:=hr
 split at h
 ·rename_i y hx
  have hv:=opd_vr hr hx
  split at h
  ·rename_i i hss
   obtain ⟨rfl,e,t,xs,m,e2,hs,he,rfl,hl,hn⟩:=sameSl_ok hP hss
   rw [hl] at h
   simp only at h
   obtain ⟨v0,flat,g1,g2,g3,g4⟩:=hr.mem.heap.ob i _ hl
   have e1:=hv.1
   rw [g1] at e1
   rcases g2.2 with ⟨_,e2⟩ | ⟨g,cap,cur,e2,_,g5,g6,g7,g8,g9⟩
   ·omega
   ·subst e2
    have e1:=Option.some.inj e1
    have hlb:lb μ (fun i=>look i st.hp) i g:=⟨_,_,hl,rfl,g1,rfl⟩
    have hc:Chg (· = g) w (w.freeze ⟨g,cur.size,none⟩ 1):=by
     refine ⟨rfl,rfl,rfl, ?_,fun b hb hn=> ?_⟩
     ·unfold World.freeze; simp
     ·unfold World.freeze
      rw [if_neg (by decide)]
      show (w.heap.modify g _)[b]? = _
      rw [Array.getElem?_modify,if_neg (fun e=>hn e.symm)]
    have hkeep:Keeps R w (w.freeze ⟨g,cur.size,none⟩ 1):=hc.keeps fun b' hr' _ e'=>hr.mem.heap.out i g hlb (e' ▸ hr')
    refine wp_value (v:=.slice (some ⟨g,0,none⟩) xs.length cap) (w':=w.freeze ⟨g,cur.size,none⟩ 1) ?_ (hk _ _ _ _ h ⟨R,μ,hr.store hlb hc ⟨_,flat,g1,⟨g2.1,.inr ⟨g,cap,cur,rfl,trivial,rowAt_mark g5,g6,g7,g8,g9⟩⟩,rows_keep hkeep (fun _ h=>h) g3,g4⟩ (fun _ _ _ e=>by cases e; exact ⟨_,_,_,hl⟩),g1,_,_,_,rfl⟩)
    have hsh:w.shape? g = some (e2,cur.size):=by
     obtain ⟨f,_,k2⟩:=g5
     unfold World.shape?
     rw [k2]
    simp [execOp, ← e1,convert,run_underlying hs,run_underlying he,markStringish,hsh]
  rename_i hsame
  clear hsame
  split at h
  ·rename_i e s hss
   obtain ⟨hd,h⟩:=cond_some hP h
   have hd:=of_decide_eq_true hd
   unfold strSrc at hss
   split at hss
   ·rename_i e' s' hs hdt
    split at hss
    ·rename_i he
     cases hss
     have hv:a.eval x = .string s:=hv
     have run:=run_bytes_of_string (P:=P) w src d e s (hP _ _ hs).und (hP _ _ hdt).und (hP _ _ he).und
     have hnn:=nx_none hP hr
     generalize hcap:grownCap w s.size 0 e = cap at run
     have hge:s.size≤cap:=by rw [← hcap]; exact grownCap_ge _ _ _ _
     have hsz:(bytesRow s cap).size = cap:=by
      simp only [bytesRow,Array.size_append,Array.size_map,Array.size_replicate]
      have:s.data.size = s.size:=rfl
      omega
     have hm:upd μ st.nx (.slice (some ⟨w.heap.size,0,none⟩) s.size cap) st.nx = some (.slice (some ⟨w.heap.size,0,none⟩) s.size cap):=by simp [upd]
     have hgb:w.grownBy (w.drew.alloc (.cells (bytesRow s cap) e ((bytesRow s cap).size,(bytesRow s cap).size + 1))) none:=⟨rfl,rfl,rfl,by simp,fun k hk _=>heap_alloc_old w.drew _ k hk⟩
     have hc:=(Chg.grown hgb).mono (S':=fun _=>False) fun b _ e=>by cases e
     have hl:(numsOf s).length = s.size:=by simp [numsOf]
     have hmap:rows R w (.int .u8) (numsOf s) (s.data.toList.map fun b=>Value.int .u8 (b.toNat:Int)):=by
      unfold numsOf
      generalize s.data.toList = l
      induction l with
      | nil=>rfl
      | cons x l ih=>exact ⟨[.int .u8 (x.toNat:Int)],_,rfl,rfl,ih⟩
     refine wp_value (v:=.slice (some ⟨w.heap.size,0,none⟩) s.size cap) (w':=_) ?_ (hk _ _ _ _ h ⟨R,upd μ st.nx (.slice (some ⟨w.heap.size,0,none⟩) s.size cap),hr.new hc ⟨_,s.data.toList.map fun b=>Value.int .u8 (b.toNat:Int),hm,⟨?_,.inr ⟨w.heap.size,cap,bytesRow s cap,by rw [hl],trivial,⟨_,.inr (Nat.le_refl _),heap_alloc_new w.drew _⟩,by rw [hl]; exact hge, ?_,by rw [hsz]; simp [Ty.size], ?_⟩⟩,rows_keep (hc.keeps fun _ _ _ h=>h) (fun _ h=>h) hmap,by simp [Ty.size]⟩ ?_ (fun _ _ _ e=>by cases e),hm,_,_,_,rfl⟩)
     ·simp only [execOp,Sem.run_bind,hv,run,Result.andThen_ok,Sem.run_pure]
     ·simp [hl,Ty.size]
     ·rw [← hcap]; exact grownCap_le_maxLen _ _ _ _ (by simp only [maxLen]; omega)
     ·rw [hl]
      simp only [bytesRow,Array.toList_append,Array.toList_map,Ty.size,Nat.mul_one]
      rw [List.take_append_of_le_length (by simp),List.take_of_length_le (by simp)]
     ·intro b hb
      simp only [blk,Option.some.injEq] at hb
      omega
    ·cases hss
   ·cases hss
  rename_i hno
  clear hno
  unfold evalConv at h
  split at h
  ·rename_i ti kd _ _ _ _ _ _ n hs hd
   have hv:a.eval x = .int _ n:=hv
   have h1:=(hP _ _ hs).und
   have h2:=(hP _ _ hd).und
   exact wp_value (v:=.int kd (kd.wrap n)) (by simp [execOp,hv,convert,run_underlying h1,run_underlying h2,Conv.intToInt]) (hk _ st _ _ h ⟨R,μ,hr,rfl⟩)
  ·rename_i hs hd
   have h1:=(hP _ _ hs).und
   have h2:=(hP _ _ hd).und
   split at h
   ·rename_i he
    have h3:=(hP _ _ he).und
    refine wp_value (v:=.string _) (w':=w) ?_ (hk _ st _ _ h ⟨R,μ,hr,rfl⟩)
    simp only [execOp,Sem.run_bind,conv_str hP h1 h3 h2 hv,Result.andThen_ok,Sem.run_pure]
   ·cases h
  ·rename_i i hs hd
   have h1:=(hP _ _ hs).und
   have h2:=(hP _ _ hd).und
   split at h
   ·rename_i he hl
    have h3:=(hP _ _ he).und
    obtain ⟨v0,flat,g1,g2,g3,g4⟩:=hr.mem.heap.ob i _ hl
    have e1:=hv.1
    rw [g1] at e1
    cases e1
    have hs':=slv_of_own (R':=fun _=>True) g2 g3 (fun _ _=>trivial) (fun _ _=>trivial) g4
    refine wp_value (v:=.string _) (w':=w) ?_ (hk _ st _ _ h ⟨R,μ,hr,rfl⟩)
    simp only [execOp,Sem.run_bind,conv_str hP h1 h3 h2 hs',Result.andThen_ok,Sem.run_pure]
   ·cases h
  ·rename_i i sz lo n hs hd
   have h1:=(hP _ _ hs).und
   have h2:=(hP _ _ hd).und
   split at h
   ·rename_i he hl
    have h3:=(hP _ _ he).und
    have hs':=fz_cr (a:=a) hr.mem (R':=fun _=>True) (fun _ _=>trivial) (x:=.sub i sz lo n) (u:=a.eval x) hv (fun _ _ _ _=>trivial)
    rw [hl] at hs'
    refine wp_value (v:=.string _) (w':=w) ?_ (hk _ st _ _ h ⟨R,μ,hr,rfl⟩)
    simp only [execOp,Sem.run_bind,conv_str hP h1 h3 h2 hs',Result.andThen_ok,Sem.run_pure]
   ·cases h
  ·cases h
 ·cases h
theorem chg_alloc (o:Obj):Chg (fun _=>False) w (w.alloc o):=Chg.alloc _ w o
theorem cr_one {R:Nat→Prop} {μ:Nat→Option Value} {x:SC} {u:Value} (h:cr R w μ x u) (hs:x ≠ .undef∧x ≠ .und):u.oneCell' = true:=by
 cases x with
 | undef=>exact absurd rfl hs.1
 | und=>exact absurd rfl hs.2
 | int k n=>have h:u = .int k n:=h; subst h; rfl
 | bool b=>have h:u = .bool b:=h; subst h; rfl
 | str s=>have h:u = .string s:=h; subst h; rfl
 | sl t xs=>obtain ⟨A,cc,rfl,_⟩:=slv_form.1 h; rfl
 | own i=>obtain ⟨_,A,n,cc,rfl⟩:=h; rfl
 | sub i a b d=>obtain ⟨A,cc,rfl,_⟩:=h; rfl
 | ptr i o=>obtain ⟨b,_,rfl⟩:=h; rfl
 | el t y o=>obtain ⟨b,o',us,rfl,_⟩:=h; rfl
 | vel i a b d=>obtain ⟨b,m,cc,_,_,rfl⟩:=h; rfl
 | nilptr=>have h:u = .pointer none:=h; subst h; rfl
 | clo f caps=>obtain ⟨us,rfl,_⟩:=h; rfl
 | mp i=>obtain ⟨_,rr,rfl⟩:=h; rfl
theorem storable_all:∀ {cs:List SC},storable cs = true→∀ x ∈ cs,x ≠ .undef∧x ≠ .und
 | [],_,x,hx=>by cases hx
 | y::cs,h,x,hx=>by
  have hy:y ≠ .undef∧y ≠ .und:=by constructor <;> (rintro rfl; cases h)
  have ht:storable cs = true:=by cases y <;> first | exact h | (cases h; done)
  rcases List.mem_cons.1 hx with rfl | hx
  ·exact hy
  ·exact storable_all ht x hx
theorem vr_cells {R:Nat→Prop} {μ:Nat→Option Value} {v:SV} {u:Value} (h:vr R w μ v u) {vs:List SC} (hs:cellsOf v = some vs):All2 (cr R w μ) vs u.cells.toList∧∀ z ∈ u.cells.toList,z.oneCell' = true:=by
 have key:∀ {cs:List SC} {us:List Value},storable cs = true→All2 (cr R w μ) cs us→∀ z ∈ us,z.oneCell' = true:=by
  intro cs us hst hall z hz
  obtain ⟨n,hn⟩:=List.mem_iff_getElem?.1 hz
  obtain ⟨x,hx,hc⟩:=hall.get' n z hn
  exact cr_one hP hc (storable_all hP hst x (List.mem_of_getElem? hx))
 cases v with
 | c x=>
  simp only [cellsOf] at hs
  cases hst:storable [x] with
  | false=>rw [hst] at hs; cases hs
  | true=>
   rw [hst] at hs
   cases hs
   have h1:=cr_one hP h (storable_all hP hst x (by simp))
   have:u.cells.toList = [u]:=by cases u <;> first | rfl | (cases h1; done)
   rw [this]
   exact ⟨.cons h .nil,by simpa using h1⟩
 | agg cs=>
  simp only [cellsOf] at hs
  cases hst:storable cs with
  | false=>rw [hst] at hs; cases hs
  | true=>
   rw [hst] at hs
   cases hs
   obtain ⟨us,rfl,hall⟩:=h
   exact ⟨hall,key hst hall⟩
 | tup vs=>cases hs
theorem new_cells {R:Nat→Prop} {μ:Nat→Option Value} (h:RelB c st a w R μ) (e:TypeId) {cs:List SC} {us:Array Value} (hall:All2 (cr R w μ) cs us.toList) (h1:∀ z ∈ us.toList,z.oneCell' = true):
  RelV c (st.new (.cells e cs)) a (w.alloc (.cells us e)) (.c (.ptr st.nx 0)) (.pointer (some ⟨w.heap.size,0,none⟩)):=by
 have hn:=nx_none hP h
 have hm:upd μ st.nx (.pointer (some ⟨w.heap.size,0,none⟩)) st.nx = some (.pointer (some ⟨w.heap.size,0,none⟩)):=by simp [upd]
 refine ⟨R,upd μ st.nx (.pointer (some ⟨w.heap.size,0,none⟩)),h.new (chg_alloc hP _) ⟨w.heap.size,us,hm,heap_alloc_new w _,hall.mono fun x u hx=>cr_keep ((chg_alloc hP _).keeps fun _ _ _ h=>h) (fun _ h=>h) (upd_ext hn) hx,h1⟩ ?_ (fun _ _ _ e=>by cases e),⟨w.heap.size,hm,rfl⟩⟩
 intro b hb
 simp only [blk,Option.some.injEq] at hb
 omega
theorem s_box {e:TypeId} {x:Operand} (h:evalOp tab G ⟨dst,.box e x,ty,pos,after,guard⟩ st k = some r) (hr:Rel c st a w) (hk:Kok c a k r dst Kp):(⟨dst,.box e x,ty,pos,after,guard⟩:Oper).wp P a w Kp Q:=by
 simp only [evalOp,e_box] at h
 obtain ⟨R,μ,hr⟩:=hr
 split at h
 ·rename_i v st' hx
  obtain ⟨μ',h1,_,h2⟩:=opdT_ok hr hx
  split at h
  ·rename_i vs hvs
   obtain ⟨g1,g2⟩:=vr_cells hP h2 hvs
   refine wp_value (v:=.pointer (some ⟨w.heap.size,0,none⟩)) (w':=w.alloc (.cells (a.eval x).cells e)) ?_ (hk _ _ _ _ h (new_cells hP h1 e g1 g2))
   simp [execOp,Instr.box,newVar,newRow,newObj,Sem.run]
  ·cases h
 ·cases h
theorem zeroC_ok {R:Nat→Prop}:∀ {vs:List Value} {ts:List TypeId} {st:St} {μ:Nat→Option Value} (h:RelB c st a w R μ) {cs:List SC} {st':St} (hz:zeroC tab vs ts st = some (cs,st')),
  ∃ μ',RelB c st' a w R μ'∧Ext μ μ'∧All2 (cr R w μ') cs vs
 | [],ts,st,μ,h,cs,st',hz=>by simp only [zeroC,Option.some.injEq,Prod.mk.injEq] at hz; obtain ⟨rfl,rfl⟩:=hz; exact ⟨μ,h,Ext.refl μ,.nil⟩
 | v::vs,[],st,μ,h,cs,st',hz=>by simp [zeroC] at hz
 | v::vs,t::ts,st,μ,h,cs,st',hz=>by
  simp only [zeroC] at hz
  split at hz
  ·rename_i x st1 hx
   split at hz
   ·rename_i xs st2 hxs
    cases hz
    have:∃ μ1,RelB c st1 a w R μ1∧Ext μ μ1∧cr R w μ1 x v:=by
     split at hx
     ·cases hx; exact ⟨μ,h,Ext.refl μ,rfl⟩
     ·cases hx; exact ⟨μ,h,Ext.refl μ,rfl⟩
     ·cases hx; exact ⟨μ,h,Ext.refl μ,rfl⟩
     ·cases hx; exact ⟨μ,h,Ext.refl μ,rfl⟩
     ·exact nilC_ok h hx
     ·cases hx; exact ⟨μ,h,Ext.refl μ,trivial⟩
    obtain ⟨μ1,a1,a2,a3⟩:=this
    obtain ⟨μ2,b1,b2,b3⟩:=zeroC_ok a1 hxs
    exact ⟨μ2,b1,fun i v hv=>b2 i v (a2 i v hv),.cons (cr_keep (Keeps.refl R w) (fun _ h=>h) b2 a3) b3⟩
   ·cases hz
  ·cases hz
theorem zero_one {vs:List Value} {ts:List TypeId} {cs:List SC} {st st':St}:True:=trivial
theorem s_alloc {e:TypeId} (h:evalOp tab G ⟨dst,.alloc e,ty,pos,after,guard⟩ st k = some r) (hr:Rel c st a w) (hk:Kok c a k r dst Kp):(⟨dst,.alloc e,ty,pos,after,guard⟩:Oper).wp P a w Kp Q:=by
 simp only [evalOp,e_alloc] at h
 obtain ⟨R,μ,hr⟩:=hr
 split at h
 ·rename_i ti ht
  split at h
  ·rename_i cs st' hz
   obtain ⟨μ',h1,_,h2⟩:=zeroC_ok hP hr hz
   obtain ⟨hst,h⟩:=cond_some hP h
   obtain ⟨zv,hzv,hcs⟩:=(hP _ _ ht).rzero w
   rw [← hcs] at h2
   refine wp_value (v:=.pointer (some ⟨w.heap.size,0,none⟩)) (w':=w.alloc (.cells zv.cells e)) ?_ (hk _ _ _ _ h (new_cells hP h1 e h2 ?_))
   ·simp [execOp,Instr.alloc,hzv,newVar,newRow,newObj,Sem.run]
   ·intro z hzm
    obtain ⟨n,hn⟩:=List.mem_iff_getElem?.1 hzm
    obtain ⟨x,hx,hc⟩:=h2.get' n z hn
    exact cr_one hP hc (storable_all hP hst x (List.mem_of_getElem? hx))
  ·cases h
 ·cases h
theorem capIds_ok {R:Nat→Prop} {μ:Nat→Option Value} (hr:RelB c st a w R μ):∀ {cs:List Operand} {l:List Nat},capIds st cs = some l→All2 (fun i u=>μ i = some u∧∃ b,u = .pointer (some ⟨b,0,none⟩)) l (cs.map a.eval)
 | [],l,hc=>by cases hc; exact .nil
 | x::cs,l,hc=>by
  simp only [capIds] at hc
  split at hc
  ·rename_i i hx
   split at hc
   ·rename_i l' hl'
    cases hc
    obtain ⟨b,hm,he⟩:=opd_vr hr hx
    exact .cons ⟨by rw [he]; exact hm,b,he⟩ (capIds_ok hr hl')
   ·cases hc
  ·cases hc
theorem s_makeFunc {fn:Fn} {first caps:Array Operand} (h:evalOp tab G ⟨dst,.makeFunc fn first caps,ty,pos,after,guard⟩ st k = some r) (hr:Rel c st a w) (hk:Kok c a k r dst Kp):(⟨dst,.makeFunc fn first caps,ty,pos,after,guard⟩:Oper).wp P a w Kp Q:=by
 simp only [evalOp,e_makeFunc] at h
 obtain ⟨R,μ,hr⟩:=hr
 split at h
 ·rename_i f l hf hc
  have hf:first = #[]:=Array.toList_inj.1 hf
  subst hf
  have:=capIds_ok hP hr hc
  rw [← Array.toList_map] at this
  exact wp_value (v:=.func (.func f) #[] (caps.map a.eval)) (by simp [execOp,Instr.makeFunc]) (hk _ st _ _ h ⟨R,μ,hr,_,rfl,this⟩)
 ·cases h
theorem splice_ok {R:Nat→Prop} {μ:Nat→Option Value} {cs vs cs':List SC} {us ws:List Value} (h:All2 (cr R w μ) cs us) (hv:All2 (cr R w μ) vs ws) {off:Nat} (hs:splice cs off vs = some cs'):
  off + ws.length≤us.length∧All2 (cr R w μ) cs' (us.take off++ws++us.drop (off + ws.length)):=by
 unfold splice at hs
 cases hb:Nat.ble (off + vs.length) cs.length with
 | false=>rw [hb] at hs; cases hs
 | true=>
  rw [hb] at hs
  simp only [cond_true,Option.some.injEq] at hs
  subst hs
  have hle:=ble_le hb
  rw [h.length,hv.length] at hle
  refine ⟨hle, ?_⟩
  rw [← hv.length]
  exact ((h.take off).append hv).append (h.drop _)
theorem ofC_rv {R:Nat→Prop} {μ:Nat→Option Value}:∀ {t:Ty} {l rest:List SC} {x:D t} {us:List Value},ofC t l = some (x,rest)→All2 (cr R w μ) l us→∃ u1 u2,us = u1++u2∧rv R w t x u1∧All2 (cr R w μ) rest u2
 | .int k,l,rest,x,us,h,hall=>by
  simp only [ofC] at h
  split at h
  ·split at h
   ·rename_i hk
    cases h
    subst hk
    cases hall with
    | cons hp ht=>exact ⟨[_],_,rfl,by simp only [rv]; rw [show _ = Value.int _ _ from hp],ht⟩
   ·cases h
  ·cases h
 | .bool,l,rest,x,us,h,hall=>by
  simp only [ofC] at h
  split at h
  ·cases h
   cases hall with
   | cons hp ht=>exact ⟨[_],_,rfl,by simp only [rv]; rw [show _ = Value.bool _ from hp],ht⟩
  ·cases h
 | .str,l,rest,x,us,h,hall=>by
  simp only [ofC] at h
  split at h
  ·cases h
   cases hall with
   | cons hp ht=>exact ⟨[_],_,rfl,by simp only [rv]; rw [show _ = Value.string _ from hp],ht⟩
  ·cases h
 | .sl t,l,rest,x,us,h,hall=>by
  simp only [ofC] at h
  split at h
  ·split at h
   ·rename_i hk
    cases h
    subst hk
    cases hall with
    | cons hp ht=>exact ⟨[_],_,rfl,hp,ht⟩
   ·cases h
  ·cases h
 | .unit,l,rest,x,us,h,hall=>by
  simp only [ofC] at h
  cases h
  exact ⟨[],us,rfl,rfl,hall⟩
 | .pair p q,l,rest,x,us,h,hall=>by
  simp only [ofC] at h
  split at h
  ·rename_i y r1 h1
   split at h
   ·rename_i z r2 h2
    cases h
    obtain ⟨u1,u2,rfl,g1,g2⟩:=ofC_rv h1 hall
    obtain ⟨u3,u4,rfl,g3,g4⟩:=ofC_rv h2 g2
    exact ⟨u1++u3,u4,by simp,⟨u1,u3,rfl,g1,g3⟩,g4⟩
   ·cases h
  ·cases h
theorem ofC1_rv {R:Nat→Prop} {μ:Nat→Option Value} {t:Ty} {l:List SC} {x:D t} {us:List Value} (h:ofC1 t l = some x) (hall:All2 (cr R w μ) l us):rv R w t x us:=by
 unfold ofC1 at h
 split at h
 ·rename_i y hy
  cases h
  obtain ⟨u1,u2,rfl,g1,g2⟩:=ofC_rv hP hy hall
  cases g2
  rw [List.append_nil]
  exact g1
 ·cases h
theorem owns_mem {vs:List SC} {x:SC} (hx:x ∈ vs) {i:Nat} (hi:i ∈ x.owns):i ∈ addAll [] (vs.flatMap SC.owns):=by
 have key:∀ (l acc:List Nat) (i:Nat),(i ∈ acc∨i ∈ l)→i ∈ addAll acc l:=by
  intro l
  induction l with
  | nil=>
   intro acc i h
   rcases h with h | h
   ·exact h
   ·cases h
  | cons j l ih=>
   intro acc i h
   simp only [addAll]
   apply ih
   cases hh:has j acc with
   | true=>
    simp only [cond_true]
    rcases h with h | h
    ·exact .inl h
    ·rcases List.mem_cons.1 h with rfl | h
     ·exact .inl ((has_iff _ _).1 hh)
     ·exact .inr h
   | false=>
    simp only [cond_false,List.mem_append,List.mem_singleton]
    rcases h with h | h
    ·exact .inl (.inl h)
    ·rcases List.mem_cons.1 h with rfl | h
     ·exact .inl (.inr rfl)
     ·exact .inr h
 exact key _ _ _ (.inr (List.mem_flatMap.2 ⟨x,hx,hi⟩))
theorem fz_all {R:Nat→Prop} {μ:Nat→Option Value} (hm:Mem c st w R μ) {vs:List SC} {us:List Value} (h:All2 (cr R w μ) vs us) {ids:List Nat} (hids:∀ x ∈ vs,∀ i ∈ x.owns,i ∈ ids):
  All2 (cr (fun b=>R b∨∃ i ∈ ids,lb μ (fun i=>look i st.hp) i b) w μ) (vs.map (fz st.hp)) us:=by
 apply All2.map.1
 have:∀ {vs:List SC} {us:List Value},All2 (cr R w μ) vs us→(∀ x ∈ vs,∀ i ∈ x.owns,i ∈ ids)→All2 (fun a b=>cr (fun b=>R b∨∃ i ∈ ids,lb μ (fun i=>look i st.hp) i b) w μ (fz st.hp a) b) vs us:=by
  intro vs us h
  induction h with
  | nil=>intro _; exact .nil
  | cons hp _ ih=>
   intro hid
   refine .cons (fz_cr (a:=⟨#[],[]⟩) hm (fun _ h=>.inl h) hp fun i hi b hb=>.inr ⟨i,hid _ (by simp) i hi,hb⟩) (ih fun x hx=>hid x (by simp [hx]))
 exact this h hids
theorem row_list {b o:Nat} {e:TypeId} {arr:Array Value} (g2:w.heap[b]? = some (.cells arr e (0,0))):At w b 0 arr.toList:=fun j u hj=>by
 rw [Nat.zero_add]
 have:=cell_of_row w b j arr e (0,0) g2
 rw [this, ← Array.getElem?_toList]
 exact hj
omit hP in
theorem setCells_row (g:Nat) (e:TypeId) (f:Nat×Nat):∀ (vs:List Value) (o:Nat) (w:World) (cur:Array Value),w.heap[g]? = some (.cells cur e f)→o + vs.length≤cur.size→
  w.setCells g o vs = w.setRow g (cur.toList.take o++vs++cur.toList.drop (o + vs.length)).toArray
 | [],o,w,cur,hg,hl=>by
  simp only [World.setCells,List.append_nil,List.length_nil,Nat.add_zero,List.take_append_drop,Array.toArray_toList]
  exact (setRow_self w g cur e f hg).symm
 | v::vs,o,w,cur,hg,hl=>by
  have ih:=setCells_row g e f vs (o + 1) (w.setRow g (cur.setIfInBounds o v)) (cur.setIfInBounds o v) (setRow_heap w g cur _ e f hg) (by simp at hl ⊢; omega)
  show (w.setCell ⟨g,o,none⟩ v).setCells g (o + 1) vs = _
  rw [setCell_eq_setRow w g o cur e f v hg,ih,setRow_setRow]
  congr 2
  have e:=list_seg_step cur.toList o v vs (by simp at hl ⊢; omega)
  simpa [Array.toList_setIfInBounds,Nat.add_assoc] using e
omit hP in
theorem storeCells_row {g o:Nat} {e:TypeId} {cur:Array Value} {vs:List Value} (hg:rowAt w g cur e) (hl:o + vs.length≤cur.size) (h1:∀ v ∈ vs,v.oneCell' = true):
  (storeCells ⟨g,o,none⟩ vs).run P w = .ok () (w.setRow g (cur.toList.take o++vs++cur.toList.drop (o + vs.length)).toArray):=by
 have h:=run_storeCells_cells (P:=P) g o vs 0 w (fun j hj=>by rw [rowAt_cell hg,Array.getElem?_eq_getElem (by omega)]; rfl) (fun j hj=>rowAt_free hg _ (by omega)) h1
 obtain ⟨f,_,k⟩:=hg
 rw [h,Nat.add_zero,setCells_row g e f vs o w cur k hl]
theorem setRow_at {b:Nat} {e:TypeId} {arr arr':Array Value} (g2:w.heap[b]? = some (.cells arr e (0,0))):(w.setRow b arr').heap[b]? = some (.cells arr' e (0,0)):=setRow_heap w b arr arr' e (0,0) g2
theorem s_store {t:TypeId} {x y:Operand} (h:evalOp tab G ⟨dst,.store t x y,ty,pos,after,guard⟩ st k = some r) (hr:Rel c st a w) (hk:Kok c a k r dst Kp):(⟨dst,.store t x y,ty,pos,after,guard⟩:Oper).wp P a w Kp Q:=by
 simp only [evalOp,e_store] at h
 obtain ⟨R,μ,hr⟩:=hr
 split at h
 ·rename_i ti v st1 ht hy
  have ht:=hP _ _ ht
  obtain ⟨μ1,hr1,_,hv⟩:=opdT_ok hr hy
  split at h
  ·rename_i vs hvs
   obtain ⟨hall,hone⟩:=vr_cells hP hv hvs
   obtain ⟨hsz,h⟩:=cond_some hP h
   have hsz:=Nat.eq_of_beq_eq_true hsz
   have hcs:(a.eval y).cells.size = ti.size:=by rw [← hsz,hall.length,Array.length_toList]
   have run:∀ b o cur e,a.eval x = .pointer (some ⟨b,o,none⟩)→rowAt w b cur e→o + (a.eval y).cells.toList.length≤cur.size→
     (execOp a.eval ⟨dst,.store t x y,ty,pos,after,guard⟩).run P w = .ok .skip (w.setRow b (cur.toList.take o++(a.eval y).cells.toList++cur.toList.drop (o + (a.eval y).cells.toList.length)).toArray):=by
    intro b o cur e he hb hfit
    have hst:=storeCells_row (P:=P) hb hfit hone
    simp only [execOp,Instr.storeAt,storeVar,Sem.run_bind,he,Instr.sureAddr,Sem.run_pure,Result.andThen_ok,ht.rsize,hcs,ne_eq,not_true_eq_false,if_false,hst]
   split at h
   ·-- into a variable
    rename_i i off hx
    obtain ⟨b,hm,he⟩:=opd_vr hr1 hx
    split at h
    ·rename_i e cs hl
     split at h
     ·rename_i cs' hsp
      obtain ⟨b',arr,g1,g2,g3,g4⟩:=hr1.mem.heap.ob i _ hl
      rw [hm] at g1
      cases g1
      obtain ⟨hfit,hall'⟩:=splice_ok hP g3 hall hsp
      rw [Array.length_toList] at hfit
      have hlb:lb μ1 (fun i=>look i st1.hp) i b:=⟨_,_,hl,rfl,hm,rfl⟩
      refine wp_skip' (run b off arr e he ⟨(0,0),.inl rfl,g2⟩ hfit) (hk _ _ _ _ h ⟨R,μ1,hr1.store hlb (Chg.setRow w b _) ⟨b,_,hm,setRow_at hP g2, ?_, ?_⟩ (fun _ _ _ e=>by cases e),trivial⟩)
      ·exact hall'.mono fun _ _=>cr_keep ((Chg.setRow w b _).keeps fun b' hr' _ e'=>hr1.mem.heap.out i b hlb (e' ▸ hr')) (fun _ h=>h) (Ext.refl μ1)
      ·intro z hz
       simp only [List.append_assoc,List.mem_append] at hz
       rcases hz with hz | hz | hz
       ·exact g4 z (List.mem_of_mem_take hz)
       ·exact hone z hz
       ·exact g4 z (List.mem_of_mem_drop hz)
     ·cases h
    ·cases h
   ·-- into an element
    rename_i i sz j off hx
    obtain ⟨b,m,cc,hm,hj,he⟩:=opd_vr hr1 hx
    split at h
    ·rename_i e ty' xs fl hl
     obtain ⟨hb,h2⟩:=cond_some hP h
     clear h
     have hb:=Nat.eq_of_beq_eq_true hb
     subst hb
     split at h2
     ·rename_i cs' hsp
      split at h2
      ·rename_i y' hof
       have hh2:has i (addAll [] (vs.flatMap SC.owns)) = false∧k (.c .undef) ((freeze (addAll [] (vs.flatMap SC.owns)) st1).set i (.vec e ty' (xs.set j y') fl)) = some r:=by
        cases hh:has i (addAll [] (vs.flatMap SC.owns)) with
        | true=>rw [hh] at h2; cases h2
        | false=>rw [hh] at h2; exact ⟨rfl,h2⟩
       clear h2
       obtain ⟨hni,h⟩:=hh2
       have hni:i ∉ addAll [] (vs.flatMap SC.owns):=fun hmem=>by rw [(has_iff _ _).2 hmem] at hni; cases hni
       have hfz:=fz_all hP hr1.mem hall (ids:=addAll [] (vs.flatMap SC.owns)) (fun x hx i hi=>owns_mem hP hx hi)
       generalize addAll [] (vs.flatMap SC.owns) = ids at h hni hfz
       have hfr:=hr1.frozen ids
       obtain ⟨v0,flat,g1,g2,g3,g4⟩:=hr1.mem.heap.ob i _ hl
       rw [hm] at g1
       cases g1
       have hjx:j < xs.length:=by
        rcases g2.2 with ⟨e1,_⟩ | ⟨g,cap,cur,e1,_⟩
        ·cases e1
        ·cases e1; exact hj
       obtain ⟨us,hus,k6,eus⟩:=row_here g2 g3 j hjx
       have hg:xs.getD j (dflt ty') = xs[j]:=by simp [List.getD_eq_getElem?_getD,List.getElem?_eq_getElem hjx]
       rw [hg] at hsp
       have hus':=rv_keep (Keeps.refl R w) (R':=fun b=>R b∨∃ i ∈ ids,lb μ1 (fun i=>look i st1.hp) i b) (fun _ h=>.inl h) hus
       obtain ⟨hfit,hall'⟩:=splice_ok hP (toC_rv (μ:=μ1) hus') hfz hsp
       have hnew:=ofC1_rv hP hof hall'
       have hl1:=rv_length hus
       obtain ⟨g,cap,cur,e1,_,g5,g6,g7,g8,g9⟩:∃ g cap cur,Value.slice (some ⟨b,0,none⟩) m cc = .slice (some ⟨g,0,none⟩) xs.length cap∧True∧rowAt w g cur e∧xs.length≤cap∧cap≤maxLen∧cur.size = cap * ty'.size∧cur.toList.take (xs.length * ty'.size) = flat:=by
        rcases g2.2 with ⟨e1,_⟩ | h
        ·cases e1
        ·exact h
       simp only [Value.slice.injEq,Option.some.injEq,Addr.mk.injEq,and_true] at e1
       obtain ⟨rfl,rfl,rfl⟩:=e1
       have hlen:flat.length = xs.length * ty'.size:=g2.1
       have hjs:(j + 1) * ty'.size≤xs.length * ty'.size:=Nat.mul_le_mul_right _ hjx
       have hjs2:xs.length * ty'.size≤cc * ty'.size:=Nat.mul_le_mul_right _ g6
       have hexp:(j + 1) * ty'.size = j * ty'.size + ty'.size:=by rw [Nat.add_mul]; omega
       rw [hl1] at hfit
       have hfit2:j * ty'.size + off + (a.eval y).cells.toList.length≤cur.size:=by rw [g8]; omega
       have hlook:look i (freeze ids st1).hp = some (.vec e ty' xs fl):=by
        cases hi:ids with
        | nil=>exact hl
        | cons i0 r0=>
         rw [← hi]
         have:freeze ids st1 = { st1 with env:=mapE (frzC st1.hp ids) st1.env,hp:=deads ids++mapH (frzC st1.hp ids) st1.hp }:=by rw [hi]; rfl
         rw [this]
         show look i (deads ids++mapH (frzC st1.hp ids) st1.hp) = _
         rw [look_deads,if_neg hni,look_mapH,hl]
         rfl
       have hlb:lb μ1 (fun i=>look i (freeze ids st1).hp) i b:=⟨_,_,hlook,rfl,hm,rfl⟩
       have hcl:cur.toList.length = cc * ty'.size:=by rw [Array.length_toList,g8]
       have hseg:=seg_eq cur.toList (a.eval y).cells.toList (j * ty'.size) off ty'.size (xs.length * ty'.size) (by omega) (by omega) hfit
       rw [g9, ← eus, ← hexp] at hseg
       have hk':Keeps (fun b=>R b∨∃ i ∈ ids,lb μ1 (fun i=>look i st1.hp) i b) w (w.setRow b (cur.toList.take (j * ty'.size + off)++(a.eval y).cells.toList++cur.toList.drop (j * ty'.size + off + (a.eval y).cells.toList.length)).toArray):=(Chg.setRow w b _).keeps fun b' hr' _ e'=>hfr.mem.heap.out i b hlb (e' ▸ hr')
       refine wp_skip' (run b _ cur e he g5 hfit2) (hk _ _ _ _ h ⟨_,μ1,hfr.store hlb (Chg.setRow w b _) ⟨_,flat.take (j * ty'.size)++(us.take off++(a.eval y).cells.toList++us.drop (off + (a.eval y).cells.toList.length))++flat.drop ((j + 1) * ty'.size),hm,⟨?_,.inr ⟨b,cc,_,by rw [List.length_set],trivial,rowAt_set g5 _ ?_,by rw [List.length_set]; exact g6,g7, ?_, ?_⟩⟩, ?_,g4⟩ (fun _ _ _ e=>by cases e; exact ⟨_,_,_,hlook⟩),trivial⟩)
       ·simp only [List.length_append,List.length_take,List.length_drop,List.length_set,hlen,hl1]
        omega
       ·simp only [List.size_toArray,List.length_append,List.length_take,List.length_drop,hcl]
        omega
       ·simp only [List.size_toArray,List.length_append,List.length_take,List.length_drop,hcl]
        omega
       ·rw [List.length_set]
        exact hseg
       ·exact rows_keep hk' (fun _ h=>h) (rows_set (rows_keep (Keeps.refl R w) (fun _ h=>.inl h) g3) j hjx hnew)
      ·cases h2
     ·cases h2
    ·cases h
   ·cases h
  ·cases h
 ·cases h
end
end Go.Proofs.YtohnjbmiaegofaaGreat.Ev
