/- Each operation of the machine does what the evaluator says. -/
import Derived.Laws.StructEq
import Derived.ChangeKeysEq
import Derived.Laws.Cover3
import Derived.Test.YtohnjbmiaegofaaGreatEvD
set_option linter.unusedVariables false
set_option linter.unusedSimpArgs false
set_option linter.unusedSectionVars false
namespace Go.Proofs.YtohnjbmiaegofaaGreat.Ev
open Go
section
variable {P:Program} {tab:TypeId→Option TI} {G:Nat→Option Spec} (hP:TabOK P tab) {c:Cx} {st:St} {a:Act} {w:World} {k:SV→St→Option Ans} {r:Ans}
variable {Kp:Act→World→Prop} {Q:Exit→Act→World→Prop} {dst:Option Tmp} {ty:TypeId} {pos:String} {after:Array Edge} {guard:Option (Nat×Bool)}
theorem wp_value {o:Oper} {v:Value} {w':World} (h:(execOp a.eval o).run P w = .ok (.value v) w') (hk:Kp (a.put o.dst v) w'):o.wp P a w Kp Q:=by
 unfold Oper.wp
 rw [h]
 exact hk
theorem wp_skip' {o:Oper} {w':World} (h:(execOp a.eval o).run P w = .ok .skip w') (hk:Kp (a.put o.dst Go.undef) w'):o.wp P a w Kp Q:=by
 unfold Oper.wp
 rw [h]
 exact hk
abbrev Kok (c:Cx) (a:Act) (k:SV→St→Option Ans) (r:Ans) (d:Option Tmp) (Kp:Act→World→Prop):Prop:=∀ v st u w,k v st = some r→RelV c st a w v u→Kp (a.put d u) w
include hP
theorem s_move {x:Operand} (h:evalOp tab G ⟨dst,.move x,ty,pos,after,guard⟩ st k = some r) (hr:Rel c st a w) (hk:Kok c a k r dst Kp):(⟨dst,.move x,ty,pos,after,guard⟩:Oper).wp P a w Kp Q:=by
 simp only [evalOp,e_move] at h
 split at h
 ·rename_i v st' hx
  obtain ⟨R,μ,hr⟩:=hr
  obtain ⟨μ',h1,_,h2⟩:=opdT_ok hr hx
  exact wp_value (v:=a.eval x) rfl (hk v st' _ _ h ⟨R,μ',h1,h2⟩)
 ·cases h
theorem s_assign {x:Operand} (h:evalOp tab G ⟨dst,.assign x,ty,pos,after,guard⟩ st k = some r) (hr:Rel c st a w) (hk:Kok c a k r dst Kp):(⟨dst,.assign x,ty,pos,after,guard⟩:Oper).wp P a w Kp Q:=by
 simp only [evalOp,e_move] at h
 split at h
 ·rename_i v st' hx
  obtain ⟨R,μ,hr⟩:=hr
  obtain ⟨μ',h1,_,h2⟩:=opdT_ok hr hx
  exact wp_value (v:=a.eval x) rfl (hk v st' _ _ h ⟨R,μ',h1,h2⟩)
 ·cases h
theorem s_pick {x y z:Operand} (h:evalOp tab G ⟨dst,.pick x y z,ty,pos,after,guard⟩ st k = some r) (hr:Rel c st a w) (hk:Kok c a k r dst Kp):(⟨dst,.pick x y z,ty,pos,after,guard⟩:Oper).wp P a w Kp Q:=by
 simp only [evalOp,e_pick] at h
 split at h
 ·rename_i p hx
  obtain ⟨R,μ,hr⟩:=hr
  have hb:a.eval x = .bool p:=opd_vr hr hx
  cases p with
  | true=>
   simp only at h
   split at h
   ·rename_i v st' hy
    obtain ⟨μ',h1,_,h2⟩:=opdT_ok hr hy
    exact wp_value (v:=a.eval y) (by simp [execOp,hb,asBool]) (hk v st' _ _ h ⟨R,μ',h1,h2⟩)
   ·cases h
  | false=>
   simp only at h
   split at h
   ·rename_i v st' hy
    obtain ⟨μ',h1,_,h2⟩:=opdT_ok hr hy
    exact wp_value (v:=a.eval z) (by simp [execOp,hb,asBool]) (hk v st' _ _ h ⟨R,μ',h1,h2⟩)
   ·cases h
 ·cases h
theorem s_load {t:TypeId} {x:Operand} (h:evalOp tab G ⟨dst,.load t x,ty,pos,after,guard⟩ st k = some r) (hr:Rel c st a w) (hk:Kok c a k r dst Kp):(⟨dst,.load t x,ty,pos,after,guard⟩:Oper).wp P a w Kp Q:=by
 simp only [evalOp,e_load] at h
 obtain ⟨R,μ,hr⟩:=hr
 split at h
 ·rename_i ti i off ht hx
  have ht:=hP _ _ ht
  obtain ⟨b,hm,he⟩:=opd_vr hr hx
  split at h
  ·rename_i e cs hl
   split at h
   ·rename_i v hp
    obtain ⟨b',arr,g1,g2,g3,g4⟩:=hr.mem.heap.ob i _ hl
    rw [hm] at g1
    cases g1
    have hat:At w b 0 arr.toList:=fun j u hj=>by
     rw [Nat.zero_add]
     have:=cell_of_row w b j arr e (0,0) g2
     rw [this, ← Array.getElem?_toList]
     exact hj
    obtain ⟨u,hu,hv⟩:=run_loadVar_at ht g3 hat hp
    rw [Nat.zero_add] at hu
    exact wp_value (v:=u) (by simp [execOp,Instr.loadAt,he,Instr.sureAddr,hu]) (hk v st _ _ h ⟨R,μ,hr,hv⟩)
   ·cases h
  ·cases h
 ·rename_i ti ty' x' off ht hx
  have ht:=hP _ _ ht
  obtain ⟨b,o,us,he,hb,hrv,hat⟩:=opd_vr hr hx
  split at h
  ·rename_i v hp
   obtain ⟨u,hu,hv⟩:=run_loadVar_at ht (toC_rv (μ:=μ) hrv) hat hp
   exact wp_value (v:=u) (by simp [execOp,Instr.loadAt,he,Instr.sureAddr,hu]) (hk v st _ _ h ⟨R,μ,hr,hv⟩)
  ·cases h
 ·rename_i ti i sz j off ht hx
  have ht:=hP _ _ ht
  obtain ⟨b,m,cc,hm,hj,he⟩:=opd_vr hr hx
  split at h
  ·rename_i e ty' xs _ hl
   cases hsz:Nat.beq sz ty'.size with
   | false=>rw [hsz] at h; cases h
   | true=>
    rw [hsz] at h
    have hsz:=Nat.eq_of_beq_eq_true hsz
    subst hsz
    simp only [cond_true] at h
    split at h
    ·rename_i v hp
     obtain ⟨v0,flat,g1,g2,g3,g4⟩:=hr.mem.heap.ob i _ hl
     rw [hm] at g1
     cases g1
     have hjx:j < xs.length:=by
      rcases g2.2 with ⟨e1,_⟩ | ⟨g,cap,cur,e1,_⟩
      ·cases e1
      ·cases e1; exact hj
     obtain ⟨us,hus,k6,_⟩:=row_here g2 g3 j hjx
     have hg:xs.getD j (dflt ty') = xs[j]:=by simp [List.getD_eq_getElem?_getD,List.getElem?_eq_getElem hjx]
     rw [hg] at hp
     obtain ⟨u,hu,hv⟩:=run_loadVar_at ht (toC_rv (μ:=μ) hus) k6 hp
     exact wp_value (v:=u) (by simp [execOp,Instr.loadAt,he,Instr.sureAddr,hu]) (hk v st _ _ h ⟨R,μ,hr,hv⟩)
    ·cases h
  ·cases h
 ·cases h
theorem s_nilCheck {x:Operand} (h:evalOp tab G ⟨dst,.nilCheck x,ty,pos,after,guard⟩ st k = some r) (hr:Rel c st a w) (hk:Kok c a k r dst Kp):(⟨dst,.nilCheck x,ty,pos,after,guard⟩:Oper).wp P a w Kp Q:=by
 simp only [evalOp,e_nilCheck] at h
 obtain ⟨R,μ,hr⟩:=hr
 split at h
 ·rename_i hx
  have hv:=opd_vr hr hx
  obtain ⟨b,_,he⟩:=hv
  exact wp_value (v:=a.eval x) (by simp [execOp,he]) (hk _ st _ _ h ⟨R,μ,hr,opd_vr hr hx⟩)
 ·rename_i hx
  have hv:=opd_vr hr hx
  obtain ⟨b,o,us,he,_⟩:=hv
  exact wp_value (v:=a.eval x) (by simp [execOp,he]) (hk _ st _ _ h ⟨R,μ,hr,opd_vr hr hx⟩)
 ·rename_i hx
  have hv:=opd_vr hr hx
  obtain ⟨b,m,cc,_,_,he⟩:=hv
  exact wp_value (v:=a.eval x) (by simp [execOp,he]) (hk _ st _ _ h ⟨R,μ,hr,opd_vr hr hx⟩)
 ·rename_i hx
  have hv:=opd_vr hr hx
  obtain ⟨us,he,_⟩:=hv
  exact wp_value (v:=a.eval x) (by simp [execOp,he]) (hk _ st _ _ h ⟨R,μ,hr,opd_vr hr hx⟩)
 ·cases h
theorem s_extract {x:Operand} {i:Nat} (h:evalOp tab G ⟨dst,.extract x i,ty,pos,after,guard⟩ st k = some r) (hr:Rel c st a w) (hk:Kok c a k r dst Kp):(⟨dst,.extract x i,ty,pos,after,guard⟩:Oper).wp P a w Kp Q:=by
 simp only [evalOp,e_extract] at h
 obtain ⟨R,μ,hr⟩:=hr
 split at h
 ·rename_i vs hx
  obtain ⟨us,he,hall⟩:=opd_vr hr hx
  split at h
  ·rename_i cs hi
   obtain ⟨u,hu,hp⟩:=hall.get i _ hi
   rw [Array.getElem?_toList] at hu
   exact wp_value (v:=u) (by simp [execOp,Instr.extract,he,hu]) (hk _ st _ _ h ⟨R,μ,hr,hp⟩)
  ·rename_i y hi
   obtain ⟨u,hu,hp⟩:=hall.get i _ hi
   rw [Array.getElem?_toList] at hu
   obtain ⟨y',hy,hc⟩:=hp
   cases hy
   exact wp_value (v:=u) (by simp [execOp,Instr.extract,he,hu]) (hk _ st _ _ h ⟨R,μ,hr,hc⟩)
  ·cases h
 ·cases h
theorem s_unOp {op:UnOp} {xt:TypeId} {x:Operand} (h:evalOp tab G ⟨dst,.unOp op xt x,ty,pos,after,guard⟩ st k = some r) (hr:Rel c st a w) (hk:Kok c a k r dst Kp):(⟨dst,.unOp op xt x,ty,pos,after,guard⟩:Oper).wp P a w Kp Q:=by
 simp only [evalOp,e_unOp] at h
 obtain ⟨R,μ,hr⟩:=hr
 split at h
 ·rename_i kd n hx
  have he:a.eval x = .int kd n:=opd_vr hr hx
  exact wp_value (v:=.int kd (kd.wrap (0 - n))) (by simp [execOp,Op.unary,Op.intArith,he]) (hk _ st _ _ h ⟨R,μ,hr,rfl⟩)
 ·rename_i b hx
  have he:a.eval x = .bool b:=opd_vr hr hx
  exact wp_value (v:=.bool !b) (by simp [execOp,Op.unary,he]) (hk _ st _ _ h ⟨R,μ,hr,rfl⟩)
 ·rename_i kd n hx
  have he:a.eval x = .int kd n:=opd_vr hr hx
  exact wp_value (v:=.int kd (ixor kd (if kd.signed then -1 else kd.max) n)) (by simp [execOp,Op.unary,Op.intBits,he,ixor]) (hk _ st _ _ h ⟨R,μ,hr,rfl⟩)
 ·cases h
theorem s_fieldAddr {s:TypeId} {x:Operand} {f:Nat} (h:evalOp tab G ⟨dst,.fieldAddr s x f,ty,pos,after,guard⟩ st k = some r) (hr:Rel c st a w) (hk:Kok c a k r dst Kp):(⟨dst,.fieldAddr s x f,ty,pos,after,guard⟩:Oper).wp P a w Kp Q:=by
 simp only [evalOp,e_fieldAddr] at h
 obtain ⟨R,μ,hr⟩:=hr
 split at h
 ·rename_i fs _ _ _ _ _ hs
  split at h
  ·rename_i fl hf
   split at h
   ·rename_i fi hfi
    have hu:=(hP _ _ hs).und
    have hsz:=(hP _ _ hfi).rsize w
    cases hb:Nat.blt 0 fi.size with
    | false=>rw [hb] at h; cases h
    | true=>
     rw [hb] at h
     simp only [cond_true] at h
     have hpos:0 < fi.size:=Nat.le_of_ble_eq_true hb
     have hne:¬ fi.size = 0:=by omega
     have run:∀ b o,a.eval x = .pointer (some ⟨b,o,none⟩)→(execOp a.eval ⟨dst,.fieldAddr s x f,ty,pos,after,guard⟩).run P w = .ok (.value (.pointer (some ⟨b,o + fl.offset,none⟩))) w:=by
      intro b o he
      simp [execOp,Instr.fieldAt,run_underlying hu,hf,he,Instr.sureAddr,fieldPlace,hsz,hne,add_at]
     split at h
     ·rename_i i o hx
      obtain ⟨b,hm,he⟩:=opd_vr hr hx
      exact wp_value (run b o he) (hk _ st _ _ h ⟨R,μ,hr,b,hm,rfl⟩)
     ·rename_i t' y o hx
      obtain ⟨b,o',us,he,hrest⟩:=opd_vr hr hx
      exact wp_value (run b _ he) (hk _ st _ _ h ⟨R,μ,hr,b,o',us,by rw [Nat.add_assoc],hrest⟩)
     ·rename_i i sz j o hx
      obtain ⟨b,m,cc,hm,hj,he⟩:=opd_vr hr hx
      exact wp_value (run b _ he) (hk _ st _ _ h ⟨R,μ,hr,b,m,cc,hm,hj,by rw [Nat.add_assoc]⟩)
     ·cases h
   ·cases h
  ·cases h
 ·cases h
theorem part_run {ti:TI} {t:TypeId} (ht:TIok P t ti) {R:Nat→Prop} {μ:Nat→Option Value} {cs:List SC} {us:Array Value} (h:All2 (cr R w μ) cs us.toList) {off:Nat} {v:SV} (hp:part ti cs off = some v):
  ∃ u,(Go.part t us off).run P w = .ok u w∧vr R w μ v u:=by
 rcases part_ok h hp with ⟨h1,h2,h3⟩ | ⟨h1,u,h2,h3⟩
 ·refine ⟨.agg (us.extract off (off + ti.size)),by simp [Go.part,ht.ragg,h1,ht.rsize], ?_⟩
  have:us.extract off (off + ti.size) = ((us.toList.drop off).take ti.size).toArray:=by
   apply Array.ext'
   simp [List.extract_eq_take_drop]
  rw [this]
  exact h3
 ·rw [Array.getElem?_toList] at h2
  exact ⟨u,by simp [Go.part,ht.ragg,h1,h2],h3⟩
theorem s_field {s:TypeId} {x:Operand} {f:Nat} (h:evalOp tab G ⟨dst,.field s x f,ty,pos,after,guard⟩ st k = some r) (hr:Rel c st a w) (hk:Kok c a k r dst Kp):(⟨dst,.field s x f,ty,pos,after,guard⟩:Oper).wp P a w Kp Q:=by
 simp only [evalOp,e_field] at h
 obtain ⟨R,μ,hr⟩:=hr
 split at h
 ·rename_i fs _ _ _ _ _ hs
  split at h
  ·rename_i fl hf
   split at h
   ·rename_i fi cs hfi hx
    split at h
    ·rename_i v hp
     have hu:=(hP _ _ hs).und
     obtain ⟨us,he,hall⟩:=opd_vr hr hx
     obtain ⟨u,hu1,hv⟩:=part_run hP (hP _ _ hfi) hall hp
     exact wp_value (v:=u) (by simp [execOp,Instr.field,run_underlying hu,hf,he,asAgg,hu1]) (hk _ st _ _ h ⟨R,μ,hr,hv⟩)
    ·cases h
   ·cases h
  ·cases h
 ·cases h
theorem cond_some {b:Bool} {x:Option Ans} (h:(bif b then x else none) = some r):b = true∧x = some r:=by
 cases b with
 | true=>exact ⟨rfl,h⟩
 | false=>cases h
omit hP in
theorem byIdx_some {i:Int} {f:Nat→Option Ans}:∀ {m j:Nat},byIdx i f m j = some r→∃ n:Nat,i = (n:Int)∧f n = some r
 | 0,_,h=>by cases h
 | m + 1,j,h=>by
  unfold byIdx at h
  cases hd:decide (i = (j:Int)) with
  | true=>rw [hd] at h; exact ⟨j,of_decide_eq_true hd,h⟩
  | false=>rw [hd] at h; exact byIdx_some h
theorem s_indexAddr {t:TypeId} {x ix:Operand} (h:evalOp tab G ⟨dst,.indexAddr t x ix,ty,pos,after,guard⟩ st k = some r) (hr:Rel c st a w) (hk:Kok c a k r dst Kp):(⟨dst,.indexAddr t x ix,ty,pos,after,guard⟩:Oper).wp P a w Kp Q:=by
 simp only [evalOp,e_indexAddr] at h
 obtain ⟨R,μ,hr⟩:=hr
 split at h
 ·rename_i av kk i hx hi
  have hi:a.eval ix = .int kk i:=opd_vr hr hi
  have hx':=opd_vr hr hx
  split at h
  ·-- a slice
   rename_i e _ _ _ _ _ ht
   have hu:=(hP _ _ ht).und
   split at h
   ·rename_i ei he
    have hsz:=(hP _ _ he).rsize w
    have run:∀ b o n cc,a.eval x = .slice (some ⟨b,o,none⟩) n cc→0≤i→i < (n:Int)→(execOp a.eval ⟨dst,.indexAddr t x ix,ty,pos,after,guard⟩).run P w = .ok (.value (.pointer (some ⟨b,o + i.toNat * ei.size,none⟩))) w:=by
     intro b o n cc hv h0 h1
     simp [execOp,Instr.indexAt,asIntOf,hi,run_underlying hu,hv,h0,h1,hsz,add_at]
    split at h
    ·rename_i ty' xs
     obtain ⟨hb,h⟩:=cond_some hP h
     obtain ⟨hd,h⟩:=cond_some hP h
     have hb:=Nat.eq_of_beq_eq_true hb
     obtain ⟨h0,h1⟩:=of_decide_eq_true hd
     obtain ⟨A,cc,hv,hle,hel⟩:=slv_form.1 hx'
     have hlt:i.toNat < xs.length:=by omega
     obtain ⟨b,o,us,hA,hRb,hbl,hrv,hat⟩:=hel i.toNat hlt
     subst hA
     have hg:xs.getD i.toNat (dflt ty') = xs[i.toNat]:=by simp [List.getD_eq_getElem?_getD,List.getElem?_eq_getElem hlt]
     refine wp_value (run b o _ cc hv h0 h1) (hk _ st _ _ h ⟨R,μ,hr,b,o + i.toNat * ei.size,us,rfl,hRb,by rw [hg]; exact hrv,by rw [hb]; exact hat⟩)
    ·rename_i id
     split at h
     ·rename_i e' ty' xs _ hl
      obtain ⟨hb,h⟩:=cond_some hP h
      obtain ⟨hd,h⟩:=cond_some hP h
      have hb:=Nat.eq_of_beq_eq_true hb
      obtain ⟨h0,h1⟩:=of_decide_eq_true hd
      obtain ⟨v0,flat,g1,g2,g3,g4⟩:=hr.mem.heap.ob id _ hl
      obtain ⟨hm,_⟩:=hx'
      rw [g1] at hm
      cases hm
      have hlt:i.toNat < xs.length:=by omega
      rcases g2.2 with ⟨e1,e2⟩ | ⟨g,cap,cur,e1,_⟩
      ·omega
      ·refine wp_value (run g 0 _ cap e1 h0 h1) (hk _ st _ _ h ⟨R,μ,hr,g,xs.length,cap,by rw [g1,e1],hlt,by rw [hb]; simp⟩)
     ·cases h
    ·rename_i id sz lo n
     obtain ⟨hb,h⟩:=cond_some hP h
     obtain ⟨hd,h⟩:=cond_some hP h
     have hb:=Nat.eq_of_beq_eq_true hb
     obtain ⟨h0,h1⟩:=of_decide_eq_true hd
     obtain ⟨A,cc,hv,hnc,A',m,c',hm,hle,hA⟩:=hx'
     obtain ⟨b,e1,e2⟩:=hA (by omega)
     subst e1
     subst e2
     refine wp_value (run b (lo * sz) n cc hv h0 h1) (hk _ st _ _ h ⟨R,μ,hr,b,m,c',hm,by omega, ?_⟩)
     rw [hb, ← Nat.add_mul]; rfl
    ·cases h
   ·cases h
  ·-- an array
   rename_i n e _ _ _ _ _ ht
   have hu:=(hP _ _ ht).und
   split at h
   ·rename_i ei he
    have hsz:=(hP _ _ he).rsize w
    have run:∀ b o,a.eval x = .pointer (some ⟨b,o,none⟩)→0≤i→i < (n:Int)→(execOp a.eval ⟨dst,.indexAddr t x ix,ty,pos,after,guard⟩).run P w = .ok (.value (.pointer (some ⟨b,o + i.toNat * ei.size,none⟩))) w:=by
     intro b o hv h0 h1
     simp [execOp,Instr.indexAt,asIntOf,hi,run_underlying hu,hv,Instr.sureAddr,h0,h1,hsz,add_at]
    split at h
    ·obtain ⟨hd,h⟩:=cond_some hP h
     obtain ⟨h0,h1⟩:=of_decide_eq_true hd
     obtain ⟨b,hm,hv⟩:=hx'
     obtain ⟨j,hj',h2⟩:=byIdx_some h
     subst hj'
     exact wp_value (run b _ hv h0 h1) (hk _ st _ _ h2 ⟨R,μ,hr,b,hm,by rw [Int.toNat_natCast]⟩)
    ·obtain ⟨hd,h⟩:=cond_some hP h
     obtain ⟨h0,h1⟩:=of_decide_eq_true hd
     obtain ⟨b,o',us,hv,hrest⟩:=hx'
     obtain ⟨j,hj',h2⟩:=byIdx_some h
     subst hj'
     exact wp_value (run b _ hv h0 h1) (hk _ st _ _ h2 ⟨R,μ,hr,b,o',us,by rw [Nat.add_assoc,Int.toNat_natCast],hrest⟩)
    ·obtain ⟨hd,h⟩:=cond_some hP h
     obtain ⟨h0,h1⟩:=of_decide_eq_true hd
     obtain ⟨b,m,cc,hm,hj,hv⟩:=hx'
     obtain ⟨j,hj',h2⟩:=byIdx_some h
     subst hj'
     exact wp_value (run b _ hv h0 h1) (hk _ st _ _ h2 ⟨R,μ,hr,b,m,cc,hm,hj,by rw [Nat.add_assoc,Int.toNat_natCast]⟩)
    ·cases h
   ·cases h
  ·cases h
 ·cases h
theorem s_index {t:TypeId} {x ix:Operand} (h:evalOp tab G ⟨dst,.index t x ix,ty,pos,after,guard⟩ st k = some r) (hr:Rel c st a w) (hk:Kok c a k r dst Kp):(⟨dst,.index t x ix,ty,pos,after,guard⟩:Oper).wp P a w Kp Q:=by
 simp only [evalOp,e_index] at h
 obtain ⟨R,μ,hr⟩:=hr
 split at h
 ·rename_i n e _ _ _ _ _ cs kk i ht hx hi
  have hi:a.eval ix = .int kk i:=opd_vr hr hi
  obtain ⟨us,he,hall⟩:=opd_vr hr hx
  have hu:=(hP _ _ ht).und
  split at h
  ·rename_i ei hei
   obtain ⟨hd,h⟩:=cond_some hP h
   obtain ⟨h0,h1⟩:=of_decide_eq_true hd
   obtain ⟨j,hj',h2⟩:=byIdx_some h
   clear h
   subst hj'
   split at h2
   ·rename_i v hp
    obtain ⟨u,hu1,hv⟩:=part_run hP (hP _ _ hei) hall hp
    exact wp_value (v:=u) (by simp [execOp,Instr.index,asIntOf,hi,run_underlying hu,he,(hP _ _ hei).rsize,Int.toNat_natCast,hu1]; intro hle; omega) (hk _ st _ _ h2 ⟨R,μ,hr,hv⟩)
   ·cases h2
  ·cases h
 ·rename_i _ _ _ _ _ s kk i ht hx hi
  have hi:a.eval ix = .int kk i:=opd_vr hr hi
  have hx:a.eval x = .string s:=opd_vr hr hx
  have hu:=(hP _ _ ht).und
  obtain ⟨hd,h⟩:=cond_some hP h
  obtain ⟨h0,h1⟩:=of_decide_eq_true hd
  have hlt:i.toNat < s.size:=by omega
  have hg:s[i.toNat]? = some (s.data.toList.getD i.toNat 0):=by
   rw [ByteArray.getElem?_lt' s _ hlt]
   congr 1
   have hlt':i.toNat < s.data.toList.length:=hlt
   rw [List.getD_eq_getElem?_getD,List.getElem?_eq_getElem hlt']
   rfl
  exact wp_value (v:=.int .u8 ((s.data.toList.getD i.toNat 0).toNat:Int)) (by simp only [execOp,Instr.index,hi,hx,asIntOf,Sem.run_bind,run_underlying hu,Result.andThen_ok,Sem.run_pure,if_pos h0,hg]) (hk _ st _ _ h ⟨R,μ,hr,rfl⟩)
 ·cases h
theorem eq_bool {t:TypeId} (hu:P.underlying t = some .bool) (p q:Bool):(Op.equal t (.bool p) (.bool q)).run P w = .ok (p==q) w:=by
 have:∀ d,(Op.equalIn (d + 1) t (.bool p) (.bool q)).run P w = .ok (p==q) w:=by
  intro d
  rw [Op.equalIn]
  simp only [Sem.run_bind,run_underlying hu,Result.andThen_ok,Sem.run_pure]
 exact this 9999
theorem eq_ptr {t e:TypeId} (hu:P.underlying t = some (.pointer e)) (A:Option Addr):(Op.equal t (.pointer A) (.pointer none)).run P w = .ok A.isNone w:=by
 have:∀ d,(Op.equalIn (d + 1) t (.pointer A) (.pointer none)).run P w = .ok A.isNone w:=by
  intro d
  rw [Op.equalIn]
  cases A <;> simp only [Sem.run_bind,run_underlying hu,Result.andThen_ok,Sem.run_pure] <;> rfl
 exact this 9999
theorem bin_ok {op:BinOp} {xt:TypeId} {x y:SC} {K:SC→Option Ans} (h:evalBin tab op xt x y K = some r) {R:Nat→Prop} {μ:Nat→Option Value} {u v:Value} {xo yo:Operand} (hx:cr R w μ x u) (hy:cr R w μ y v):
  ∃ z q,K z = some r∧cr R w μ z q∧(do eqGuard op xt xo yo u v; binOp op xt u v:Sem Value).run P w = .ok q w:=by
 have eg:∀ {u v:Value},(∀ cs,u ≠ .agg cs)→u ≠ .nilIface→(eqGuard op xt xo yo u v).run P w = .ok () w:=by
  intro u v h1 h2
  cases u <;> first
   | exact absurd rfl h2
   | exact absurd rfl (h1 _)
   | (cases op <;> rfl)
 unfold evalBin at h
 split at h
 ·-- two whole numbers
  rename_i kx p ky q
  have hx:u = .int kx p:=hx
  have hy:v = .int ky q:=hy
  subst hx
  subst hy
  simp only [Sem.run_bind,eg (u:=.int kx p) (v:=.int ky q) (fun _ e=>by cases e) (by simp),Result.andThen_ok]
  split at h
  ·obtain ⟨hd,h⟩:decide (q < 0) = false∧K (.int kx (ishl kx p q)) = some r:=by
    cases hd:decide (q < 0) with
    | true=>rw [hd] at h; cases h
    | false=>rw [hd] at h; exact ⟨rfl,h⟩
   have hd:=of_decide_eq_false hd
   exact ⟨_,.int kx (ishl kx p q),h,rfl,by simp [binOp,Op.shift,hd,ishl]⟩
  ·obtain ⟨hd,h⟩:decide (q < 0) = false∧K (.int kx (ishr kx p q)) = some r:=by
    cases hd:decide (q < 0) with
    | true=>rw [hd] at h; cases h
    | false=>rw [hd] at h; exact ⟨rfl,h⟩
   have hd:=of_decide_eq_false hd
   exact ⟨_,.int kx (ishr kx p q),h,rfl,by simp [binOp,Op.shift,hd,ishr]⟩
  ·rename_i h1 h2
   split at h
   ·rename_i hkk
    subst hkk
    have nz:∀ {z:SC},(bif decide (q = 0) then none else K z) = some r→¬ q = 0∧K z = some r:=by
     intro z h
     cases hd:decide (q = 0) with
     | true=>rw [hd] at h; cases h
     | false=>rw [hd] at h; exact ⟨of_decide_eq_false hd,h⟩
    cases op <;> simp only [evalInt] at h <;> first
     | exact absurd rfl h1
     | exact absurd rfl h2
     | exact (h1 rfl).elim
     | exact (h2 rfl).elim
     | (cases h; done)
     | (obtain ⟨hz,h⟩:=nz h; refine ⟨_,_,h,rfl, ?_⟩; simp [binOp,Op.intDiv,hz]; done)
     | (refine ⟨_,_,h,rfl, ?_⟩; simp [binOp,Op.intArith]; done)
     | (refine ⟨_,_,h,rfl, ?_⟩; simp [binOp,Op.intBits,iand,ior,ixor,iandNot]; done)
     | (refine ⟨_,_,h,rfl, ?_⟩; simp [binOp,Op.intCmp]; done)
   ·cases h
 ·rename_i p q
  have hx:u = .bool p:=hx
  have hy:v = .bool q:=hy
  subst hx
  subst hy
  simp only [Sem.run_bind,eg (u:=.bool p) (v:=.bool q) (fun _ e=>by cases e) (by simp),Result.andThen_ok]
  split at h
  ·rename_i ht
   have hu:=(hP _ _ ht).und
   exact ⟨_,.bool (p==q),h,rfl,by simp [binOp,eq_bool hP hu]⟩
  ·rename_i ht
   have hu:=(hP _ _ ht).und
   exact ⟨_,.bool (!(p==q)),h,rfl,by simp [binOp,eq_bool hP hu]⟩
  ·cases h
 ·rename_i p q
  have hx:u = .string p:=hx
  have hy:v = .string q:=hy
  subst hx
  subst hy
  simp only [Sem.run_bind,eg (u:=.string p) (v:=.string q) (fun _ e=>by cases e) (by simp),Result.andThen_ok]
  split at h
  ·exact ⟨_,.bool (p.toList==q.toList),h,rfl,by simp [binOp,Op.stringOp]⟩
  ·exact ⟨_,.bool (!(p.toList==q.toList)),h,rfl,by simp [binOp,Op.stringOp]⟩
  ·cases h
 ·obtain ⟨b,_,hx⟩:=hx
  have hy:v = .pointer none:=hy
  subst hx
  subst hy
  have eg':=fun (A:Option Addr)=>eg (u:=.pointer A) (v:=.pointer none) (fun _ e=>by cases e) (by simp)
  simp only [Sem.run_bind,eg',Result.andThen_ok]
  split at h
  ·rename_i ht
   have hu:=(hP _ _ ht).und
   exact ⟨_,.bool false,h,rfl,by simp [binOp,eq_ptr hP hu]⟩
  ·rename_i ht
   have hu:=(hP _ _ ht).und
   exact ⟨_,.bool true,h,rfl,by simp [binOp,eq_ptr hP hu]⟩
  ·cases h
 ·have hx:u = .pointer none:=hx
  have hy:v = .pointer none:=hy
  subst hx
  subst hy
  simp only [Sem.run_bind,eg (u:=.pointer none) (v:=.pointer none) (fun _ e=>by cases e) (by simp),Result.andThen_ok]
  split at h
  ·rename_i ht
   have hu:=(hP _ _ ht).und
   exact ⟨_,.bool true,h,rfl,by simp [binOp,eq_ptr hP hu]⟩
  ·rename_i ht
   have hu:=(hP _ _ ht).und
   exact ⟨_,.bool false,h,rfl,by simp [binOp,eq_ptr hP hu]⟩
  ·cases h
 ·cases h
theorem eqFs_ok {r:TypeId→SV→SV→Option Bool} {d:Nat} {R:Nat→Prop} {μ:Nat→Option Value}
  (hr:∀ {t:TypeId} {x y:SV} {b:Bool} {u v:Value},r t x y = some b→vr R w μ x u→vr R w μ y v→(Op.equalIn d t u v).run P w = .ok b w)
  {as bs:List SC} {xs ys:Array Value} (ha:All2 (cr R w μ) as xs.toList) (hb:All2 (cr R w μ) bs ys.toList):∀ {fs:List Field} {b:Bool},eqFs tab r fs as bs = some b→(∀ f ∈ fs,f.name ≠ "_")→
   (Op.eqFields d xs ys fs).run P w = .ok b w
 | [],b,h,_=>by cases h; simp [Op.eqFields]
 | f::fs,b,h,hn=>by
  simp only [eqFs] at h
  split at h
  ·rename_i fi hfi
   have ht:=hP _ _ hfi
   split at h
   ·rename_i x y hx hy
    obtain ⟨u,hu,hxu⟩:=part_run hP ht ha hx
    obtain ⟨v,hv,hyv⟩:=part_run hP ht hb hy
    split at h
    ·rename_i p q hp hq
     cases h
     have h1:=hr hp hxu hyv
     have h2:=eqFs_ok hr ha hb hq fun f' hf'=>hn f' (by simp [hf'])
     rw [Op.eqFields,if_pos (hn f (by simp))]
     simp only [Sem.run_bind,hu,hv,h1,Result.andThen_ok]
     cases p
     ·simp
     ·simpa using h2
    ·cases h
   ·cases h
  ·cases h
theorem eqEs_ok {e:TypeId} {ei:TI} (he:tab e = some ei) {r:SV→SV→Option Bool} {d:Nat} {R:Nat→Prop} {μ:Nat→Option Value}
  (hr:∀ {x y:SV} {b:Bool} {u v:Value},r x y = some b→vr R w μ x u→vr R w μ y v→(Op.equalIn d e u v).run P w = .ok b w)
  {as bs:List SC} {xs ys:Array Value} (ha:All2 (cr R w μ) as xs.toList) (hb:All2 (cr R w μ) bs ys.toList):∀ {is:List Nat} {b:Bool},eqEs r ei as bs is = some b→
   (Op.eqItems d e ei.size xs ys is).run P w = .ok b w
 | [],b,h=>by cases h; simp [Op.eqItems]
 | i::is,b,h=>by
  simp only [eqEs] at h
  have ht:=hP _ _ he
  split at h
  ·rename_i x y hx hy
   obtain ⟨u,hu,hxu⟩:=part_run hP ht ha hx
   obtain ⟨v,hv,hyv⟩:=part_run hP ht hb hy
   split at h
   ·rename_i p q hp hq
    cases h
    have h1:=hr hp hxu hyv
    have h2:=eqEs_ok he hr ha hb hq
    rw [Op.eqItems]
    simp only [Sem.run_bind,hu,hv,h1,Result.andThen_ok]
    cases p
    ·simp
    ·simpa using h2
   ·cases h
  ·cases h
theorem eqV_ok:∀ (n:Nat) {t:TypeId} {x y:SV} {b:Bool} {R:Nat→Prop} {μ:Nat→Option Value} {u v:Value} (d:Nat),n≤d→eqV tab n t x y = some b→vr R w μ x u→vr R w μ y v→(Op.equalIn d t u v).run P w = .ok b w
 | 0,_,_,_,_,_,_,_,_,_,_,h,_,_=>by cases h
 | n + 1,t,x,y,b,R,μ,u,v,d,hd,h,hx,hy=>by
  obtain ⟨d,rfl⟩:∃ e,d = e + 1:=⟨d - 1,by omega⟩
  simp only [eqV] at h
  split at h
  ·rename_i ti hti
   have ht:=hP _ _ hti
   have hu':=ht.und
   split at h
   ·rename_i k0 k1 a k2 b' hdsc
    split at h
    ·rename_i hk
     subst hk
     cases h
     cases hx
     cases hy
     rw [hdsc] at hu'
     exact run_equalIn_int w d t _ _ _ _ hu'
    ·cases h
   ·rename_i a b' hdsc
    cases h
    cases hx
    cases hy
    rw [hdsc] at hu'
    exact run_equalIn_bool' w d t _ _ hu'
   ·rename_i a b' hdsc
    cases h
    cases hx
    cases hy
    rw [hdsc] at hu'
    exact run_equalIn_string w d t _ _ hu'
   ·rename_i fs as bs hdsc
    obtain ⟨he,h⟩:ti.eqs = true∧eqFs tab (eqV tab n) fs.toList as bs = some b:=by
     cases he:ti.eqs with
     | true=>rw [he] at h; exact ⟨rfl,h⟩
     | false=>rw [he] at h; cases h
    obtain ⟨xs,rfl,hxs⟩:=hx
    obtain ⟨ys,rfl,hys⟩:=hy
    obtain ⟨e1,e2,e3⟩:=ht.eqs he
    rw [hdsc] at hu'
    have hf:P.fieldsOf t = fs:=by simp [Program.fieldsOf,hu']
    rw [run_equalIn_struct w d t xs ys (by rw [hf]; exact hu') e1,hf]
    exact eqFs_ok hP (fun h hx hy=>eqV_ok n d (by omega) h hx hy) hxs hys h (e3 fs hdsc)
   ·rename_i m e as bs hdsc
    split at h
    ·rename_i ei hei
     obtain ⟨xs,rfl,hxs⟩:=hx
     obtain ⟨ys,rfl,hys⟩:=hy
     rw [hdsc] at hu'
     have hte:=hP _ _ hei
     obtain ⟨i,zv,i1,i2,_⟩:=hte.inf
     have hc:P.cellsOf e = ei.size:=by simp [Program.cellsOf,i1,i2]
     rw [run_equalIn_array (w:=w) d xs ys hu' i1,hc]
     exact eqEs_ok hP hei (fun h hx hy=>eqV_ok n d (by omega) h hx hy) hxs hys h
    ·cases h
   ·cases h
  ·cases h
theorem both_some0 {x y:Option Ans} {r:Ans} (h:both x y = some r):x = some r∧y = some r:=by
 cases x with
 | none=>cases h
 | some u=>exact ⟨by cases u; cases r; rfl,h⟩
theorem len_slice {R:Nat→Prop} {μ:Nat→Option Value} (hr:RelB c st a w R μ) {x:SC} {n:Int} {u:Value} (h:lenOfC st.hp x = some n) (hx:cr R w μ x u):∃ A m cc,u = .slice A m cc∧(n ≠ 0→A.isNone = false):=by
 cases x with
 | sl t xs=>
  cases h
  obtain ⟨A,cc,e1,e2,e3⟩:=slv_form.1 hx
  refine ⟨A,_,cc,e1,fun hn=> ?_⟩
  cases xs with
  | nil=>exact absurd rfl hn
  | cons x xs=>
   obtain ⟨b,o,us,e,_⟩:=e3 0 (by simp)
   rw [e]; rfl
 | own i=>
  simp only [lenOfC] at h
  split at h
  ·rename_i e t xs m hl
   cases h
   obtain ⟨v0,flat,g1,g2,g3,g4⟩:=hr.mem.heap.ob _ _ hl
   have e1:=hx.1
   rw [g1] at e1
   cases e1
   rcases g2.2 with ⟨q1,q2⟩ | ⟨g,cap,cur,q1,_⟩
   ·exact ⟨none,0,0,q1,fun hn=>absurd (by rw [q2]; rfl) hn⟩
   ·exact ⟨_,_,_,q1,fun _=>rfl⟩
  ·cases h
 | sub i sz lo m=>
  cases h
  obtain ⟨A,cc,e1,e2,A',m',c',h3,h4,h5⟩:=hx
  refine ⟨A,m,cc,e1,fun hn=> ?_⟩
  obtain ⟨b,_,e⟩:=h5 (by omega)
  rw [e]; rfl
 | _=>cases h
theorem run_eql_nil {t e:TypeId} (A:Option Addr) (n cc:Nat) (h:P.underlying t = some (.slice e)):(binOp .eql t (.slice A n cc) (.slice none 0 0)).run P w = .ok (.bool A.isNone) w:=by
 have:=Go.run_equal_slice_nil (P:=P) w t e A n cc h
 simp [binOp,this,Result.andThen]
theorem run_neq_nil {t e:TypeId} (A:Option Addr) (n cc:Nat) (h:P.underlying t = some (.slice e)):(binOp .neq t (.slice A n cc) (.slice none 0 0)).run P w = .ok (.bool !A.isNone) w:=by
 have:=Go.run_equal_slice_nil (P:=P) w t e A n cc h
 simp [binOp,this,Result.andThen]
theorem s_binOp {op:BinOp} {xt yt:TypeId} {x y:Operand} (h:evalOp tab G ⟨dst,.binOp op xt x y yt,ty,pos,after,guard⟩ st k = some r) (hr:Rel c st a w) (hk:Kok c a k r dst Kp):(⟨dst,.binOp op xt x y yt,ty,pos,after,guard⟩:Oper).wp P a w Kp Q:=by
 simp only [evalOp,e_binOp] at h
 obtain ⟨R,μ,hr⟩:=hr
 by_cases hn:nilSl y = true
 ·rw [hn] at h
  simp only [cond_true] at h
  have ey:a.eval y = .slice none 0 0:=by
   unfold nilSl at hn
   split at hn
   ·rfl
   ·cases hn
  split at h
  ·rename_i e _ _ _ _ _ p ht hx
   have hu:=(hP _ _ ht).und
   split at h
   ·rename_i n hl
    obtain ⟨A,m,cc,ex,hA⟩:=len_slice hP hr hl (opd_vr hr hx)
    have fin:∀ (b:Bool) (v:Value),v = .bool b→k (.c (.bool b)) st = some r→(binOp op xt (a.eval x) (a.eval y)).run P w = .ok v w→(⟨dst,.binOp op xt x y yt,ty,pos,after,guard⟩:Oper).wp P a w Kp Q:=by
     intro b v hv h1 h2
     subst hv
     refine wp_value (v:=.bool b) (w':=w) ?_ (hk _ st _ _ h1 ⟨R,μ,hr,rfl⟩)
     have hg:(eqGuard op xt x y (a.eval x) (a.eval y)).run P w = .ok () w:=by rw [ex,ey]; cases op <;> rfl
     show (((do eqGuard op xt x y (a.eval x) (a.eval y); binOp op xt (a.eval x) (a.eval y):Sem Value) >>= fun v=>pure (.value v):Sem Next)).run P w = _
     rw [Sem.run_bind,Sem.run_bind,hg,Result.andThen_ok,h2]
     rfl
    have hz:n ≠ 0→A.isNone = false:=hA
    split at h
    ·have hrun:=run_eql_nil hP (w:=w) A m cc hu
     rw [← ex, ← ey] at hrun
     by_cases h0:n = 0
     ·rw [decide_eq_true h0,cond_true] at h
      obtain ⟨h1,h2⟩:=both_some0 hP h
      cases hb:A.isNone with
      | true=>exact fin true _ (by rw [hb]) h1 hrun
      | false=>exact fin false _ (by rw [hb]) h2 hrun
     ·rw [decide_eq_false h0,cond_false] at h
      exact fin false _ (by rw [hz h0]) h hrun
    ·have hrun:=run_neq_nil hP (w:=w) A m cc hu
     rw [← ex, ← ey] at hrun
     by_cases h0:n = 0
     ·rw [decide_eq_true h0,cond_true] at h
      obtain ⟨h1,h2⟩:=both_some0 hP h
      cases hb:A.isNone with
      | true=>exact fin false _ (by rw [hb]; rfl) h1 hrun
      | false=>exact fin true _ (by rw [hb]; rfl) h2 hrun
     ·rw [decide_eq_false h0,cond_false] at h
      exact fin true _ (by rw [hz h0]; rfl) h hrun
    ·cases h
   ·cases h
  ·cases h
 rw [Bool.not_eq_true] at hn
 rw [hn] at h
 simp only [cond_false] at h
 split at h
 ·rename_i p q hx hy
  obtain ⟨z,v,h1,h2,h3⟩:=bin_ok hP h (xo:=x) (yo:=y) (opd_vr hr hx) (opd_vr hr hy)
  refine wp_value (v:=v) (w':=w) ?_ (hk _ st _ _ h1 ⟨R,μ,hr,h2⟩)
  show (((do eqGuard op xt x y (a.eval x) (a.eval y); binOp op xt (a.eval x) (a.eval y):Sem Value) >>= fun v=>pure (.value v):Sem Next)).run P w = _
  rw [Sem.run_bind,h3]
  rfl
 ·rename_i as bs hx hy
  obtain ⟨us,e1,hxs⟩:=opd_vr hr hx
  obtain ⟨vs,e2,hys⟩:=opd_vr hr hy
  split at h
  ·rename_i ti hti
   obtain ⟨he,h⟩:=cond_some hP h
   have ht:=hP _ _ hti
   obtain ⟨g1,g2,g3⟩:=ht.eqs he
   have hg:=run_eqGuard_agg (P:=P) w op xt x y us vs g2
   have key:∀ b,eqV tab 12 xt (.agg as) (.agg bs) = some b→(Op.equalIn 10000 xt (.agg us) (.agg vs)).run P w = .ok b w:=fun b hb=>
    eqV_ok hP 12 10000 (by omega) hb (R:=R) (μ:=μ) ⟨us,rfl,hxs⟩ ⟨vs,rfl,hys⟩
   split at h
   ·split at h
    ·rename_i b hb
     refine wp_value (v:=.bool b) (w':=w) ?_ (hk _ st _ _ h ⟨R,μ,hr,rfl⟩)
     show (((do eqGuard .eql xt x y (a.eval x) (a.eval y); binOp .eql xt (a.eval x) (a.eval y):Sem Value) >>= fun v=>pure (.value v):Sem Next)).run P w = _
     rw [e1,e2]
     simp only [Sem.run_bind,hg,Result.andThen_ok,run_eql_struct,key b hb,Sem.run_pure]
    ·cases h
   ·split at h
    ·rename_i b hb
     refine wp_value (v:=.bool (!b)) (w':=w) ?_ (hk _ st _ _ h ⟨R,μ,hr,rfl⟩)
     show (((do eqGuard .neq xt x y (a.eval x) (a.eval y); binOp .neq xt (a.eval x) (a.eval y):Sem Value) >>= fun v=>pure (.value v):Sem Next)).run P w = _
     rw [e1,e2]
     simp only [Sem.run_bind,hg,Result.andThen_ok,run_neq_struct,key b hb,Sem.run_pure]
    ·cases h
   ·cases h
  ·cases h
 ·cases h
end
end Go.Proofs.YtohnjbmiaegofaaGreat.Ev
