/- Each operation of the machine does what the evaluator says: reads, arithmetic, fresh memory. -/
import Derived.Test.YtohnjbmiaegofaaGreatEvC
import Derived.Laws.CopyRow
import Derived.Laws.Cells
import Derived.Laws.Entries
set_option linter.unusedVariables false
set_option linter.unusedSimpArgs false
namespace Go.Proofs.YtohnjbmiaegofaaGreat.Ev
open Go
def zok:(t:Ty)→List Value→Option (List Value)
 | .int k=>fun l=>match l with
  | .int k' n::r=>if k = k'∧n = 0 then some r else none
  | _=>none
 | .bool=>fun l=>match l with
  | .bool false::r=>some r
  | _=>none
 | .str=>fun l=>match l with
  | .string ⟨⟨[]⟩⟩::r=>some r
  | _=>none
 | .sl _=>fun l=>match l with
  | .slice none 0 0::r=>some r
  | _=>none
 | .unit=>fun l=>some l
 | .pair a b=>fun l=>match zok a l with
  | some r=>zok b r
  | none=>none
theorem zok_rv {R:Nat→Prop} {w:World}:∀ {t:Ty} {vs r:List Value},zok t vs = some r→∃ us,vs = us++r∧rv R w t (dflt t) us
 | .int k,vs,r,h=>by
  simp only [zok] at h
  split at h
  ·split at h
   ·rename_i hk; cases h; obtain ⟨rfl,rfl⟩:=hk; exact ⟨[.int k 0],rfl,rfl⟩
   ·cases h
  ·cases h
 | .bool,vs,r,h=>by
  simp only [zok] at h
  split at h
  ·cases h; exact ⟨[.bool false],rfl,rfl⟩
  ·cases h
 | .str,vs,r,h=>by
  simp only [zok] at h
  split at h
  ·cases h; exact ⟨[.string ByteArray.empty],rfl,rfl⟩
  ·cases h
 | .sl t,vs,r,h=>by
  simp only [zok] at h
  split at h
  ·cases h
   refine ⟨[.slice none 0 0],rfl, ?_⟩
   simp only [rv,dflt]
   exact ⟨none,0,rfl,Nat.le_refl _,fun i hi=>by simp at hi⟩
  ·cases h
 | .unit,vs,r,h=>by
  simp only [zok] at h
  cases h
  exact ⟨[],rfl,rfl⟩
 | .pair a b,vs,r,h=>by
  simp only [zok] at h
  split at h
  ·rename_i r' h1
   obtain ⟨us,rfl,g1⟩:=zok_rv (R:=R) (w:=w) h1
   obtain ⟨us',rfl,g2⟩:=zok_rv (R:=R) (w:=w) h
   exact ⟨us++us',by simp,us,us',rfl,g1,g2⟩
  ·cases h
def aggV:Value→Bool
 | .agg _=>true
 | _=>false
structure TIok (P:Program) (t:TypeId) (ti:TI):Prop where
 und:P.underlying t = some ti.desc
 inf:∃ i zv,P.info? t = some i∧i.size = ti.size∧i.bytes = ti.bytes∧i.zero = some zv∧zv.cells.toList = ti.zv
 zty:∀ ty,ti.ty = some ty→zok ty ti.zv = some []
 zagg:∀ i zv,P.info? t = some i→i.zero = some zv→aggV zv = isAggD ti.desc
 eqs:ti.eqs = true→P.stoodInHeld t = false∧P.eqGuardType P.depth t = false∧∀ fs,ti.desc = .struct fs→∀ f ∈ fs.toList,f.name ≠ "_"
def TabOK (P:Program) (tab:TypeId→Option TI):Prop:=∀ t ti,tab t = some ti→TIok P t ti
section
variable {P:Program} {t:TypeId} {ti:TI} (h:TIok P t ti) (w:World)
include h
theorem TIok.rund:(underlying t).run P w = .ok ti.desc w:=run_underlying h.und w
theorem TIok.rsize:(sizeOf t).run P w = .ok ti.size w:=by
 obtain ⟨i,zv,h1,h2,_⟩:=h.inf
 simp [sizeOf,typeInfo,program,h1,Sem.run,h2]
theorem TIok.rinfo:∃ i,(typeInfo t).run P w = .ok i w∧i.bytes = ti.bytes∧i.size = ti.size:=by
 obtain ⟨i,zv,h1,h2,h3,_⟩:=h.inf
 exact ⟨i,by simp [typeInfo,program,h1,Sem.run],h3,h2⟩
theorem TIok.rzero:∃ zv,(zeroValue t).run P w = .ok zv w∧zv.cells.toList = ti.zv:=by
 obtain ⟨i,zv,h1,h2,h3,h4,h5⟩:=h.inf
 exact ⟨zv,by simp [zeroValue,typeInfo,program,h1,Sem.run,h4],h5⟩
theorem TIok.rflat (ha:isAggD ti.desc = false):∃ zv,(zeroValue t).run P w = .ok zv w∧ti.zv = [zv]:=by
 obtain ⟨i,zv,h1,h2,h3,h4,h5⟩:=h.inf
 refine ⟨zv,by simp [zeroValue,typeInfo,program,h1,Sem.run,h4], ?_⟩
 have:=h.zagg i zv h1 h4
 rw [ha] at this
 rw [← h5]
 cases zv <;> first | rfl | cases this
theorem TIok.ragg:(isAgg t).run P w = .ok (isAggD ti.desc) w:=by
 simp only [isAgg,Sem.run_bind,h.rund,Result.andThen_ok]
 cases ti.desc <;> rfl
end
theorem constV_vr {R:Nat→Prop} {w:World} {μ:Nat→Option Value} {v:Value} {x:SV} (h:constV v = some x):vr R w μ x v:=by
 cases v with
 | int k n=>cases h; rfl
 | bool b=>cases h; rfl
 | string s=>cases h; rfl
 | pointer a=>cases a with
  | none=>cases h; rfl
  | some a=>cases h
 | map a=>cases a with
  | none=>cases h; trivial
  | some a=>cases h
 | _=>cases h
theorem opd_vr {c:Cx} {st:St} {a:Act} {w:World} {R:Nat→Prop} {μ:Nat→Option Value} (h:RelB c st a w R μ) {x:Operand} {v:SV} (hx:opd st x = some v):vr R w μ v (a.eval x):=by
 cases x with
 | tmp t=>exact h.env t v hx
 | const u=>exact constV_vr hx
 | func f=>cases hx; exact ⟨#[],rfl,.nil⟩
 | global g=>cases hx
variable {tab:TypeId→Option TI}
theorem nilC_ok {c:Cx} {st:St} {a:Act} {w:World} {R:Nat→Prop} {μ:Nat→Option Value} (h:RelB c st a w R μ) {t:TypeId} {x:SC} {st':St} (hx:nilC tab t st = some (x,st')):
  ∃ μ',RelB c st' a w R μ'∧Ext μ μ'∧cr R w μ' x (.slice none 0 0):=by
 unfold nilC at hx
 split at hx
 ·split at hx
  ·rename_i e _ _ _ _ _ _ _ _ _ ty hty
   cases hb:Nat.blt 0 ty.size with
   | false=>rw [hb] at hx; cases hx
   | true=>
    rw [hb] at hx
    simp only [cond_true,Option.some.injEq,Prod.mk.injEq] at hx
    obtain ⟨rfl,rfl⟩:=hx
    have hsz:0 < ty.size:=Nat.le_of_ble_eq_true hb
    have hn:μ st.nx = none:=by
     cases hm:μ st.nx with
     | none=>rfl
     | some u=>exact absurd (h.mem.dom _ _ hm) (Nat.lt_irrefl _)
    refine ⟨upd μ st.nx (.slice none 0 0),h.new (v:=.slice none 0 0) (Chg.refl _ w) ?_ (fun b hb=>by cases hb) (fun _ _ _ e=>by cases e),upd_ext hn,⟨by simp [upd],none,0,0,rfl⟩⟩
    exact ⟨.slice none 0 0,[],by simp [upd],orow_of (World.ownsRow_nil w 0 _ _),rfl,hsz⟩
  ·cases hx
 ·cases hx
theorem opdT_ok {c:Cx} {st:St} {a:Act} {w:World} {R:Nat→Prop} {μ:Nat→Option Value} (h:RelB c st a w R μ) {t:TypeId} {x:Operand} {v:SV} {st':St} (hx:opdT tab t st x = some (v,st')):
  ∃ μ',RelB c st' a w R μ'∧Ext μ μ'∧vr R w μ' v (a.eval x):=by
 unfold opdT at hx
 split at hx
 ·split at hx
  ·rename_i n v hl; cases hx; exact ⟨μ,h,Ext.refl μ,h.env _ _ hl⟩
  ·cases hx
 ·cases hx; exact ⟨μ,h,Ext.refl μ,⟨#[],rfl,.nil⟩⟩
 ·cases hx
 ·split at hx
  ·rename_i x st1 hn
   cases hx
   obtain ⟨μ',h1,h2,h3⟩:=nilC_ok h hn
   exact ⟨μ',h1,h2,h3⟩
  ·cases hx
 ·split at hx
  ·rename_i v hv; cases hx; exact ⟨μ,h,Ext.refl μ,constV_vr hv⟩
  ·cases hx
theorem ble_le {a b:Nat} (h:Nat.ble a b = true):a≤b:=Nat.le_of_ble_eq_true h
theorem part_ok {R:Nat→Prop} {w:World} {μ:Nat→Option Value} {ti:TI} {cs:List SC} {us:List Value} (h:All2 (cr R w μ) cs us) {off:Nat} {v:SV} (hp:part ti cs off = some v):
  (isAggD ti.desc = true∧off + ti.size≤us.length∧vr R w μ v (.agg ((us.drop off).take ti.size).toArray))∨(isAggD ti.desc = false∧∃ u,us[off]? = some u∧vr R w μ v u):=by
 unfold part at hp
 cases ha:isAggD ti.desc with
 | true=>
  left
  rw [ha] at hp
  cases hb:Nat.ble (off + ti.size) cs.length with
  | false=>rw [hb] at hp; cases hp
  | true=>
   rw [hb] at hp
   simp only [cond_true,Option.some.injEq] at hp
   subst hp
   have:=ble_le hb
   rw [h.length] at this
   exact ⟨rfl,this,_,rfl,(h.drop off).take _⟩
 | false=>
  right
  rw [ha] at hp
  simp only [cond_false] at hp
  split at hp
  ·rename_i x hx
   cases hp
   obtain ⟨u,hu,hc⟩:=h.get off x hx
   exact ⟨rfl,u,hu,hc⟩
  ·cases hp
theorem At.take {w:World} {b o:Nat} {us:List Value} (h:At w b o us) (n:Nat):At w b o (us.take n):=fun j u hj=>by
 rw [List.getElem?_take] at hj
 split at hj
 ·exact h j u hj
 ·cases hj
theorem At.drop {w:World} {b o:Nat} {us:List Value} (h:At w b o us) (n:Nat):At w b (o + n) (us.drop n):=fun j u hj=>by
 rw [List.getElem?_drop] at hj
 rw [Nat.add_assoc]
 exact h _ u hj
theorem add_at (b o j:Nat):(⟨b,o,none⟩:Addr).add j = ⟨b,o + j,none⟩:=by unfold Addr.add; split <;> simp_all
theorem run_loadVar_at {P:Program} {t:TypeId} {ti:TI} (ht:TIok P t ti) {R:Nat→Prop} {w:World} {μ:Nat→Option Value} {cs:List SC} {us:List Value} (h:All2 (cr R w μ) cs us) {b o off:Nat} (ha:At w b o us)
  {v:SV} (hp:part ti cs off = some v):∃ u,(loadVar t ⟨b,o + off,none⟩).run P w = .ok u w∧vr R w μ v u:=by
 rcases part_ok h hp with ⟨h1,h2,h3⟩ | ⟨h1,u,h2,h3⟩
 ·refine ⟨_, ?_,h3⟩
  have hl:=run_loadCells_list (P:=P) w ⟨b,o + off,none⟩ ((us.drop off).take ti.size) (fun j v hj=>by rw [add_at]; exact ((ha.drop off).take ti.size) j v hj)
  have hlen:((us.drop off).take ti.size).length = ti.size:=by simp; omega
  rw [hlen] at hl
  simp only [loadVar,Sem.run_bind,ht.ragg,h1,Result.andThen_ok,if_true,ht.rsize,hl,Sem.run_pure]
 ·refine ⟨u, ?_,h3⟩
  have hc:=ha off u h2
  simp only [loadVar,Sem.run_bind,ht.ragg,h1,Result.andThen_ok,Bool.false_eq_true,if_false,run_load,hc]
theorem toC_rv {R:Nat→Prop} {w:World} {μ:Nat→Option Value}:∀ {t:Ty} {x:D t} {us:List Value},rv R w t x us→All2 (cr R w μ) (toC t x) us
 | .int k,n,us,h=>by simp only [rv] at h; subst h; exact .cons rfl .nil
 | .bool,n,us,h=>by simp only [rv] at h; subst h; exact .cons rfl .nil
 | .str,n,us,h=>by simp only [rv] at h; subst h; exact .cons rfl .nil
 | .sl t,xs,us,h=>by
  have h':=h
  simp only [rv] at h'
  obtain ⟨A,c,rfl,_⟩:=h'
  exact .cons h .nil
 | .unit,n,us,h=>by simp only [rv] at h; subst h; exact .nil
 | .pair a b,x,us,h=>by
  simp only [rv] at h
  obtain ⟨us,us',rfl,h1,h2⟩:=h
  exact (toC_rv h1).append (toC_rv h2)
theorem row_here {R:Nat→Prop} {w:World} {t:Ty} {xs:List (D t)} {flat:List Value} {e:TypeId} {b m cc:Nat} (ho:orow w e t.size (.slice (some ⟨b,0,none⟩) m cc) xs.length flat) (hr:rows R w t xs flat) (i:Nat) (h:i < xs.length):
  ∃ us,rv R w t xs[i] us∧At w b (i * t.size) us∧us = (flat.drop (i * t.size)).take t.size:=by
 obtain ⟨us,hu,eu⟩:=rows_get hr i h
 refine ⟨us,hu,fun j u hj=> ?_,eu⟩
 exact orow_cells ho (g:=b) rfl (i * t.size + j) u (by
  rw [eu] at hj
  rw [List.getElem?_take] at hj
  split at hj
  ·rw [List.getElem?_drop] at hj; exact hj
  ·cases hj)
end Go.Proofs.YtohnjbmiaegofaaGreat.Ev
