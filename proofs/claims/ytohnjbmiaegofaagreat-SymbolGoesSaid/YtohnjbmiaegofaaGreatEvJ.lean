/- Operations that look at no memory: what they yield they yield in every world. -/
import Derived.Test.YtohnjbmiaegofaaGreatEvK
import Derived.OrdersHeld
set_option linter.unusedVariables false
set_option linter.unusedSimpArgs false
namespace Go.Proofs.YtohnjbmiaegofaaGreat.Ev
open Go
def Pu (P:Program) {α:Type} (s:Sem α):Prop:=∀ w x w1,s.run P w = .ok x w1→w1 = w∧∀ w',s.run P w' = .ok x w'
section
variable {P:Program}
theorem pu_pure {α:Type} (x:α):Pu P (pure x:Sem α):=by
 intro w y w1 h
 simp only [Sem.run_pure,Result.ok.injEq] at h
 obtain ⟨rfl,rfl⟩:=h
 exact ⟨rfl,fun w'=>Sem.run_pure ..⟩
theorem Pu.bind {α β:Type} {s:Sem α} {f:α→Sem β} (h:Pu P s) (hf:∀ x,Pu P (f x)):Pu P (s >>= f):=by
 intro w y w1 hr
 rw [Sem.run_bind] at hr
 cases hs:s.run P w with
 | halt x w2=>rw [hs] at hr; cases hr
 | ok x w2=>
  rw [hs] at hr
  simp only [Result.andThen_ok] at hr
  obtain ⟨rfl,h1⟩:=h w x w2 hs
  obtain ⟨rfl,h2⟩:=hf x _ _ _ hr
  refine ⟨rfl,fun w'=> ?_⟩
  rw [Sem.run_bind,h1 w']
  exact h2 w'
theorem Pu.bindAt {α β:Type} {s:Sem α} {f:α→Sem β} {x:α} (h:∀ w,s.run P w = .ok x w) (hf:Pu P (f x)):Pu P (s >>= f):=by
 intro w y w1 hr
 rw [Sem.run_bind,h w] at hr
 obtain ⟨rfl,h2⟩:=hf _ _ _ hr
 refine ⟨rfl,fun w'=> ?_⟩
 rw [Sem.run_bind,h w']
 exact h2 w'
theorem pu_stuck {α:Type} (m:String):Pu P (stuck m:Sem α):=by intro w x w1 h; cases h
def Never (P:Program) {α:Type} (s:Sem α):Prop:=∀ w x w1,s.run P w ≠ .ok x w1
theorem Never.pu {α:Type} {s:Sem α} (h:Never P s):Pu P s:=fun w x w1 e=>absurd e (h w x w1)
theorem never_bind {α β:Type} {s:Sem α} {f:α→Sem β} (h:∀ x,Never P (f x)):Never P (s >>= f):=by
 intro w y w1 hr
 rw [Sem.run_bind] at hr
 cases hs:s.run P w with
 | halt x w2=>rw [hs] at hr; cases hr
 | ok x w2=>rw [hs] at hr; exact h x _ _ _ hr
theorem never_goPanic {α:Type} (v:Value):Never P (goPanic v:Sem α):=by intro w x w1 h; cases h
theorem never_panic {α:Type} (e:RuntimeError):Never P (runtimePanic e:Sem α):=by
 unfold runtimePanic
 refine never_bind fun p=> ?_
 cases e
 all_goals (first | exact never_goPanic _ | exact never_bind fun _=>never_bind fun _=>never_goPanic _)
theorem pu_panic {α:Type} (e:RuntimeError):Pu P (runtimePanic e:Sem α):=(never_panic e).pu
theorem pu_unsupported {α:Type} (e:Unsupported):Pu P (unsupported e:Sem α):=by intro w x w1 h; cases h
theorem pu_program:Pu P program:=by
 intro w x w1 h
 simp only [Go.program,Sem.run,Result.ok.injEq] at h
 obtain ⟨rfl,rfl⟩:=h
 exact ⟨rfl,fun w'=>rfl⟩
theorem pu_typeInfo (t:TypeId):Pu P (typeInfo t):=by
 unfold typeInfo
 refine Pu.bind pu_program fun p=> ?_
 split
 ·exact pu_pure _
 ·exact pu_stuck _
theorem pu_underlying (t:TypeId):Pu P (underlying t):=by
 unfold underlying
 refine Pu.bind pu_program fun p=> ?_
 split
 ·exact pu_pure _
 ·exact pu_stuck _
theorem pu_sizeOf (t:TypeId):Pu P (sizeOf t):=by
 unfold sizeOf
 exact Pu.bind (pu_typeInfo t) fun _=>pu_pure _
theorem pu_isAgg (t:TypeId):Pu P (isAgg t):=by
 unfold isAgg
 refine Pu.bind (pu_underlying t) fun _=> ?_
 split <;> exact pu_pure _
theorem pu_part (t:TypeId) (cs:Array Value) (o:Nat):Pu P (Go.part t cs o):=by
 unfold Go.part
 refine Pu.bind (pu_isAgg t) fun b=> ?_
 split
 ·exact Pu.bind (pu_sizeOf t) fun _=>pu_pure _
 ·split
  ·exact pu_pure _
  ·exact pu_stuck _
theorem pu_asBool (v:Value):Pu P (asBool v):=by
 unfold asBool
 split
 ·exact pu_pure _
 ·exact pu_stuck _
theorem pu_asIntOf (v:Value):Pu P (asIntOf v):=by
 unfold asIntOf
 repeat' (first | exact pu_pure _ | exact pu_stuck _ | exact pu_unsupported _ | split)
theorem pu_asAgg (v:Value):Pu P (asAgg v):=by
 unfold asAgg
 split
 ·exact pu_pure _
 ·exact pu_stuck _
theorem pu_asAddr (v:Value):Pu P (asAddr v):=by
 unfold asAddr
 repeat' (first | exact pu_pure _ | exact pu_stuck _ | exact pu_panic _ | exact pu_unsupported _ | split)
theorem pu_sureAddr (v:Value):Pu P (Instr.sureAddr v):=by
 unfold Instr.sureAddr
 split
 ·exact pu_pure _
 ·exact pu_stuck _
theorem pu_field (t:TypeId) (v:Value) (f:Nat):Pu P (Instr.field t v f):=by
 unfold Instr.field
 refine Pu.bind (pu_underlying t) fun d=> ?_
 split
 ·split
  ·exact Pu.bind (pu_asAgg _) fun _=>pu_part _ _ _
  ·exact pu_stuck _
 ·exact pu_stuck _
theorem pu_bounds {α:Type} (k:IntKind) (i n:Int) (s:BoundsCode):Pu P (boundsPanic k i n s:Sem α):=by
 refine Never.pu ?_
 unfold boundsPanic
 dsimp only
 split
 ·exact never_bind fun _=>never_panic _
 ·exact never_bind fun _=>never_panic _
theorem pu_index (t:TypeId) (x i:Value):Pu P (Instr.index t x i):=by
 unfold Instr.index
 refine Pu.bind (pu_asIntOf _) fun ki=> ?_
 refine Pu.bind (pu_underlying t) fun d=> ?_
 repeat' (first | exact pu_pure _ | exact pu_stuck _ | exact pu_bounds _ _ _ _ | exact Pu.bind (pu_sizeOf _) fun _=>pu_part _ _ _ | split)
theorem pu_extract (t:Value) (i:Nat):Pu P (Instr.extract t i):=by
 unfold Instr.extract
 repeat' (first | exact pu_pure _ | exact pu_stuck _ | split)
theorem pu_fieldAt (s:TypeId) (a:Value) (f:Nat) {fs:Array Field} {fl:Field} {n:Nat} (h1:∀ w,(underlying s).run P w = .ok (.struct fs) w) (h2:fs[f]? = some fl) (h3:∀ w,(sizeOf fl.type).run P w = .ok n w) (hn:0 < n):Pu P (Instr.fieldAt s a f):=by
 unfold Instr.fieldAt
 refine Pu.bindAt h1 ?_
 simp only [h2]
 refine Pu.bind (pu_sureAddr a) fun x=> ?_
 refine Pu.bind ?_ fun _=>pu_pure _
 unfold fieldPlace
 refine Pu.bindAt h3 ?_
 rw [if_neg (by omega)]
 exact pu_pure _
theorem pu_indexAt (t:TypeId) (x i:Value):Pu P (Instr.indexAt t x i):=by
 unfold Instr.indexAt
 dsimp only
 repeat' (first | exact pu_pure _ | exact pu_stuck _ | exact pu_unsupported _ | exact pu_underlying _ | exact pu_sizeOf _ | exact pu_asIntOf _ | exact pu_sureAddr _ | exact pu_bounds _ _ _ _ | refine Pu.bind ?_ fun _=> ?_ | split)
theorem pu_unary (op:UnOp) (x:Value):Pu P (Op.unary op x):=by
 unfold Op.unary Op.intArith Op.intBits
 repeat' (first | exact pu_pure _ | exact pu_stuck _ | exact pu_unsupported _ | split)
theorem pu_sliceBound (x:Value) (y:Nat) (c:BoundsCode):Pu P (Instr.sliceBound x y c):=by
 unfold Instr.sliceBound
 refine Pu.bind (pu_asIntOf _) fun ki=> ?_
 repeat' (first | exact pu_pure _ | exact pu_bounds _ _ _ _ | split)
theorem pu_sliceBounds (b:Bool) (l c:Nat) (lo hi mx:Option Value):Pu P (Instr.sliceBounds b l c lo hi mx):=by
 unfold Instr.sliceBounds
 repeat' (first | exact pu_pure _ | exact pu_stuck _ | exact pu_sliceBound _ _ _ | refine Pu.bind ?_ fun _=> ?_ | split)
theorem pu_slice (t:TypeId) (x:Value) (lo hi mx:Option Value):Pu P (Instr.slice t x lo hi mx):=by
 unfold Instr.slice
 repeat' (first | exact pu_pure _ | exact pu_stuck _ | exact pu_underlying _ | exact pu_sizeOf _ | exact pu_asAddr _ | exact pu_sliceBounds _ _ _ _ _ _ | refine Pu.bind ?_ fun _=> ?_ | split)
theorem pu_sliceAt (t:TypeId) (x:Value) (lo hi mx:Option Value):Pu P (Instr.sliceAt t x lo hi mx):=by
 unfold Instr.sliceAt
 repeat' (first | exact pu_pure _ | exact pu_stuck _ | exact pu_underlying _ | exact pu_sizeOf _ | exact pu_sureAddr _ | exact pu_sliceBounds _ _ _ _ _ _ | exact pu_slice _ _ _ _ _ | refine Pu.bind ?_ fun _=> ?_ | split)
theorem pu_len (ts:Array TypeId) (t:TypeId) (v:Value) (h:(∃ A n c,v = .slice A n c)∨∃ s,v = .string s):Pu P (Builtin.len_ ts t #[v]):=by
 unfold Builtin.len_
 rcases h with ⟨A,n,c,rfl⟩ | ⟨s,rfl⟩
 all_goals repeat' (first | exact pu_pure _ | exact pu_stuck _ | exact pu_underlying _ | (exfalso; simp_all; done) | refine Pu.bind ?_ fun _=> ?_ | split)
theorem pu_bin (op:BinOp) (t:TypeId) (x y:Value) (h:(∃ k n k' m,x = .int k n∧y = .int k' m)∨∃ a b,x = .bool a∧y = .bool b):Pu P (binOp op t x y):=by
 rcases h with ⟨k,n,k',m,rfl,rfl⟩ | ⟨a,b,rfl,rfl⟩
 ·unfold binOp Op.shift Op.intArith Op.intDiv Op.intBits Op.intCmp
  repeat' (first | exact pu_pure _ | exact pu_stuck _ | exact pu_panic _ | exact pu_unsupported _ | (exfalso; simp_all; done) | split)
 ·unfold binOp Op.equal Op.equalIn
  repeat' (first | exact pu_pure _ | exact pu_stuck _ | exact pu_panic _ | exact pu_unsupported _ | exact pu_underlying _ | (exfalso; simp_all; done) | refine Pu.bind ?_ fun _=> ?_ | split)
theorem pu_guard (op:BinOp) (t:TypeId) (xo yo:Operand) (x y:Value) (h:(∃ k n k' m,x = .int k n∧y = .int k' m)∨∃ a b,x = .bool a∧y = .bool b):Pu P (eqGuard op t xo yo x y):=by
 rcases h with ⟨k,n,k',m,rfl,rfl⟩ | ⟨a,b,rfl,rfl⟩
 all_goals
  unfold eqGuard
  split <;> exact pu_pure _
theorem pu_convInt (s d:TypeId) {k k':IntKind} {n:Int} (h:∀ w,(underlying d).run P w = .ok (.int k) w):Pu P (convert s d (.int k' n)):=by
 unfold convert
 refine Pu.bind (pu_underlying _) fun _=> ?_
 refine Pu.bindAt h ?_
 rename_i x
 cases x <;> exact pu_pure _
end
end Go.Proofs.YtohnjbmiaegofaaGreat.Ev
