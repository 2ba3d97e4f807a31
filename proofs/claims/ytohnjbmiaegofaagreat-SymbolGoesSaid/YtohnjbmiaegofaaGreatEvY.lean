/- Functions without arguments: what the evaluator says of them, with no typed text of what they call. -/
import Derived.Test.YtohnjbmiaegofaaGreatEvO
set_option linter.unusedVariables false
set_option linter.unusedSimpArgs false
namespace Go.Proofs.YtohnjbmiaegofaaGreat.Ev
open Go
def Fns (P:Program) (L:List (Nat×Func)):Prop:=∀ f fn,look f L = some fn→P.funcs[f % 1000000]? = some fn
theorem fns_nil {P:Program}:Fns P []:=fun _ _ h=>by cases h
theorem fns_cons {P:Program} {k:Nat} {fn:Func} {r:List (Nat×Func)} (h:P.funcs[k % 1000000]? = some fn) (hr:Fns P r):Fns P ((k,fn)::r):=by
 intro f g hl
 rw [look_cons] at hl
 split at hl
 ·rename_i e; subst e; cases hl; exact h
 ·exact hr f g hl
def fnsOk (L:List (Nat×Func)):Bool:=L.all fun p=>!(p.2.name== "runtime.NumGoroutine")&&p.2.body.isSome
theorem look_mem {α:Type} {f:Nat} {v:α}:∀ {L:List (Nat×α)},look f L = some v→∃ k,(k,v) ∈ L
 | [],h=>by cases h
 | (k,w)::r,h=>by
  rw [look_cons] at h
  split at h
  ·cases h; exact ⟨k,List.mem_cons_self⟩
  ·obtain ⟨k',h'⟩:=look_mem h
   exact ⟨k',List.mem_cons_of_mem _ h'⟩
def evs (tab:TypeId→Option TI) (L:List (Nat×Func)) (kp:Nat→Nat→Option (List Nat)) (fuel:Nat) (X:Nat→Option Spec):Nat→Nat→Option Spec
 | 0,f=>X f
 | n + 1,f=>match X f with
  | some F=>some F
  | none=>match look f L with
   | some fn=>some (evalFn tab (evs tab L kp fuel X n) (fun _=>none) (kp (f % 1000000)) fuel fn)
   | none=>none
theorem obl_none:∀ c:Code,obl (fun _=>none) c = []
 | .seq a b=>by simp only [obl,obl_none a,obl_none b]; rfl
 | .cond _ a b=>by simp only [obl,obl_none a,obl_none b]; rfl
 | .block id b=>by simp only [obl,obl_none b]
 | .loop b=>by simp only [obl,obl_none b]
 | .skip | .region _ _ _ | .exit _ | .ret | .rangeFunc _ _ _ _ | .scope _ | .label _ | .goto _ | .refuse _=>rfl
theorem evs_ok {P:Program} {tab:TypeId→Option TI} {L:List (Nat×Func)} {kp:Nat→Nat→Option (List Nat)} {fuel:Nat} {X:Nat→Option Spec} (hP:TabOK P tab) (hm:P.follows .mixedOrders = true) (hL:Fns P L) (hc:fnsOk L = true) (hX:GOK P X):∀ n,GOK P (evs tab L kp fuel X n)
 | 0=>hX
 | n + 1=>by
  intro f F h
  simp only [evs] at h
  split at h
  ·rename_i F' hx
   cases h
   exact hX f _ hx
  split at h
  ·rename_i fn hl
   cases h
   obtain ⟨k,hk⟩:=look_mem hl
   have h1:=List.all_eq_true.1 hc _ hk
   simp only [Bool.and_eq_true,Bool.not_eq_true'] at h1
   obtain ⟨c,hb⟩:=Option.isSome_iff_exists.1 h1.2
   exact ⟨fn_ok hP (evs_ok hP hm hL hc hX n) hm (hL f fn hl) hb (fun q hq=>by rw [obl_none] at hq; cases hq),enters_of (hL f fn hl) h1.1 hb⟩
  ·cases h
def trueR:Res→Option Ans
 | (.c (.bool true),[])=>some ()
 | _=>none
theorem trueR_iff {r:SV×List Ob} {u:Ans} (h:trueR r = some u):r = (.c (.bool true),[]):=by
 unfold trueR at h
 split at h
 ·rfl
 ·cases h
theorem true_ok {P:Program} {f:FuncId} {F:Spec} (hF:FnOK P f F) (h:F [] [] trueR = some ()) {k:Cont} {r:Ans} (hk:k (.c (.bool true),[]) = some r) (w:World) (R:Nat→Prop) (μ:Nat→Option Value) (vals:List Value) (h1:HInv R w μ (fun i=>([]:List Ob)[i]?)) (h2:∀ i v,μ i = some v→i < ([]:List Ob).length) (h3:All2 (vr R w μ) [] vals):
  Calls P f vals.toArray w fun e w'=>∃ v res objs' R' μ',e = .returned v∧k (res,objs') = some r∧([]:List Ob).length≤objs'.length∧Behind w R μ [] res objs' v w' R' μ':=by
 refine (hF [] [] trueR () h w R μ vals h1 h2 h3).mono ?_
 rintro e w' ⟨v,res,objs',R',μ',e1,e2,e3,e4⟩
 have e5:=trueR_iff e2
 cases e5
 exact ⟨v,_,_,R',μ',e1,hk,e3,e4⟩
theorem iter_upto {V B:Type} {step:V→(V→Option Ans)→B→Option Ans} {b:B} {r:Option Ans} (σ:Nat→V) (n:Nat)
  (h:∀ i,i < n→∀ c,step (σ i) c b = c (σ (i + 1))) (hn:∀ c,step (σ n) c b = r) {m:Nat} (hm:n < m):iter step m (σ 0) b = r:=by
 have key:∀ d i m,i + d = n→d < m→iter step m (σ i) b = r:=by
  intro d
  induction d with
  | zero=>
   intro i m hi hm
   obtain ⟨m,rfl⟩:∃ k,m = k + 1:=⟨m - 1,by omega⟩
   have:i = n:=by omega
   subst this
   exact hn _
  | succ d ih=>
   intro i m hi hm
   obtain ⟨m,rfl⟩:∃ k,m = k + 1:=⟨m - 1,by omega⟩
   simp only [iter]
   rw [h i (by omega)]
   exact ih (i + 1) m (by omega) (by omega)
 exact key n 0 m (by omega) hm
theorem wrapY {x:Int} (h1: -9223372036854775808≤x) (h2:x≤9223372036854775807):IntKind.i64.wrap x = x:=by
 simp [IntKind.wrap,IntKind.min,IntKind.max,IntKind.signed,IntKind.bits]
 omega
theorem decY {p:Prop} {i:Decidable p} {α:Sort _} {x y:α} (h:p):(bif @decide p i then x else y) = x:=by rw [decide_eq_true h]; rfl
theorem ndecY {p:Prop} {i:Decidable p} {α:Sort _} {x y:α} (h:¬p):(bif @decide p i then x else y) = y:=by rw [decide_eq_false h]; rfl
def vMa (kd:Int) (st:List Int):Bool:=(decide (kd = 0) || decide (kd = 1))&&(decide (st.length≤8192)&&st.all fun s=>decide (0≤s)&&decide (s < bif decide (kd = 1) then 65536 else 64))
end Go.Proofs.YtohnjbmiaegofaaGreat.Ev
