/- DxA: a trie without a bound on its keys. -/
import Derived.CallsIn
import Derived.OrdersIn
import Derived.Laws.Cells
import Derived.Laws.CopyRow
import Derived.Lib.AppendStr
import Derived.Lib.Builder
import Derived.Lib.UnsafeStr
import Derived.Laws.Externs
import Derived.KernelRfl
import Derived.LaidEqlPtr
import Derived.RangeFuncIn
import Derived.RangeFuncLeaves
import Derived.Recover
set_option linter.unusedVariables false
set_option linter.unusedSimpArgs false
namespace Go.Dx
inductive Tr (α:Type) where
 | e
 | n (v:Option α) (a b c d:Tr α)
noncomputable def tget {α:Type}(t:Tr α):Nat->Option α :=
 @Tr.rec α (fun _=>Nat->Option α) (fun _=>none)
  (fun v _ _ _ _ ia ib ic id k=>@Nat.rec (fun _=>Option α) v
   (fun j _=>@Nat.rec (fun _=>Option α) (ia (Nat.div j 4))
    (fun m _=>@Nat.rec (fun _=>Option α) (ib (Nat.div j 4))
     (fun m _=>@Nat.rec (fun _=>Option α) (ic (Nat.div j 4)) (fun _ _=>id (Nat.div j 4)) m) m) (Nat.mod j 4)) k) t
noncomputable def tput {α:Type}(ih:Tr α->Nat->Tr α)(x v:Option α)(a b c d:Tr α)(k:Nat):Tr α :=
 @Nat.rec (fun _=>Tr α) (.n x a b c d)
  (fun j _=>@Nat.rec (fun _=>Tr α) (.n v (ih a (Nat.div j 4)) b c d)
   (fun m _=>@Nat.rec (fun _=>Tr α) (.n v a (ih b (Nat.div j 4)) c d)
    (fun m _=>@Nat.rec (fun _=>Tr α) (.n v a b (ih c (Nat.div j 4)) d) (fun _ _=>.n v a b c (ih d (Nat.div j 4))) m) m) (Nat.mod j 4)) k
noncomputable def ZMD {α:Type}(x:Option α)(f:Nat):Tr α->Nat->Tr α :=
 @Nat.rec (fun _=>Tr α->Nat->Tr α) (fun t _=>t)
  (fun _ ih t k=>@Tr.rec α (fun _=>Tr α) (tput ih x none .e .e .e .e k) (fun v a b c d _ _ _ _=>tput ih x v a b c d k) t) f
noncomputable def tset {α:Type}(t:Tr α)(k:Nat)(x:Option α):Tr α:=ZMD x (Nat.succ k) t k
def Tr.val {α:Type}:Tr α->Option α
 | .n v _ _ _ _=>v
 | .e=>none
def Tr.kid {α:Type}:Tr α->Nat->Tr α
 | .n _ a b c d,j=>if j % 4=0 then a else if j % 4=1 then b else if j % 4=2 then c else d
 | .e,_=>.e
theorem mod4 (j:Nat):j % 4=0\/j % 4=1\/j % 4=2\/j % 4=3:=by omega
theorem ZTT {α:Type}(k:Nat):tget (.e:Tr α) k=none:=rfl
theorem ZLn {α:Type}(t:Tr α):tget t 0=t.val:=by cases t <;> rfl
theorem ZEP {α:Type}(t:Tr α)(j:Nat):tget t (j+1)=tget (t.kid j) (j / 4):=by
 cases t with
 | e=>rfl
 | n v a b c d =>
  show @Nat.rec (fun _=>Option α) (tget a (Nat.div j 4)) (fun m _=>@Nat.rec (fun _=>Option α) (tget b (Nat.div j 4))
     (fun m _=>@Nat.rec (fun _=>Option α) (tget c (Nat.div j 4)) (fun _ _=>tget d (Nat.div j 4)) m) m) (j % 4)=_
  rcases mod4 j with h|h|h|h <;> simp only[h,Tr.kid] <;> rfl
theorem ZKv {α:Type}(ih:Tr α->Nat->Tr α)(x v:Option α)(a b c d:Tr α):tput ih x v a b c d 0=.n x a b c d:=rfl
theorem ZKV {α:Type}(ih:Tr α->Nat->Tr α)(x v:Option α)(a b c d:Tr α)(j:Nat):(tput ih x v a b c d (j+1)).val=v ∧
  (tput ih x v a b c d (j+1)).kid j=ih ((Tr.n v a b c d).kid j) (j / 4)/\∀i,i % 4≠j % 4->(tput ih x v a b c d (j+1)).kid i=(Tr.n v a b c d).kid i:=by
 have e:tput ih x v a b c d (j+1)=@Nat.rec (fun _=>Tr α) (.n v (ih a (Nat.div j 4)) b c d)
   (fun m _=>@Nat.rec (fun _=>Tr α) (.n v a (ih b (Nat.div j 4)) c d)
    (fun m _=>@Nat.rec (fun _=>Tr α) (.n v a b (ih c (Nat.div j 4)) d) (fun _ _=>.n v a b c (ih d (Nat.div j 4))) m) m) (j % 4):=rfl
 rw[e]
 rcases mod4 j with h|h|h|h <;> rw[h] <;> refine⟨rfl,by simp only[Tr.kid,h];rfl,fun i hi=>?_⟩ <;> rcases mod4 i with h'|h'|h'|h' <;> simp only[Tr.kid,h'] <;> first|rfl|omega
theorem ZIt {α:Type}(x:Option α)(f:Nat)(t:Tr α)(k:Nat):ZMD x (f+1) t k=tput (ZMD x f) x t.val (t.kid 0) (t.kid 1) (t.kid 2) (t.kid 3) k:=by
 cases t <;> rfl
theorem ZL8 {α:Type}(t:Tr α)(j:Nat):(Tr.n t.val (t.kid 0) (t.kid 1) (t.kid 2) (t.kid 3)).kid j=t.kid j:=by
 cases t with
 | e=>simp only[Tr.kid];split <;> (try split) <;> (try split) <;> rfl
 | n v a b c d=>rfl
theorem ZOQ {α:Type}(x:Option α)(f:Nat):∀(t:Tr α)(k:Nat),k<f->tget (ZMD x f t k) k=x:=by
 induction f with
 | zero=>intro t k h;omega
 | succ f ih =>
  intro t k hk;rw[ZIt]
  cases k with
  | zero=>rw[ZKv];rfl
  | succ j =>
   obtain⟨_,h2,_⟩:=ZKV (ZMD x f) x t.val (t.kid 0) (t.kid 1) (t.kid 2) (t.kid 3) j;rw[ZEP,h2];exact ih _ _ (by omega)
theorem ZMm {α:Type}(x:Option α)(f:Nat):∀(t:Tr α)(k k':Nat),k<f->k'≠k->tget (ZMD x f t k) k'=tget t k':=by
 induction f with
 | zero=>intro t k k' h;omega
 | succ f ih =>
  intro t k k' hk hne;rw[ZIt]
  cases k with
  | zero =>
   rw[ZKv]
   cases k' with
   | zero=>exact absurd rfl hne
   | succ i=>rw[ZEP,ZEP,<-ZL8 t i];rfl
  | succ j =>
   obtain⟨h1,h2,h3⟩:=ZKV (ZMD x f) x t.val (t.kid 0) (t.kid 1) (t.kid 2) (t.kid 3) j
   cases k' with
   | zero=>rw[ZLn,ZLn,h1]
   | succ i =>
    rw[ZEP,ZEP]
    by_cases hm:i % 4=j % 4
    ·have hk2:∀t:Tr α,t.kid i=t.kid j:=fun t=>by cases t with
      | e=>rfl
      | n v a b c d=>simp only[Tr.kid,hm]
     rw[hk2,hk2,h2,ZL8];exact ih _ _ _ (by omega) (by omega)
    ·rw[h3 i hm,ZL8]
theorem ZAm {α:Type}(t:Tr α)(k:Nat)(x:Option α):tget (tset t k x) k=x:=ZOQ x (k+1) t k (by omega)
theorem ZCE {α:Type}(t:Tr α)(k k':Nat)(x:Option α)(h:k'≠k):tget (tset t k x) k'=tget t k':=ZMm x (k+1) t k k' (by omega) h
structure BI where
 blk:Nat
 cnt:Nat
 sz:Nat
abbrev Iota:=Nat->Option BI
mutual
inductive VR (ι:Iota):Value->Value->Prop where
 | bool (b:Bool):VR ι (.bool b) (.bool b)
 | int (k:IntKind) (n:Int):VR ι (.int k n) (.int k n)
 | str (s:ByteArray):VR ι (.string s) (.string s)
 | ptr0:VR ι (.pointer none) (.pointer none)
 | ptr {b o:Nat} {bi:BI}:ι b=some bi->VR ι (.pointer (some ⟨b,o,none⟩)) (.pointer (some ⟨bi.blk,o,none⟩))
 | sl0 (l c:Nat):VR ι (.slice none l c) (.slice none l c)
 | sl {b o l c:Nat} {bi:BI}:ι b=some bi->VR ι (.slice (some ⟨b,o,none⟩) l c) (.slice (some ⟨bi.blk,o,none⟩) l c)
 | slo {b o l c c':Nat} {bi:BI}:ι b=some bi->o+c'*bi.sz=bi.cnt->c<=c'->VR ι (.slice (some ⟨b,o,some bi.sz⟩) l c) (.slice (some ⟨bi.blk,o,none⟩) l c')
 | sle (b:Nat) (a:Addr) (c:Nat):VR ι (.slice (some ⟨b,0,some 0⟩) 0 0) (.slice (some a) 0 c)
 | map0:VR ι (.map none) (.map none)
 | map {r:Nat} {bi:BI}:ι r=some bi->VR ι (.map (some r)) (.map (some bi.blk))
 | fn (f:FuncId) {a b a' b':Array Value}:VRL ι a.toList a'.toList->VRL ι b.toList b'.toList->VR ι (.func (.func f) a b) (.func (.func f) a' b')
 | yield {l:Nat} {bi:BI}:ι l=some bi->VR ι (.func (.yield l) #[] #[]) (.func (.yield bi.blk) #[] #[])
 | nilFunc:VR ι .nilFunc .nilFunc
 | iface (t:TypeId) {v v':Value}:VR ι v v'->VR ι (.iface t v) (.iface t v')
 | nilIface:VR ι .nilIface .nilIface
 | agg {a a':Array Value}:VRL ι a.toList a'.toList->VR ι (.agg a) (.agg a')
 | tup {a a':Array Value}:VRL ι a.toList a'.toList->VR ι (.tuple a) (.tuple a')
inductive VRL (ι:Iota):List Value->List Value->Prop where
 | nil:VRL ι [] []
 | cons {v v':Value} {l l':List Value}:VR ι v v'->VRL ι l l'->VRL ι (v::l) (v'::l')
end
def Sub (ι ι':Iota):Prop:=∀b bi,ι b=some bi->ι' b=some bi
theorem Sub.refl (ι:Iota):Sub ι ι:=fun _ _ h=>h
theorem Sub.trans {ι ι' ι'':Iota}(h:Sub ι ι')(h':Sub ι' ι''):Sub ι ι'':=fun b bi x=>h' b bi (h b bi x)
mutual
theorem VR.mono {ι ι':Iota}(hs:Sub ι ι'):∀{v v':Value},VR ι v v'->VR ι' v v'
 | _,_,.bool b=>.bool b
 | _,_,.int k n=>.int k n
 | _,_,.str s=>.str s
 | _,_,.ptr0=>.ptr0
 | _,_,.ptr h=>.ptr (hs _ _ h)
 | _,_,.sl0 l c=>.sl0 l c
 | _,_,.sl h=>.sl (hs _ _ h)
 | _,_,.slo h h1 h2=>.slo (hs _ _ h) h1 h2
 | _,_,.sle b a c=>.sle b a c
 | _,_,.map0=>.map0
 | _,_,.map h=>.map (hs _ _ h)
 | _,_,.fn f h1 h2=>.fn f (VRL.mono hs h1) (VRL.mono hs h2)
 | _,_,.yield h=>.yield (hs _ _ h)
 | _,_,.nilFunc=>.nilFunc
 | _,_,.iface t h=>.iface t (VR.mono hs h)
 | _,_,.nilIface=>.nilIface
 | _,_,.agg h=>.agg (VRL.mono hs h)
 | _,_,.tup h=>.tup (VRL.mono hs h)
theorem VRL.mono {ι ι':Iota}(hs:Sub ι ι'):∀{l l':List Value},VRL ι l l'->VRL ι' l l'
 | _,_,.nil=>.nil
 | _,_,.cons h t=>.cons (VR.mono hs h) (VRL.mono hs t)
end
section lists
variable {ι:Iota}
theorem VRL.length {l l':List Value}(h:VRL ι l l'):l.length=l'.length:=by
 induction l generalizing l' with
 | nil=>cases h;rfl
 | cons v l ih=>cases h with|cons h t=>simp[ih t]
theorem VRL.get {l l':List Value}(h:VRL ι l l')(i:Nat)(v:Value)(hv:l[i]?=some v):∃v',l'[i]?=some v'/\VR ι v v':=by
 induction l generalizing l' i with
 | nil=>simp at hv
 | cons x l ih =>
  cases h with
  | cons h t =>
   cases i with
   | zero=>simp at hv;subst hv;exact⟨_,by simp,h⟩
   | succ i=>simp at hv;obtain⟨v',a,b⟩:=ih t i hv;exact⟨v',by simpa using a,b⟩
theorem VRL.append {l l' m m':List Value}(h:VRL ι l l')(h':VRL ι m m'):VRL ι (l++m) (l'++m'):=by
 induction l generalizing l' with
 | nil=>cases h;exact h'
 | cons v l ih=>cases h with|cons h t=>exact .cons h (ih t)
theorem VRL.take {l l':List Value}(h:VRL ι l l')(n:Nat):VRL ι (l.take n) (l'.take n):=by
 induction l generalizing l' n with
 | nil=>cases h;simp;exact .nil
 | cons v l ih =>
  cases h with
  | cons h t =>
   cases n with
   | zero=>simp;exact .nil
   | succ n=>simp;exact .cons h (ih t n)
theorem VRL.drop {l l':List Value}(h:VRL ι l l')(n:Nat):VRL ι (l.drop n) (l'.drop n):=by
 induction l generalizing l' n with
 | nil=>cases h;simp;exact .nil
 | cons v l ih =>
  cases h with
  | cons h t =>
   cases n with
   | zero=>simp;exact .cons h t
   | succ n=>simp;exact ih t n
theorem VRL.set {l l':List Value}(h:VRL ι l l'){v v':Value}(hv:VR ι v v')(i:Nat):VRL ι (l.set i v) (l'.set i v'):=by
 induction l generalizing l' i with
 | nil=>cases h;simp;exact .nil
 | cons x l ih =>
  cases h with
  | cons h t =>
   cases i with
   | zero=>exact .cons hv t
   | succ i=>exact .cons h (ih t i)
theorem VRL.replicate {v v':Value}(h:VR ι v v')(n:Nat):VRL ι (List.replicate n v) (List.replicate n v'):=by
 induction n with
 | zero=>exact .nil
 | succ n ih=>exact .cons h ih
theorem VR.cells {v v':Value}(h:VR ι v v'):VRL ι v.cells.toList v'.cells.toList:=by
 cases h with
 | agg h=>exact h
 | bool b=>exact .cons (.bool b) .nil
 | int k n=>exact .cons (.int k n) .nil
 | str s=>exact .cons (.str s) .nil
 | ptr0=>exact .cons .ptr0 .nil
 | ptr h=>exact .cons (.ptr h) .nil
 | sl0 l c=>exact .cons (.sl0 l c) .nil
 | sl h=>exact .cons (.sl h) .nil
 | slo h a b=>exact .cons (.slo h a b) .nil
 | sle b a c=>exact .cons (.sle b a c) .nil
 | map0=>exact .cons .map0 .nil
 | map h=>exact .cons (.map h) .nil
 | fn f a b=>exact .cons (.fn f a b) .nil
 | yield h=>exact .cons (.yield h) .nil
 | nilFunc=>exact .cons .nilFunc .nil
 | iface t h=>exact .cons (.iface t h) .nil
 | nilIface=>exact .cons .nilIface .nil
 | tup h=>exact .cons (.tup h) .nil
end lists
mutual
def flat:Value->Bool
 | .bool _|.int _ _|.string _|.pointer none|.slice none _ _|.map none|.nilFunc|.nilIface=>true
 | .iface _ v=>flat v
 | .agg ⟨l⟩=>ZBr l
 | .tuple ⟨l⟩=>ZBr l
 | .func (.func _) ⟨a⟩ ⟨b⟩=>ZBr a && ZBr b
 | _=>false
def ZBr:List Value->Bool
 | []=>true
 | v::l=>flat v && ZBr l
end
mutual
theorem VR.of_flat (ι:Iota):∀{v:Value},flat v=true->VR ι v v
 | .bool b,_=>.bool b
 | .int k n,_=>.int k n
 | .string s,_=>.str s
 | .pointer none,_=>.ptr0
 | .slice none l c,_=>.sl0 l c
 | .map none,_=>.map0
 | .nilFunc,_=>.nilFunc
 | .nilIface,_=>.nilIface
 | .iface t v,h=>.iface t (VR.of_flat ι (by simpa [flat] using h))
 | .agg ⟨l⟩,h=>.agg (VRL.of_flat ι (by simpa [flat] using h))
 | .tuple ⟨l⟩,h=>.tup (VRL.of_flat ι (by simpa [flat] using h))
 | .func (.func f) ⟨a⟩ ⟨b⟩,h=>by
   have h':ZBr a=true/\ZBr b=true:=by simpa [flat] using h
   exact .fn f (VRL.of_flat ι h'.1) (VRL.of_flat ι h'.2)
 | .pointer (some _),h|.slice (some _) _ _,h|.map (some _),h|.float _ _,h|.complex _ _ _,h|.chan _,h=>by simp[flat] at h
 | .func (.method _) _ _,h|.func (.methodOf _ _) _ _,h|.func (.via _ _ _ _) _ _,h|.func (.yield _) _ _,h=>by simp[flat] at h
theorem VRL.of_flat (ι:Iota):∀{l:List Value},ZBr l=true->VRL ι l l
 | [],_=>.nil
 | v::l,h=>by
   have h':flat v=true/\ZBr l=true:=by simpa [ZBr] using h
   exact .cons (VR.of_flat ι h'.1) (VRL.of_flat ι h'.2)
end
mutual
theorem VR.flat_eq {ι:Iota}:∀{v v':Value},VR ι v v'->flat v=true->v'=v
 | _,_,.bool _,_|_,_,.int _ _,_|_,_,.str _,_|_,_,.ptr0,_|_,_,.sl0 _ _,_|_,_,.map0,_|_,_,.nilFunc,_|_,_,.nilIface,_=>rfl
 | _,_,.ptr _,h|_,_,.sl _,h|_,_,.slo _ _ _,h|_,_,.sle _ _ _,h|_,_,.map _,h|_,_,.yield _,h=>by simp[flat] at h
 | _,_,.iface t hv,h=>by rw[VR.flat_eq hv (by simpa [flat] using h)]
 | _,_,.agg (a:=⟨a⟩) (a':=⟨a'⟩) hl,h=>by
   have e:a'=a:=VRL.flat_eq hl (by simpa [flat] using h);rw[e]
 | _,_,.tup (a:=⟨a⟩) (a':=⟨a'⟩) hl,h=>by
   have e:a'=a:=VRL.flat_eq hl (by simpa [flat] using h);rw[e]
 | _,_,.fn f (a:=⟨a⟩) (b:=⟨b⟩) (a':=⟨a'⟩) (b':=⟨b'⟩) h1 h2,h=>by
   have h':ZBr a=true/\ZBr b=true:=by simpa [flat] using h
   have e1:a'=a:=VRL.flat_eq h1 h'.1;have e2:b'=b:=VRL.flat_eq h2 h'.2;rw[e1,e2]
theorem VRL.flat_eq {ι:Iota}:∀{l l':List Value},VRL ι l l'->ZBr l=true->l'=l
 | _,_,.nil,_=>rfl
 | _,_,.cons h t,hf=>by
   simp only[ZBr,Bool.and_eq_true] at hf;rw[VR.flat_eq h hf.1,VRL.flat_eq t hf.2]
end
structure Env where
 te:List (Nat×Value)
 va:List (Nat×Value)
noncomputable def lkL (t:Nat)(e:List (Nat×Value)):Option Value :=
 @List.rec (Nat×Value) (fun _=>Option Value) none (fun p _ ih=>@Bool.casesOn (fun _=>Option Value) (Nat.beq p.1 t) ih (some p.2)) e
theorem ZCW (t:Nat):lkL t []=none:=rfl
theorem ZBE (t:Nat)(p:Nat×Value)(e:List (Nat×Value)):lkL t (p::e)=if p.1=t then some p.2 else lkL t e:=by
 show @Bool.casesOn (fun _=>Option Value) (Nat.beq p.1 t) (lkL t e) (some p.2)=_
 cases h:Nat.beq p.1 t
 ·have:p.1≠t:=by intro e;subst e;simp at h
  simp[this]
 ·have:p.1=t:=Nat.eq_of_beq_eq_true h
  simp[this]
noncomputable def lk (t:Nat)(e:Env):Option Value:=@Option.casesOn Value (fun _=>Option Value) (lkL t e.te) (lkL t e.va) some
theorem ZF6 (t:Nat)(e:Env):lk t e=match lkL t e.te with|some v=>some v|none=>lkL t e.va:=by
 unfold lk;cases lkL t e.te <;> rfl
def EnvR (ι:Iota)(e:Env)(tmps:Array Value):Prop:=∀t v,lk t e=some v->∃v',tmps[t]?=some v'/\VR ι v v'
theorem EnvR.mono {ι ι':Iota}{e:Env}{tmps:Array Value}(h:EnvR ι e tmps)(hs:Sub ι ι'):EnvR ι' e tmps :=
 fun t v x=>let ⟨v',a,b⟩:=h t v x;⟨v',a,b.mono hs⟩
theorem EnvR.nil (ι:Iota)(tmps:Array Value):EnvR ι ⟨[],[]⟩ tmps:=fun t v h=>by simp[ZF6,ZCW] at h
inductive AO where
 | cells (vs:List Value) (elem:TypeId) (op:Bool)
 | map (es:List MapEntry) (clock:Nat)
 | siter (s:ByteArray) (pos:Nat)
 | miter (m:Option Nat) (since:Nat) (seen:Array Nat) (stepped:Nat)
 | loop (st:LoopState) (pend:Option Code) (fn:FuncId) (nt:Nat) (env:Env) (params:Array Tmp) (assign body:Code) (defers:Nat)
 | lpf (st:LoopState) (pend:Option Code) (fn:FuncId) (nt:Nat) (env:Env) (params:Array Tmp) (assign body:Code) (defers:Nat)
 | defd
 | ro (lim:Nat) (o:Obj)
inductive MER (ι:Iota):List MapEntry->List MapEntry->Prop where
 | nil:MER ι [] []
 | cons {e e':MapEntry} {l l':List MapEntry}:e'.key=e.key->VR ι e.val e'.val->e'.born=e.born->MER ι l l'->MER ι (e::l) (e'::l')
theorem MER.mono {ι ι':Iota}(hs:Sub ι ι'){l l':List MapEntry}(h:MER ι l l'):MER ι' l l':=by
 induction h with
 | nil=>exact .nil
 | cons a b c _ ih=>exact .cons a (b.mono hs) c ih
def OR (ι:Iota)(bi:BI):AO->Obj->Prop
 | .cells vs elem op,.cells c e fz=>e=elem/\fz=(0,0)/\c.size=bi.cnt/\vs.length<=c.size/\(op=false->vs.length=c.size)/\VRL ι vs (c.toList.take vs.length)
 | .map es clock,.map es' clock'=>clock'=clock/\MER ι es es'.toList
 | .siter s p,.stringIter s' p'=>s'=s/\p'=p
 | .miter none since seen st,.mapIter none since' seen' st'=>since'=since/\seen'=seen/\st'=st
 | .miter (some m) since seen st,.mapIter (some b) since' seen' st'=>since'=since/\seen'=seen/\st'=st/\∃bi',ι m=some bi'/\b=bi'.blk
 | .loop st pend _ nt env params assign body defers,.loop l =>
   l.state=st/\l.pending=pend/\l.tmps.size=nt/\EnvR ι env l.tmps/\l.params=params/\l.assign=assign/\l.body=body/\∃bi',ι defers=some bi'/\l.defers=bi'.blk
 | .lpf st pend fn nt env params assign body defers,.loop l =>
   l.fn=fn/\l.state=st/\l.pending=pend/\l.tmps.size=nt/\EnvR ι env l.tmps/\l.params=params/\l.assign=assign/\l.body=body/\∃bi',ι defers=some bi'/\l.defers=bi'.blk
 | .defd,.deferred (some [])=>True
 | .ro lim o,o'=>o'=o/\∀b,b<lim->∃bi',ι b=some bi'/\bi'.blk=b
 | _,_=>False
theorem OR.mono {ι ι':Iota}(hs:Sub ι ι'){bi:BI}{o:AO}{o':Obj}(h:OR ι bi o o'):OR ι' bi o o':=by
 cases o with
 | cells vs elem op =>
  cases o' <;> simp only[OR] at h ⊢
  obtain⟨a,b,c,d,e,f⟩:=h;exact⟨a,b,c,d,e,f.mono hs⟩
 | map es clock =>
  cases o' <;> simp only[OR] at h ⊢
  exact⟨h.1,h.2.mono hs⟩
 | siter s p=>cases o' <;> simp only[OR] at h ⊢;exact h
 | miter m since seen st =>
  cases o' with
  | mapIter m' since' seen' st' =>
   cases m with
   | none=>cases m' <;> simp only[OR] at h ⊢;exact h
   | some m =>
    cases m' <;> simp only[OR] at h ⊢
    obtain⟨a,b,c,bi',h1,h2⟩:=h;exact⟨a,b,c,bi',hs _ _ h1,h2⟩
  | _=>cases m <;> simp only[OR] at h
 | loop =>
  cases o' <;> simp only[OR] at h ⊢
  obtain⟨a,b,c,d,e,f,g,bi',h1,h2⟩:=h;exact⟨a,b,c,d.mono hs,e,f,g,bi',hs _ _ h1,h2⟩
 | lpf =>
  cases o' <;> simp only[OR] at h ⊢
  obtain⟨z,a,b,c,d,e,f,g,bi',h1,h2⟩:=h;exact⟨z,a,b,c,d.mono hs,e,f,g,bi',hs _ _ h1,h2⟩
 | ro lim o =>
  simp only[OR] at h ⊢;exact⟨h.1,fun b hb=>let ⟨bi',h1,h2⟩:=h.2 b hb;⟨bi',hs _ _ h1,h2⟩⟩
 | defd =>
  cases o' with
  | deferred x=>cases x with
   | none=>simp only[OR] at h
   | some l=>cases l <;> simp only[OR] at h ⊢
  | _=>simp only[OR] at h
structure Heap where
 t:Tr AO
 nx:Nat
 gl:Nat
noncomputable def Heap.get (h:Heap)(b:Nat):Option AO:=tget h.t b
noncomputable def Heap.set (h:Heap)(b:Nat)(o:AO):Heap:=⟨tset h.t b (some o),h.nx,h.gl⟩
noncomputable def Heap.del (h:Heap)(b:Nat):Heap:=⟨tset h.t b none,h.nx,h.gl⟩
noncomputable def Heap.add (h:Heap)(o:AO):Heap:=⟨tset h.t h.nx (some o),Nat.succ h.nx,h.gl⟩
theorem Heap.get_set_self (h:Heap)(b:Nat)(x:AO):(h.set b x).get b=some x:=ZAm h.t b (some x)
theorem Heap.get_set_same {h:Heap}{b:Nat}{o:AO}(x:AO)(hg:h.get b=some o):(h.set b x).get b=some x:=by
 unfold Heap.get Heap.set;exact ZAm h.t b (some x)
theorem Heap.get_set_other {h:Heap}{b c:Nat}(x:AO)(hne:c≠b):(h.set b x).get c=h.get c:=by
 unfold Heap.get Heap.set;exact ZCE h.t b c (some x) hne
theorem Heap.get_del_same {h:Heap}{b:Nat}:(h.del b).get b=none:=by
 unfold Heap.get Heap.del;exact ZAm h.t b none
theorem Heap.get_del_other {h:Heap}{b c:Nat}(hne:c≠b):(h.del b).get c=h.get c:=by
 unfold Heap.get Heap.del;exact ZCE h.t b c none hne
theorem Heap.get_add_same {h:Heap}{o:AO}:(h.add o).get h.nx=some o:=by
 unfold Heap.get Heap.add;exact ZAm h.t h.nx (some o)
theorem Heap.get_add_other {h:Heap}{o:AO}{c:Nat}(hne:c≠h.nx):(h.add o).get c=h.get c:=by
 unfold Heap.get Heap.add;exact ZCE h.t h.nx c (some o) hne
def Rg (ι:Iota)(h:Heap)(c:Nat):Prop:=∃b o bi,h.get b=some o/\ι b=some bi/\bi.blk=c
structure HR (ι:Iota)(h:Heap)(hp:Array Obj):Prop where
 obj:∀b o,h.get b=some o->∃bi o',ι b=some bi/\hp[bi.blk]?=some o'/\OR ι bi o o'
 inj:∀b b' o o' bi bi',h.get b=some o->h.get b'=some o'->ι b=some bi->ι b'=some bi'->bi.blk=bi'.blk->b=b'
 fresh:∀b bi,ι b=some bi->b<h.nx
 glo:∀g bi,g<h.gl->ι g=some bi->bi.blk=g
 gn:h.gl<=h.nx
def unfz:Obj->Prop
 | .cells _ _ fz=>fz=(0,0)
 | _=>True
def roA:AO->Bool
 | .ro _ _=>true
 | _=>false
theorem OR.unfz {ι:Iota}{bi:BI}{o:AO}{o':Obj}(h:OR ι bi o o')(hro:roA o=false):unfz o':=by
 cases o' with
 | cells c t fz =>
  cases o with
  | ro _ _=>cases hro
  | cells _ _ _=>simp only[OR] at h;exact h.2.1
  | _=>simp only[OR] at h
 | _=>trivial
structure Adv (ι:Iota)(h:Heap)(w:World) (ι':Iota)(h':Heap)(w':World):Prop where
 sub:Sub ι ι'
 sz:w.heap.size<=w'.heap.size
 fr:∀c,c<w.heap.size->¬Rg ι h c->w'.heap[c]?=w.heap[c]?
 dm:∀c,Rg ι' h' c->c<w.heap.size->Rg ι h c
 nx:h.nx<=h'.nx
 old:∀b,b<h.nx->ι' b=ι b
 gl:h'.gl=h.gl
 os:w'.os=w.os
 out:w'.output=w.output
 dr:h.gl=0->w'.tape=w.tape/\w.drawn<=w'.drawn
theorem Adv.refl (ι:Iota)(h:Heap)(w:World):Adv ι h w ι h w:=⟨.refl _,Nat.le_refl _,fun _ _ _=>rfl,fun _ h _=>h,Nat.le_refl _,fun _ _=>rfl,rfl,rfl,rfl,fun _=>⟨rfl,Nat.le_refl _⟩⟩
theorem Adv.trans {ι ι1 ι2:Iota}{h h1 h2:Heap}{w w1 w2:World}(a:Adv ι h w ι1 h1 w1)(b:Adv ι1 h1 w1 ι2 h2 w2):Adv ι h w ι2 h2 w2 where
 sub:=a.sub.trans b.sub
 sz:=Nat.le_trans a.sz b.sz
 fr:=fun c hc hn=>by rw[b.fr c (Nat.lt_of_lt_of_le hc a.sz) (fun hr=>hn (a.dm c hr hc)),a.fr c hc hn]
 dm:=fun c hr hc=>a.dm c (b.dm c hr (Nat.lt_of_lt_of_le hc a.sz)) hc
 nx:=Nat.le_trans a.nx b.nx
 old:=fun c hc=>(b.old c (Nat.lt_of_lt_of_le hc a.nx)).trans (a.old c hc)
 gl:=b.gl.trans a.gl
 os:=b.os.trans a.os
 out:=b.out.trans a.out
 dr:=fun e=>⟨(b.dr (a.gl.trans e)).1.trans (a.dr e).1,Nat.le_trans (a.dr e).2 (b.dr (a.gl.trans e)).2⟩
theorem Adv.alike {ι ι':Iota}{h h':Heap}{w w' w2:World}(a:Adv ι h w ι' h' w')(h1:w2.heap=w'.heap)(h2:w2.os=w'.os)(h3:w2.output=w'.output)(h4:w2.tape=w'.tape)(h5:w'.drawn<=w2.drawn):Adv ι h w ι' h' w2 :=
 ⟨a.sub,by rw[h1];exact a.sz,fun c hc hn=>by rw[h1];exact a.fr c hc hn,a.dm,a.nx,a.old,a.gl,h2.trans a.os,h3.trans a.out,fun e=>⟨h4.trans (a.dr e).1,Nat.le_trans (a.dr e).2 h5⟩⟩
def upd (ι:Iota)(b:Nat)(bi:BI):Iota:=fun c=>if c=b then some bi else ι c
theorem upd_same (ι:Iota)(b:Nat)(bi:BI):upd ι b bi b=some bi:=by simp[upd]
theorem upd_other (ι:Iota){b c:Nat}(bi:BI)(h:c≠b):upd ι b bi c=ι c:=by simp[upd,h]
variable {ι:Iota}{h:Heap}{hp:Array Obj}
theorem HR.sub_upd (hr:HR ι h hp)(bi:BI):Sub ι (upd ι h.nx bi):=fun b x hb=>by
 have:b≠h.nx:=by have:=hr.fresh b x hb;omega
 rw[upd_other _ _ this];exact hb
theorem HR.blk_lt (hr:HR ι h hp){c:Nat}(hg:Rg ι h c):c<hp.size:=by
 obtain⟨b,o,bi,h1,h2,rfl⟩:=hg;obtain⟨bi',o',e1,e2,_⟩:=hr.obj b o h1;rw[h2] at e1;cases e1;exact (Array.getElem?_eq_some_iff.1 e2).1
theorem HR.add {w:World}(hr:HR ι h w.heap){o:AO}{o':Obj}{bi:BI}(hb:bi.blk=w.heap.size)(ho:OR (upd ι h.nx bi) bi o o')(hro:roA o=false:=by rfl) :
  HR (upd ι h.nx bi) (h.add o) (w.heap.push o')/\Adv ι h w (upd ι h.nx bi) (h.add o) { w with heap:=w.heap.push o' }:=by
 have hsub:=hr.sub_upd bi
 constructor
 ·constructor
  ·intro b x hx
   by_cases e:b=h.nx
   ·subst e
    rw[Heap.get_add_same] at hx;cases hx;exact⟨bi,o',upd_same _ _ _,by rw[hb];simp,ho⟩
   ·rw[Heap.get_add_other e] at hx
    obtain⟨bi',x',e1,e2,e3⟩:=hr.obj b x hx;refine⟨bi',x',hsub _ _ e1,?_,e3.mono hsub⟩;have hlt:=(Array.getElem?_eq_some_iff.1 e2).1;rw[Array.getElem?_push];rw[if_neg (by omega)];exact e2
  ·intro b b' x x' bi1 bi2 h1 h2 i1 i2 heq
   by_cases e:b=h.nx <;> by_cases e':b'=h.nx
   ·rw[e,e']
   ·exfalso
    rw[e,upd_same] at i1;cases i1;rw[upd_other _ _ e'] at i2;rw[Heap.get_add_other e'] at h2;have:=hr.blk_lt ⟨b',x',bi2,h2,i2,rfl⟩;omega
   ·exfalso
    rw[e',upd_same] at i2;cases i2;rw[upd_other _ _ e] at i1;rw[Heap.get_add_other e] at h1;have:=hr.blk_lt ⟨b,x,bi1,h1,i1,rfl⟩;omega
   ·rw[Heap.get_add_other e] at h1;rw[Heap.get_add_other e'] at h2
    rw[upd_other _ _ e] at i1;rw[upd_other _ _ e'] at i2;exact hr.inj b b' x x' bi1 bi2 h1 h2 i1 i2 heq
  ·intro b x hx
   by_cases e:b=h.nx
   ·subst e;exact Nat.lt_succ_self _
   ·rw[upd_other _ _ e] at hx;exact Nat.lt_succ_of_lt (hr.fresh b x hx)
  ·intro g x hgl hx
   have hgl':g<h.gl:=hgl
   by_cases e:g=h.nx
   ·subst e;have:=hr.gn;omega
   ·rw[upd_other _ _ e] at hx;exact hr.glo g x hgl hx
  ·exact Nat.le_succ_of_le hr.gn
 ·constructor
  ·exact hsub
  ·simp
  ·intro c hc _;rw[Array.getElem?_push];rw[if_neg (by omega)]
  ·rintro c ⟨b,x,bi1,h1,i1,rfl⟩ hc
   by_cases e:b=h.nx
   ·rw[e,upd_same] at i1;cases i1;omega
   ·rw[Heap.get_add_other e] at h1;rw[upd_other _ _ e] at i1;exact⟨b,x,bi1,h1,i1,rfl⟩
  ·exact Nat.le_succ _
  ·exact fun c hc=>upd_other _ _ (Nat.ne_of_lt hc)
  ·rfl
  ·rfl
  ·rfl
  ·exact fun _=>⟨rfl,Nat.le_refl _⟩
theorem HR.set {w:World}(hr:HR ι h w.heap){b:Nat}{o o2:AO}{o2':Obj}{bi:BI}(hg:h.get b=some o)(hi:ι b=some bi)(ho:OR ι bi o2 o2')(hro:roA o2=false:=by rfl) :
  HR ι (h.set b o2) (w.heap.setIfInBounds bi.blk o2')/\Adv ι h w ι (h.set b o2) { w with heap:=w.heap.setIfInBounds bi.blk o2' }:=by
 have hlt:bi.blk<w.heap.size:=hr.blk_lt ⟨b,o,bi,hg,hi,rfl⟩;have hdom:∀c x,(h.set b o2).get c=some x->∃y,h.get c=some y:=by
  intro c x hx
  by_cases e:c=b
  ·exact⟨o,e ▸ hg⟩
  ·rw[Heap.get_set_other _ e] at hx;exact⟨x,hx⟩
 constructor
 ·constructor
  ·intro c x hx
   by_cases e:c=b
   ·subst e
    rw[Heap.get_set_same _ hg] at hx;cases hx;exact⟨bi,o2',hi,by simp[hlt],ho⟩
   ·rw[Heap.get_set_other _ e] at hx
    obtain⟨bi',x',e1,e2,e3⟩:=hr.obj c x hx;refine⟨bi',x',e1,?_,e3⟩;have hne:bi.blk≠bi'.blk:=fun he=>e ((hr.inj b c o x bi bi' hg hx hi e1 he).symm);rw[Array.getElem?_setIfInBounds_ne hne];exact e2
  ·intro c c' x x' bi1 bi2 h1 h2 i1 i2 heq
   obtain⟨y,hy⟩:=hdom c x h1;obtain⟨y',hy'⟩:=hdom c' x' h2;exact hr.inj c c' y y' bi1 bi2 hy hy' i1 i2 heq
  ·exact hr.fresh
  ·exact hr.glo
  ·exact hr.gn
 ·constructor
  ·exact .refl _
  ·simp
  ·intro c hc hn
   have hne:bi.blk≠c:=fun he=>hn ⟨b,o,bi,hg,hi,he⟩;rw[Array.getElem?_setIfInBounds_ne hne]
  ·rintro c ⟨d,x,bi1,h1,i1,rfl⟩ _
   obtain⟨y,hy⟩:=hdom d x h1;exact⟨d,y,bi1,hy,i1,rfl⟩
  ·exact Nat.le_refl _
  ·exact fun _ _=>rfl
  ·rfl
  ·rfl
  ·rfl
  ·exact fun _=>⟨rfl,Nat.le_refl _⟩
theorem HR.del {w:World}(hr:HR ι h w.heap)(b:Nat):HR ι (h.del b) w.heap/\Adv ι h w ι (h.del b) w:=by
 have hdom:∀c x,(h.del b).get c=some x->h.get c=some x:=by
  intro c x hx
  by_cases e:c=b
  ·subst e;rw[Heap.get_del_same] at hx;cases hx
  ·rw[Heap.get_del_other e] at hx;exact hx
 refine⟨⟨fun c x hx=>hr.obj c x (hdom c x hx),fun c c' x x' bi1 bi2 h1 h2 i1 i2 heq=>hr.inj c c' x x' bi1 bi2 (hdom _ _ h1) (hdom _ _ h2) i1 i2 heq,hr.fresh,hr.glo,hr.gn⟩,
  ⟨.refl _,Nat.le_refl _,fun _ _ _=>rfl,?_,Nat.le_refl _,fun _ _=>rfl,rfl,rfl,rfl,fun _=>⟨rfl,Nat.le_refl _⟩⟩⟩
 rintro c ⟨d,x,bi1,h1,i1,rfl⟩ _;exact⟨d,x,bi1,hdom _ _ h1,i1,rfl⟩
variable {P:Program}
inductive AR where
 | ok (v:Value) (h:Heap)
 | no
noncomputable def opv (h:Heap)(e:Env)(x:Operand):Option Value :=
 @Operand.casesOn (fun _=>Option Value) x (fun t=>lk t e) (fun v=>@Bool.casesOn (fun _=>Option Value) (flat v) none (some v))
  (fun g=>@Bool.casesOn (fun _=>Option Value) (Nat.blt g h.gl) none (@Option.casesOn AO (fun _=>Option Value) (h.get g) none (fun _=>some (.pointer (some ⟨g,0,none⟩)))))
  (fun f=>some (.func (.func f) #[] #[]))
theorem ZAH {ι:Iota}{h:Heap}{hp:Array Obj}{e:Env}{a:Act}(hr:HR ι h hp)(he:EnvR ι e a.tmps){x:Operand}{v:Value}(hv:opv h e x=some v) :
  VR ι v (a.eval x):=by
 cases x with
 | tmp t =>
  obtain⟨v',h1,h2⟩:=he t v hv
  show VR ι v (a.tmps.getD t undef)
  rw[Array.getD_eq_getD_getElem?,h1];exact h2
 | const c =>
  change @Bool.casesOn (fun _=>Option Value) (flat c) none (some c)=some v at hv
  cases hf:flat c
  ·rw[hf] at hv;cases hv
  ·rw[hf] at hv;cases hv;exact VR.of_flat ι hf
 | global g =>
  change @Bool.casesOn (fun _=>Option Value) (Nat.blt g h.gl) none (@Option.casesOn AO (fun _=>Option Value) (h.get g) none (fun _=>some (.pointer (some ⟨g,0,none⟩))))=some v at hv
  cases hg:Nat.blt g h.gl
  ·rw[hg] at hv;cases hv
  ·rw[hg] at hv
   cases ho:h.get g with
   | none=>rw[ho] at hv;cases hv
   | some o =>
    rw[ho] at hv;cases hv;obtain⟨bi,o',i1,_,_⟩:=hr.obj g o ho;have hlt:g<h.gl:=Nat.le_of_ble_eq_true hg;have:=VR.ptr (o:=0) i1;rw[hr.glo g bi hlt i1] at this;exact this
 | func f=>cases hv;exact .fn f .nil .nil
def OpS (P:Program) (ι:Iota)(h:Heap)(w:World)(s:Sem Next)(v:Value)(h':Heap):Prop :=
 ∃ι' v' w',(s.run P w=.ok (.value v') w'\/(s.run P w=.ok .skip w'/\v'=undef))/\VR ι' v v'/\HR ι' h' w'.heap/\Adv ι h w ι' h' w'
theorem OpS.here {ι:Iota}{h:Heap}{w:World}{s:Sem Next}{v v':Value}(hr:HR ι h w.heap)(hs:s.run P w=.ok (.value v') w)(hv:VR ι v v'):OpS P ι h w s v h :=
 ⟨ι,v',w,.inl hs,hv,hr,.refl _ _ _⟩
noncomputable def nth {α:Type}(l:List α):Nat->Option α :=
 @List.rec α (fun _=>Nat->Option α) (fun _=>none) (fun x _ ih n=>@Nat.casesOn (fun _=>Option α) n (some x) ih) l
theorem ZAv {α:Type}(l:List α)(n:Nat):nth l n=l[n]?:=by
 induction l generalizing n with
 | nil=>rfl
 | cons x l ih=>cases n with
  | zero=>rfl
  | succ n=>show nth l n=_;rw[ih];simp
noncomputable def tsz (P:Program)(t:TypeId):Option Nat:=@Option.casesOn TypeInfo (fun _=>Option Nat) (P.info? t) none (fun i=>some i.size)
theorem ZVC {t:TypeId}{n:Nat}(h:tsz P t=some n):∃i,P.info? t=some i/\i.size=n:=by
 unfold tsz at h
 cases hi:P.info? t with
 | none=>rw[hi] at h;cases h
 | some i=>rw[hi] at h;cases h;exact⟨i,rfl,rfl⟩
theorem ZAY {t:TypeId}{n:Nat}(h:tsz P t=some n)(w:World):(sizeOf t).run P w=.ok n w:=by
 obtain⟨i,h1,rfl⟩:=ZVC h;simp[sizeOf,typeInfo,h1]
theorem run_underlying {t:TypeId}{d:TypeDesc}(h:P.underlying t=some d)(w:World):(underlying t).run P w=.ok d w:=by
 simp[underlying,h]
def ZDa:TypeDesc->Bool
 | .struct _|.array _ _=>true
 | _=>false
theorem ZDj {t:TypeId}{d:TypeDesc}(h:P.underlying t=some d)(w:World):(isAgg t).run P w=.ok (ZDa d) w:=by
 simp only[isAgg,Sem.run_bind,run_underlying h,Result.andThen_ok];cases d <;> rfl
theorem ZBu (b o n:Nat):(⟨b,o,none⟩:Addr).add n=⟨b,o+n,none⟩:=by
 unfold Addr.add;split <;> simp_all
theorem HR.cellsAt {ι:Iota}{h:Heap}{w:World}(hr:HR ι h w.heap){b:Nat}{bi:BI}{vs:List Value}{elem:TypeId}{op:Bool}(hg:h.get b=some (.cells vs elem op))(hi:ι b=some bi) :
  ∃c,w.heap[bi.blk]?=some (.cells c elem (0,0))/\c.size=bi.cnt/\vs.length<=c.size/\(op=false->vs.length=c.size)/\VRL ι vs (c.toList.take vs.length):=by
 obtain⟨bi',o',i1,hw,ho⟩:=hr.obj b _ hg;rw[hi] at i1;cases i1;cases o' <;> simp only[OR] at ho
 obtain⟨rfl,rfl,h3,h4,h5,h6⟩:=ho;exact⟨_,hw,h3,h4,h5,h6⟩
theorem cell?_of_block {w:World}{b o:Nat}{c:Array Value}{e:TypeId}{fz:Nat×Nat}(h:w.heap[b]?=some (.cells c e fz)):w.cell? ⟨b,o,none⟩=c[o]?:=by
 simp[World.cell?,h]
theorem VRL.get_take {ι:Iota}{vs:List Value}{c:Array Value}(h:VRL ι vs (c.toList.take vs.length)){i:Nat}{v:Value}(hv:vs[i]?=some v) :
  ∃v',c[i]?=some v'/\VR ι v v':=by
 obtain⟨v',h1,h2⟩:=h.get i v hv;refine⟨v',?_,h2⟩;have hlt:i<vs.length:=(List.getElem?_eq_some_iff.1 hv).1;rw[List.getElem?_take,if_pos hlt] at h1
 simpa using h1
theorem ZA3 {w:World}{b o n:Nat}{c:Array Value}{e:TypeId}{fz:Nat×Nat}(h:w.heap[b]?=some (.cells c e fz))(hn:o+n<=c.size) :
  (loadCells ⟨b,o,none⟩ n).run P w=.ok ((c.toList.drop o).take n).toArray w:=by
 have hl:((c.toList.drop o).take n).length=n:=by simp;omega
 have:=run_loadCells_list (P:=P) w ⟨b,o,none⟩ ((c.toList.drop o).take n) (fun j v hv=>by
  rw[ZBu,cell?_of_block h];have hj:j<n:=by have:=(List.getElem?_eq_some_iff.1 hv).1;omega
  rw[List.getElem?_take,if_pos hj,List.getElem?_drop] at hv
  simpa using hv)
 rw[hl] at this;exact this
noncomputable def cut (vs:List Value)(o n:Nat):Option (List Value) :=
 @Bool.casesOn (fun _=>Option (List Value)) (Nat.ble (Nat.add o n) vs.length) none (some ((vs.drop o).take n))
theorem ZEE {vs:List Value}{o n:Nat}{l:List Value}(h:cut vs o n=some l):o+n<=vs.length/\l=(vs.drop o).take n:=by
 unfold cut at h;cases hb:Nat.ble (Nat.add o n) vs.length
 ·rw[hb] at h;cases h
 ·rw[hb] at h;cases h;exact⟨Nat.le_of_ble_eq_true hb,rfl⟩
def okv (lim:Nat):Value->Bool
 | .slice (some _) 0 0=>true
 | .bool _=>true
 | .int _ _=>true
 | .string _=>true
 | .pointer none=>true
 | .pointer (some ⟨b,_,none⟩)=>Nat.blt b lim
 | .slice none _ _=>true
 | .slice (some ⟨b,_,none⟩) _ _=>Nat.blt b lim
 | .map none=>true
 | .map (some b)=>Nat.blt b lim
 | .nilFunc=>true
 | .nilIface=>true
 | _=>false
def nz:Value->Value
 | .slice (some _) 0 0=>.slice (some ⟨0,0,some 0⟩) 0 0
 | v=>v
theorem ZLq {ι:Iota}{lim:Nat}(hl:∀b,b<lim->∃bi',ι b=some bi'/\bi'.blk=b){v:Value}(h:okv lim v=true):VR ι (nz v) v:=by
 unfold okv at h
 split at h
 ·exact .sle _ _ _
 ·exact .bool _
 ·exact .int _ _
 ·exact .str _
 ·exact .ptr0
 ·rename_i b o
  obtain⟨bi,h1,h2⟩:=hl b (Nat.le_of_ble_eq_true h);have:=VR.ptr (o:=o) h1;rw[h2] at this;exact this
 ·exact .sl0 _ _
 ·rename_i b o l c hne
  obtain⟨bi,h1,h2⟩:=hl b (Nat.le_of_ble_eq_true h);have:=VR.sl (o:=o) (l:=l) (c:=c) h1;rw[h2] at this;have hz:nz (.slice (some ⟨b,o,none⟩) l c)=.slice (some ⟨b,o,none⟩) l c:=by
   unfold nz
   split
   ·rename_i a e
    simp only[Value.slice.injEq] at e;exact (hne e.2.1 e.2.2).elim
   ·rfl
  rw[hz];exact this
 ·exact .map0
 ·rename_i b
  obtain⟨bi,h1,h2⟩:=hl b (Nat.le_of_ble_eq_true h);have:=VR.map h1;rw[h2] at this;exact this
 ·exact .nilFunc
 ·exact .nilIface
 ·cases h
theorem ZNH {ι:Iota}{lim:Nat}(hl:∀b,b<lim->∃bi',ι b=some bi'/\bi'.blk=b):∀{l:List Value},l.all (okv lim)=true->VRL ι (l.map nz) l
 | [],_=>.nil
 | v::l,h=>by
  rw[List.all_cons,Bool.and_eq_true] at h;exact .cons (ZLq hl h.1) (ZNH hl h.2)
noncomputable def rdo (lim:Nat)(ob:Obj)(o n:Nat):Option (List Value) :=
 match ob with
 | .cells c _ _=>match cut c.toList o n with
  | some l=>@Bool.casesOn (fun _=>Option (List Value)) (l.all (okv lim)) none (some (l.map nz))
  | none=>none
 | _=>none
theorem HR.rdo {ι:Iota}{h:Heap}{w:World}(hr:HR ι h w.heap){b lim o n:Nat}{ob:Obj}{l:List Value}{bi:BI}(hg:h.get b=some (.ro lim ob))(hi:ι b=some bi)(hs:rdo lim ob o n=some l) :
  ∃c e fz,w.heap[bi.blk]?=some (.cells c e fz)/\o+n<=c.size/\VRL ι l ((c.toList.drop o).take n):=by
 obtain⟨bi',o',i1,hw,ho⟩:=hr.obj b _ hg;rw[hi] at i1;cases i1;simp only[OR] at ho;obtain⟨rfl,hl⟩:=ho;unfold Dx.rdo at hs
 split at hs
 ·rename_i c e fz
  split at hs
  ·rename_i l1 hc
   cases hb:l1.all (okv lim)
   ·rw[hb] at hs;cases hs
   ·rw[hb] at hs;cases hs
    obtain⟨h1,h2⟩:=ZEE hc;exact⟨c,e,fz,hw,by simpa using h1,by rw[<-h2];exact ZNH hl hb⟩
  ·cases hs
 ·cases hs
noncomputable def ZFI (P:Program)(t:TypeId)(p:Value)(h:Heap):Option Value :=
 match p with
 | .pointer (some ⟨b,o,none⟩) =>
  match h.get b with
  | some (.cells vs _ _) =>
   match P.underlying t with
   | some d =>
    @Bool.casesOn (fun _=>Option Value) (ZDa d) (nth vs o)
     (match tsz P t with
      | some n=>match cut vs o n with|some l=>some (.agg ⟨l⟩)|none=>none
      | none=>none)
   | none=>none
  | some (.ro lim ob) =>
   match P.underlying t with
   | some d =>
    @Bool.casesOn (fun _=>Option Value) (ZDa d) (match rdo lim ob o 1 with|some [v]=>some v|_=>none)
     (match tsz P t with
      | some n=>match rdo lim ob o n with|some l=>some (.agg ⟨l⟩)|none=>none
      | none=>none)
   | none=>none
  | _=>none
 | _=>none
theorem ZHd {ι:Iota}{h:Heap}{w:World}(hr:HR ι h w.heap){t:TypeId}{p p' v:Value}(hp:VR ι p p')(hv:ZFI P t p h=some v) :
  ∃v',(Instr.loadAt t p').run P w=.ok v' w/\VR ι v v':=by
 unfold ZFI at hv
 split at hv
 ·rename_i b o
  cases hp with
  | ptr hi =>
   rename_i bi
   split at hv
   ·rename_i vs elem op hg
    obtain⟨c,hc,hcn,hle,_,hvs⟩:=hr.cellsAt hg hi
    split at hv
    ·rename_i d hd
     cases hrow:ZDa d
     ·rw[hrow] at hv
      simp only[ZAv] at hv;obtain⟨v',h1,h2⟩:=hvs.get_take hv;refine⟨v',?_,h2⟩;simp only[Instr.loadAt,Instr.sureAddr,Sem.run_bind,Sem.run_pure,Result.andThen_ok,loadVar,ZDj hd,hrow,Bool.false_eq_true,if_false,run_load,cell?_of_block hc,h1]
     ·rw[hrow] at hv
      simp only at hv
      split at hv
      ·rename_i n hn
       split at hv
       ·rename_i l hl
        cases hv;obtain⟨hle2,rfl⟩:=ZEE hl;refine⟨.agg ((c.toList.drop o).take n).toArray,?_,.agg ?_⟩
        ·simp only[Instr.loadAt,Instr.sureAddr,Sem.run_bind,Sem.run_pure,Result.andThen_ok,loadVar,ZDj hd,hrow,if_true,ZAY hn,
          ZA3 hc (show o+n<=c.size by omega)]
        ·have:=(hvs.drop o).take n
         rw[List.drop_take,List.take_take,Nat.min_eq_left (by omega)] at this;exact this
       ·cases hv
      ·cases hv
    ·cases hv
   ·rename_i lim ob hg
    split at hv
    ·rename_i d hd
     cases hrow:ZDa d
     ·rw[hrow] at hv
      simp only at hv
      split at hv
      ·rename_i v1 hro
       cases hv;obtain⟨c,e,fz,hw,hle,hvr⟩:=hr.rdo hg hi hro;generalize hl:(c.toList.drop o).take 1=q at hvr
       cases hvr with
       | @cons _ v' _ _ h2 _ =>
       refine⟨v',?_,h2⟩;have h1:c[o]?=some v':=by
        have:((c.toList.drop o).take 1)[0]?=some v':=by rw[hl];rfl
        rw[List.getElem?_take,if_pos (by omega),List.getElem?_drop] at this
        simpa using this
       simp only[Instr.loadAt,Instr.sureAddr,Sem.run_bind,Sem.run_pure,Result.andThen_ok,loadVar,ZDj hd,hrow,Bool.false_eq_true,if_false,run_load,cell?_of_block hw,h1]
      ·cases hv
     ·rw[hrow] at hv
      simp only at hv
      split at hv
      ·rename_i n hn
       split at hv
       ·rename_i l hro
        cases hv;obtain⟨c,e,fz,hw,hle,hvr⟩:=hr.rdo hg hi hro;refine⟨.agg ((c.toList.drop o).take n).toArray,?_,.agg (by simpa using hvr)⟩;simp only[Instr.loadAt,Instr.sureAddr,Sem.run_bind,Sem.run_pure,Result.andThen_ok,loadVar,ZDj hd,hrow,if_true,ZAY hn,ZA3 hw hle]
       ·cases hv
      ·cases hv
    ·cases hv
   ·cases hv
 ·cases hv
variable {P:Program}
theorem ZHq {w:World}{g:Nat}{cur:Array Value}{t:TypeId}(hg:w.heap[g]?=some (.cells cur t (0,0)))(c:Array Value) :
  (w.setRow g c).heap=w.heap.setIfInBounds g (.cells c t (0,0)):=by
 have hlt:=(Array.getElem?_eq_some_iff.1 hg).1;have hge:w.heap[g]=.cells cur t (0,0):=(Array.getElem?_eq_some_iff.1 hg).2;unfold World.setRow;apply Array.ext
 ·simp
 ·intro i h1 h2
  have h1':i<w.heap.size:=by simpa using h1
  rw[Array.getElem_modify,Array.getElem_setIfInBounds h1']
  by_cases e:g=i
  ·subst e;simp[hge]
  ·simp[e]
noncomputable def allOne (l:List Value):Bool:=l.all (·.oneCell')
noncomputable def lay0 (l:List Value):List Value->Option (List Value) :=
 @List.rec Value (fun _=>List Value->Option (List Value)) (fun vs=>some vs)
  (fun x _ ih vs=>@List.rec Value (fun _=>Option (List Value)) none (fun _ vs _=>@Option.rec (List Value) (fun _=>Option (List Value)) none (fun r=>some (x::r)) (ih vs)) vs) l
noncomputable def layG (l:List Value)(vs:List Value):Nat->Option (List Value) :=
 @List.rec Value (fun _=>Nat->Option (List Value)) (fun o=>@Bool.rec (fun _=>Option (List Value)) none (lay0 l []) (Nat.beq o 0))
  (fun v vs ih o=>@Bool.rec (fun _=>Option (List Value)) (@Option.rec (List Value) (fun _=>Option (List Value)) none (fun r=>some (v::r)) (ih (Nat.pred o))) (lay0 l (v::vs)) (Nat.beq o 0)) vs
noncomputable def lay (vs:List Value)(o:Nat)(l:List Value):Option (List Value):=layG l vs o
theorem ZRC:∀(l vs:List Value){r:List Value},lay0 l vs=some r->l.length<=vs.length/\r=l++vs.drop l.length:=by
 intro l
 induction l with
 | nil=>intro vs r h;cases h;exact⟨Nat.zero_le _,rfl⟩
 | cons x l ih =>
  intro vs r h
  cases vs with
  | nil=>cases h
  | cons v vs =>
   change @Option.rec (List Value) (fun _=>Option (List Value)) none (fun r=>some (x::r)) (lay0 l vs)=some r at h
   cases hq:lay0 l vs with
   | none=>rw[hq] at h;cases h
   | some q =>
    rw[hq] at h;cases h;obtain⟨h1,h2⟩:=ih vs hq;exact⟨by simpa using h1,by rw[h2];rfl⟩
theorem ZT7 (l:List Value):∀(vs:List Value)(o:Nat){r:List Value},layG l vs o=some r->o+l.length<=vs.length/\r=vs.take o++(l++vs.drop (o+l.length)):=by
 intro vs
 induction vs with
 | nil =>
  intro o r h
  change @Bool.rec (fun _=>Option (List Value)) none (lay0 l []) (Nat.beq o 0)=some r at h
  cases hb:Nat.beq o 0
  ·rw[hb] at h;cases h
  ·rw[hb] at h
   have:=Nat.eq_of_beq_eq_true hb;subst this;obtain⟨h1,h2⟩:=ZRC l [] h;exact⟨by simpa using h1,by rw[h2];simp⟩
 | cons v vs ih =>
  intro o r h
  change @Bool.rec (fun _=>Option (List Value)) (@Option.rec (List Value) (fun _=>Option (List Value)) none (fun r=>some (v::r)) (layG l vs (Nat.pred o))) (lay0 l (v::vs)) (Nat.beq o 0)=some r at h
  cases hb:Nat.beq o 0
  ·rw[hb] at h
   have ho:o≠0:=fun e=>by rw[e] at hb;cases hb
   obtain⟨m,rfl⟩:∃m,o=m+1:=⟨o-1,by omega⟩;simp only[Nat.pred_succ] at h
   cases hq:layG l vs m with
   | none=>rw[hq] at h;cases h
   | some q =>
    rw[hq] at h;cases h;obtain⟨h1,h2⟩:=ih m hq;refine⟨by simp;omega,?_⟩;rw[h2,show m+1+l.length=(m+l.length)+1 by omega];simp
  ·rw[hb] at h
   have:=Nat.eq_of_beq_eq_true hb;subst this;obtain⟨h1,h2⟩:=ZRC l (v::vs) h;exact⟨by simpa using h1,by rw[h2];simp⟩
theorem ZVG {vs:List Value}{o:Nat}{l r:List Value}(h:lay vs o l=some r):o+l.length<=vs.length/\r=vs.take o++(l++vs.drop (o+l.length)):=ZT7 l vs o h
theorem ZGd {w:World}{g:Nat}{cur:Array Value}{t:TypeId}(hg:w.heap[g]?=some (.cells cur t (0,0)))(c:Array Value) :
  w.setRow g c={ w with heap:=w.heap.setIfInBounds g (.cells c t) }:=by
 show ({ w with heap:=(w.setRow g c).heap }:World)=_
 rw[ZHq hg]
theorem VR.one {ι:Iota}{v v':Value}(h:VR ι v v'):v'.oneCell'=v.oneCell':=by cases h <;> rfl
theorem VRL.allOne {ι:Iota}{l l':List Value}(h:VRL ι l l')(ha:allOne l=true):∀v∈l',v.oneCell'=true:=by
 induction l generalizing l' with
 | nil=>cases h;simp
 | cons x l ih =>
  cases h with
  | cons h t =>
   simp only[Dx.allOne,List.all_cons,Bool.and_eq_true] at ha;intro v hv
   cases hv with
   | head=>rw[h.one];exact ha.1
   | tail _ hv=>exact ih t ha.2 v hv
theorem HR.lay {ι:Iota}{h:Heap}{w:World}(hr:HR ι h w.heap){b o:Nat}{bi:BI}{vs l l' r:List Value}{elem:TypeId}{op:Bool}(hg:h.get b=some (.cells vs elem op))(hi:ι b=some bi)
  (hl:VRL ι l l') (ha:allOne l=true) (hlay:lay vs o l=some r) :
  ∃w',(storeCells ⟨bi.blk,o,none⟩ l').run P w=.ok () w'/\HR ι (h.set b (.cells r elem op)) w'.heap/\Adv ι h w ι (h.set b (.cells r elem op)) w':=by
 obtain⟨c,hc,hcn,hle,hop,hvs⟩:=hr.cellsAt hg hi;obtain⟨hfit,rfl⟩:=ZVG hlay;have hlen:=hl.length;have hrun:=run_storeCells_at (P:=P) bi.blk o elem l' 0 c w hc (by omega) (hl.allOne ha);refine⟨_,hrun,?_⟩;rw[ZGd hc];simp only[Nat.add_zero];refine hr.set hg hi ?_;simp only[OR];have hrl:(vs.take o++(l++vs.drop (o+l.length))).length=vs.length:=by simp;omega
 refine⟨trivial,trivial,?_,?_,?_,?_⟩
 ·simp;omega
 ·simp;omega
 ·intro h0;have:=hop h0;simp;omega
 ·rw[hrl]
  have e:((c.toList.take o++l'++c.toList.drop (o+l'.length)).toArray.toList).take vs.length=(c.toList.take vs.length).take o++(l'++(c.toList.take vs.length).drop (o+l'.length)):=by
   have hA:(c.toList.take o++l').length=o+l'.length:=by simp;omega
   rw[List.toList_toArray,List.take_append,List.take_of_length_le (by omega:(c.toList.take o++l').length<=vs.length),hA,List.drop_take,List.take_take,
    Nat.min_eq_left (by omega),List.append_assoc]
  rw[e,hlen];exact (hvs.take o).append (hl.append (hvs.drop _))
noncomputable def ZNs (P:Program)(t:TypeId)(p v:Value)(h:Heap):Option Heap :=
 match p with
 | .pointer (some ⟨b,o,none⟩) =>
  match h.get b with
  | some (.cells vs elem op) =>
   match tsz P t with
   | some n =>
    @Bool.casesOn (fun _=>Option Heap) (Nat.beq v.cells.toList.length n) none
     (@Bool.casesOn (fun _=>Option Heap) (allOne v.cells.toList) none
      (match lay vs o v.cells.toList with
       | some r=>some (h.set b (.cells r elem op))
       | none=>none))
   | none=>none
  | _=>none
 | _=>none
theorem ZKl {ι:Iota}{h h':Heap}{w:World}(hr:HR ι h w.heap){t:TypeId}{p p' v v':Value}(hp:VR ι p p')(hv:VR ι v v')(hs:ZNs P t p v h=some h') :
  ∃w',(Instr.storeAt t p' v').run P w=.ok () w'/\HR ι h' w'.heap/\Adv ι h w ι h' w':=by
 unfold ZNs at hs
 split at hs
 ·rename_i b o
  cases hp with
  | ptr hi =>
   rename_i bi
   split at hs
   ·rename_i vs elem op hg
    split at hs
    ·rename_i n hn
     cases hq:Nat.beq v.cells.toList.length n
     ·rw[hq] at hs;cases hs
     ·rw[hq] at hs
      cases ha:allOne v.cells.toList
      ·rw[ha] at hs;cases hs
      ·rw[ha] at hs
       simp only at hs
       split at hs
       ·rename_i r hlay
        cases hs;have hc:=hv.cells;obtain⟨w',h1,h2,h3⟩:=hr.lay (P:=P) hg hi hc ha hlay;refine⟨w',?_,h2,h3⟩;have hsz:v'.cells.size=n:=by
         have hq':v'.cells.toList.length=n:=by rw[<-hc.length];exact Nat.eq_of_beq_eq_true hq
         rw[<-hq'];exact Array.length_toList.symm
        simp only[Instr.storeAt,Instr.sureAddr,Sem.run_bind,Sem.run_pure,Result.andThen_ok,storeVar,ZAY hn,hsz,ne_eq,not_true_eq_false,if_false];exact h1
       ·cases hs
    ·cases hs
   ·cases hs
 ·cases hs
theorem HR.newCells {ι:Iota}{h:Heap}{w:World}(hr:HR ι h w.heap){vs vs':List Value}(hv:VRL ι vs vs')(elem:TypeId) :
  ∃ι' bi,ι' h.nx=some bi/\bi.blk=w.heap.size/\HR ι' (h.add (.cells vs elem false)) (w.heap.push (.cells vs'.toArray elem)) ∧
   Adv ι h w ι' (h.add (.cells vs elem false)) { w with heap:=w.heap.push (.cells vs'.toArray elem) }:=by
 let bi:BI:=⟨w.heap.size,vs'.length,1⟩
 have hs:=hr.sub_upd bi
 have:=hr.add (o:=.cells vs elem false) (o':=.cells vs'.toArray elem) (bi:=bi) rfl (by
  simp only[OR];have hl:=hv.length;refine⟨trivial,trivial,by simp[bi],by simp;omega,fun _=>by simpa using hl,?_⟩;rw[List.take_of_length_le (by omega)];exact hv.mono hs)
 exact⟨_,bi,upd_same _ _ _,rfl,this.1,this.2⟩
noncomputable def abox (t:TypeId)(v:Value)(h:Heap):AR :=
 .ok (.pointer (some ⟨h.nx,0,none⟩)) (h.add (.cells v.cells.toList t false))
theorem ZJG {ι:Iota}{h h':Heap}{w:World}(hr:HR ι h w.heap){t:TypeId}{v v' r:Value}(hv:VR ι v v')(hs:abox t v h=.ok r h') :
  ∃ι' r',(Instr.box t v').run P w=.ok r' { w with heap:=w.heap.push (.cells v'.cells t) }/\VR ι' r r'/\HR ι' h' (w.heap.push (.cells v'.cells t))/\Adv ι h w ι' h' { w with heap:=w.heap.push (.cells v'.cells t) }:=by
 unfold abox at hs;simp only[AR.ok.injEq] at hs;obtain⟨rfl,rfl⟩:=hs;obtain⟨ι',bi,e1,e2,e3,e4⟩:=hr.newCells hv.cells t;have ha:(v'.cells.toList.toArray)=v'.cells:=by simp
 rw[ha] at e3 e4;refine⟨ι',.pointer (some ⟨w.heap.size,0,none⟩),?_,?_,e3,e4⟩
 ·simp[Instr.box,newVar,newRow]
 ·have:=VR.ptr (o:=0) e1;rw[e2] at this;exact this
noncomputable def ZA9 (P:Program)(t:TypeId):Option Value :=
 match P.info? t with
 | some i=>match i.zero with
  | some v=>@Bool.casesOn (fun _=>Option Value) (flat v) none (some v)
  | none=>none
 | none=>none
theorem ZBV {t:TypeId}{v:Value}(h:ZA9 P t=some v):flat v=true/\∀w,(zeroValue t).run P w=.ok v w:=by
 unfold ZA9 at h
 split at h
 ·rename_i i hi
  split at h
  ·rename_i z hz
   cases hf:flat z
   ·rw[hf] at h;cases h
   ·rw[hf] at h;cases h
    refine⟨hf,fun w=>?_⟩;simp[zeroValue,typeInfo,hi,hz]
  ·cases h
 ·cases h
noncomputable def ZJL (P:Program)(t:TypeId)(h:Heap):AR :=
 match ZA9 P t with
 | some z=>abox t z h
 | none=>.no
theorem ZKp {ι:Iota}{h h':Heap}{w:World}(hr:HR ι h w.heap){t:TypeId}{r:Value}(hs:ZJL P t h=.ok r h') :
  ∃ι' r' w',(Instr.alloc t true (.tuple #[])).run P w=.ok r' w'/\VR ι' r r'/\HR ι' h' w'.heap/\Adv ι h w ι' h' w':=by
 unfold ZJL at hs
 split at hs
 ·rename_i z hz
  obtain⟨hf,hrun⟩:=ZBV hz;obtain⟨ι',r',h1,h2,h3,h4⟩:=ZJG (P:=P) hr (VR.of_flat ι hf) hs
  refine⟨ι',r',{ w with heap:=w.heap.push (.cells z.cells t) },?_,h2,h3,h4⟩
  simp only[Instr.alloc,Sem.run_bind,hrun,Result.andThen_ok];exact h1
 ·cases hs
variable {P:Program}
noncomputable def ZQ4 (P:Program) {α:Type}(s:Sem α):Option α :=
 @Sem.rec α (fun _=>Option α) (fun a=>some a) (fun _ _ _ _=>none) (fun _ _ _ _ _=>none) (fun _ _ _=>none) (fun _ _ _=>none) (fun _ _ _ _=>none)
  (fun _ _ _=>none) (fun _ _ _=>none) (fun _ _ _ _=>none) (fun _ _ _=>none) (fun _ _ _=>none) (fun _ ih=>ih P) (fun _ _ ih=>ih) (fun _=>none) s
theorem ZMX {α:Type}{s:Sem α}{a:α}(h:ZQ4 P s=some a)(w:World):s.run P w=.ok a w:=by
 induction s with
 | pure x=>cases h;rfl
 | program k ih=>exact ih P h
 | mark m k ih=>exact ih h
 | _=>cases h
def ZUe:Op->Bool
 | .select ..=>true
 | _=>false
noncomputable def ZIJ (h:Heap)(e:Env)(x:Operand):Bool :=
 match opv h e x with
 | some v=>flat v
 | none=>false
noncomputable def rho (h:Heap)(e:Env)(x:Operand):Value :=
 match opv h e x with
 | some v=>v
 | none=>undef
theorem ZOZ {ι:Iota}{h:Heap}{hp:Array Obj}{e:Env}{a:Act}(hr:HR ι h hp)(he:EnvR ι e a.tmps){x:Operand}(hf:ZIJ h e x=true):a.eval x=rho h e x:=by
 unfold ZIJ at hf;unfold rho
 split at hf
 ·rename_i v hv
  exact (ZAH hr he hv).flat_eq hf
 ·cases hf
noncomputable def ZIC (P:Program)(o:Oper)(h:Heap)(e:Env):AR :=
 @Bool.casesOn (fun _=>AR) (ZUe o.op)
  (@Bool.casesOn (fun _=>AR) (o.op.operands.toList.all (ZIJ h e)) .no
   (match ZQ4 P (execOp (rho h e) o) with
    | some (.value v)=>@Bool.casesOn (fun _=>AR) (flat v) .no (.ok v h)
    | _=>.no)) .no
theorem ZBz {ι:Iota}{h h':Heap}{w:World}{e:Env}{a:Act}(hr:HR ι h w.heap)(he:EnvR ι e a.tmps){o:Oper}{v:Value}(hs:ZIC P o h e=.ok v h') :
  OpS P ι h w (execOp a.eval o) v h':=by
 unfold ZIC at hs;cases h1:ZUe o.op
 ·rw[h1] at hs
  cases h2:o.op.operands.toList.all (ZIJ h e)
  ·rw[h2] at hs;cases hs
  ·rw[h2] at hs
   simp only at hs
   split at hs
   ·rename_i v1 hp
    cases h3:flat v1
    ·rw[h3] at hs;cases hs
    ·rw[h3] at hs
     simp only[AR.ok.injEq] at hs;obtain⟨rfl,rfl⟩:=hs;have hc:execOp a.eval o=execOp (rho h e) o:=execOp_congr o (fun cs b hx=>by rw[hx] at h1;cases h1) (fun x hx=>ZOZ hr he (List.all_eq_true.1 h2 x (by simpa using hx)));rw[hc];exact OpS.here hr (ZMX hp w) (VR.of_flat ι h3)
   ·cases hs
 ·rw[h1] at hs;cases hs
noncomputable def ZHB (P:Program)(s:TypeId)(f:Nat):Option Nat :=
 match P.underlying s with
 | some (.struct fields) =>
  match fields[f]? with
  | some fd=>match tsz P fd.type with
   | some (_+1)=>some fd.offset
   | _=>none
  | none=>none
 | _=>none
noncomputable def ZEe (P:Program)(s:TypeId)(p:Value)(f:Nat):Option Value :=
 match p with
 | .pointer (some ⟨b,o,none⟩)=>match ZHB P s f with
  | some off=>some (.pointer (some ⟨b,Nat.add o off,none⟩))
  | none=>none
 | _=>none
theorem ZGz {ι:Iota}{s:TypeId}{p p' v:Value}{f:Nat}(hp:VR ι p p')(hs:ZEe P s p f=some v)(w:World) :
  ∃v',(Instr.fieldAt s p' f).run P w=.ok v' w/\VR ι v v':=by
 unfold ZEe at hs
 split at hs
 ·rename_i b o
  cases hp with
  | ptr hi =>
   rename_i bi
   split at hs
   ·rename_i off hoff
    cases hs;unfold ZHB at hoff
    split at hoff
    ·rename_i fields hu
     split at hoff
     ·rename_i fd hfd
      split at hoff
      ·rename_i n hn
       cases hoff;refine⟨.pointer (some ⟨bi.blk,o+fd.offset,none⟩),?_,.ptr hi⟩;simp[Instr.fieldAt,run_underlying hu,hfd,Instr.sureAddr,fieldPlace,ZAY hn,ZBu]
      ·cases hoff
     ·cases hoff
    ·cases hoff
   ·cases hs
 ·cases hs
def ZEA:Value->Option Nat
 | .int _ (.ofNat n)=>some n
 | _=>none
theorem ZDC {v:Value}{n:Nat}(h:ZEA v=some n):∃k,v=.int k (Int.ofNat n):=by
 unfold ZEA at h
 split at h
 ·cases h;exact⟨_,rfl⟩
 ·cases h
noncomputable def ZCJ (P:Program)(t:TypeId)(x ix:Value):Option Value :=
 match ZEA ix with
 | some i =>
  match P.underlying t,x with
  | some (.array len elem),.pointer (some ⟨b,o,none⟩) =>
   @Bool.casesOn (fun _=>Option Value) (Nat.blt i len) none (match tsz P elem with|some n=>some (.pointer (some ⟨b,Nat.add o (Nat.mul i n),none⟩))|none=>none)
  | some (.slice elem),.slice (some ⟨b,o,_⟩) len _ =>
   @Bool.casesOn (fun _=>Option Value) (Nat.blt i len) none (match tsz P elem with|some n=>some (.pointer (some ⟨b,Nat.add o (Nat.mul i n),none⟩))|none=>none)
  | _,_=>none
 | none=>none
theorem ZGx {ι:Iota}{t:TypeId}{x x' ix ix' v:Value}(hx:VR ι x x')(hix:VR ι ix ix')(hs:ZCJ P t x ix=some v)(w:World) :
  ∃v',(Instr.indexAt t x' ix').run P w=.ok v' w/\VR ι v v':=by
 unfold ZCJ at hs
 split at hs
 ·rename_i i hi
  obtain⟨k,rfl⟩:=ZDC hi;cases hix
  split at hs
  ·rename_i len elem b o hu
   cases hx with
   | ptr hb =>
    rename_i bi;cases hl:Nat.blt i len
    ·rw[hl] at hs;cases hs
    ·rw[hl] at hs
     simp only at hs
     split at hs
     ·rename_i n hn
      cases hs;have hlt:i<len:=Nat.le_of_ble_eq_true hl;refine⟨.pointer (some ⟨bi.blk,o+i*n,none⟩),?_,.ptr hb⟩;simp[Instr.indexAt,asIntOf,run_underlying hu,Instr.sureAddr,ZAY hn,ZBu,hlt]
     ·cases hs
  ·rename_i elem b o sp len cap hu
   cases hl:Nat.blt i len
   ·rw[hl] at hs;cases hs
   ·rw[hl] at hs
    simp only at hs
    split at hs
    ·rename_i n hn
     cases hs;have hlt:i<len:=Nat.le_of_ble_eq_true hl
     cases hx with
     | sl hb =>
      rename_i bi;refine⟨.pointer (some ⟨bi.blk,o+i*n,none⟩),?_,.ptr hb⟩;simp[Instr.indexAt,asIntOf,run_underlying hu,ZAY hn,ZBu,hlt]
     | @slo _ _ _ _ c' bi hb _ _ =>
      refine⟨.pointer (some ⟨bi.blk,o+i*n,none⟩),?_,.ptr hb⟩;simp[Instr.indexAt,asIntOf,run_underlying hu,ZAY hn,ZBu,hlt]
     | sle=>omega
    ·cases hs
  ·cases hs
 ·cases hs
variable {P:Program}
inductive PR (ι:Iota):List (Nat×Value)->List (Nat×Value)->Prop where
 | nil:PR ι [] []
 | cons {i:Nat} {v v':Value} {l l':List (Nat×Value)}:VR ι v v'->PR ι l l'->PR ι ((i,v)::l) ((i,v')::l')
theorem ZMr {ι:Iota}(off:Nat):∀(l l':List Value)(k:Nat)(cs cs':Array Value),VRL ι l l'->VRL ι cs.toList cs'.toList →
  VRL ι ((l.zipIdx k).foldl (fun (cs:Array Value) (p:Value×Nat)=>cs.setIfInBounds (off+p.2) p.1) cs).toList
   ((l'.zipIdx k).foldl (fun (cs:Array Value) (p:Value×Nat)=>cs.setIfInBounds (off+p.2) p.1) cs').toList:=by
 intro l
 induction l with
 | nil=>intro l' k cs cs' hl hc;cases hl;exact hc
 | cons x l ih =>
  intro l' k cs cs' hl hc
  cases hl with
  | cons h t =>
   simp only[List.zipIdx_cons,List.foldl_cons];refine ih _ _ _ _ t ?_;simp only[Array.toList_setIfInBounds];exact hc.set h _
theorem ZKE {ι:Iota}(place:Nat->Option (Nat×Nat)):∀(ps ps':List (Nat×Value))(cs cs' r:Array Value),PR ι ps ps'->VRL ι cs.toList cs'.toList->Instr.fill place cs ps=some r →
  ∃r',Instr.fill place cs' ps'=some r'/\VRL ι r.toList r'.toList:=by
 intro ps
 induction ps with
 | nil=>intro ps' cs cs' r hp hc hf;cases hp;simp only[Instr.fill,Option.some.injEq] at hf;subst hf;exact⟨cs',rfl,hc⟩
 | cons p ps ih =>
  intro ps' cs cs' r hp hc hf
  cases hp with
  | cons hv ht =>
   rename_i i v v' l';simp only[Instr.fill] at hf ⊢
   cases hpl:place i with
   | none=>rw[hpl] at hf;cases hf
   | some os =>
    obtain⟨off,size⟩:=os;rw[hpl] at hf;simp only at hf ⊢;have hcl:=hv.cells.length;simp only[Array.length_toList] at hcl;have hcs:=hc.length;simp only[Array.length_toList] at hcs;rw[<-hcl,<-hcs]
    split at hf
    ·cases hf
    ·rename_i hcond
     rw[if_neg hcond];refine ih _ _ _ _ ht ?_ hf;rw[<-Array.foldl_toList,<-Array.foldl_toList,Array.toList_zipIdx,Array.toList_zipIdx];exact ZMr off _ _ 0 _ _ hv.cells hc
noncomputable def opvs (h:Heap)(e:Env)(l:List (Nat×Operand)):Option (List (Nat×Value)) :=
 @List.rec (Nat×Operand) (fun _=>Option (List (Nat×Value))) (some []) (fun p _ ih=>match opv h e p.2,ih with|some v,some r=>some ((p.1,v)::r)|_,_=>none) l
theorem ZF1 {ι:Iota}{h:Heap}{hp:Array Obj}{e:Env}{a:Act}(hr:HR ι h hp)(he:EnvR ι e a.tmps):∀{l:List (Nat×Operand)}{r:List (Nat×Value)},opvs h e l=some r →
  PR ι r (l.map fun p=>(p.1,a.eval p.2)):=by
 intro l
 induction l with
 | nil=>intro r hs;cases hs;exact .nil
 | cons p l ih =>
  intro r hs
  change (match opv h e p.2,opvs h e l with|some v,some r=>some ((p.1,v)::r)|_,_=>none)=some r at hs
  split at hs
  ·rename_i v r' h1 h2
   cases hs;exact .cons (ZAH hr he h1) (ih h2)
  ·cases hs
noncomputable def places (P:Program)(fields:List Field):Option (List (Nat×Nat)) :=
 @List.rec Field (fun _=>Option (List (Nat×Nat))) (some []) (fun f _ ih=>match tsz P f.type,ih with|some n,some r=>some ((f.offset,n)::r)|_,_=>none) fields
theorem ZOa {fields:List Field}{r:List (Nat×Nat)}(h:places P fields=some r)(w:World) :
  (fields.mapM (m:=Sem) fun f=>do pure (f.offset,<-sizeOf f.type)).run P w=.ok r w:=by
 induction fields generalizing r with
 | nil=>cases h;simp
 | cons f l ih =>
  change (match tsz P f.type,places P l with|some n,some r=>some ((f.offset,n)::r)|_,_=>none)=some r at h
  split at h
  ·rename_i n r' h1 h2
   cases h;simp only[List.mapM_cons,Sem.run_bind,ZAY h1,Result.andThen_ok,Sem.run_pure,ih h2]
  ·cases h
theorem ZMe {fields:Array Field}{r:List (Nat×Nat)}(h:places P fields.toList=some r)(w:World) :
  (fields.mapM (m:=Sem) fun f=>do pure (f.offset,<-sizeOf f.type)).run P w=.ok r.toArray w:=by
 have:=ZOa h w;rw[Array.mapM_eq_mapM_toList];simp only[Sem.run_map,this,Result.andThen_ok]
noncomputable def ZLX (P:Program)(t:TypeId)(parts:List (Nat×Value)):Option Value :=
 match ZA9 P t with
 | some z =>
  match P.underlying t with
  | some (.struct fields) =>
   match places P fields.toList with
   | some pl=>match Instr.fill (pl.toArray[·]?) z.cells parts with|some cs=>some (.agg cs)|none=>none
   | none=>none
  | some (.array _ elem) =>
   match tsz P elem with
   | some n=>match Instr.fill (fun i=>some (i*n,n)) z.cells parts with|some cs=>some (.agg cs)|none=>none
   | none=>none
  | _=>none
 | none=>none
theorem ZLo {ι:Iota}{t:TypeId}{ps:List (Nat×Value)}{ps':Array (Nat×Value)}{v:Value}(hp:PR ι ps ps'.toList)(hs:ZLX P t ps=some v)(w:World) :
  ∃v',(Instr.build t ps').run P w=.ok v' w/\VR ι v v':=by
 unfold ZLX at hs
 split at hs
 ·rename_i z hz
  obtain⟨hf,hzr⟩:=ZBV hz;have hzc:VRL ι z.cells.toList z.cells.toList:=(VR.of_flat ι hf).cells
  split at hs
  ·rename_i fields hu
   split at hs
   ·rename_i pl hpl
    split at hs
    ·rename_i cs hcs
     cases hs;obtain⟨r',h1,h2⟩:=ZKE _ _ _ _ _ _ hp hzc hcs;refine⟨.agg r',?_,.agg h2⟩;simp only[Instr.build,Sem.run_bind,hzr,Result.andThen_ok,run_underlying hu,ZMe hpl,h1,Sem.run_pure]
    ·cases hs
   ·cases hs
  ·rename_i len elem hu
   split at hs
   ·rename_i n hn
    split at hs
    ·rename_i cs hcs
     cases hs;obtain⟨r',h1,h2⟩:=ZKE _ _ _ _ _ _ hp hzc hcs;refine⟨.agg r',?_,.agg h2⟩;simp only[Instr.build,Sem.run_bind,hzr,Result.andThen_ok,run_underlying hu,ZAY hn,h1,Sem.run_pure]
    ·cases hs
   ·cases hs
  ·cases hs
 ·cases hs
noncomputable def rep (n:Nat)(z:List Value):List Value:=@Nat.rec (fun _=>List Value) [] (fun _ ih=>z++ih) n
theorem ZFe (z:List Value):rep 0 z=[]:=rfl
theorem ZFY (n:Nat)(z:List Value):rep (n+1) z=z++rep n z:=rfl
theorem ZDf (n:Nat)(z:List Value):(rep n z).length=n*z.length:=by
 induction n with
 | zero=>simp[ZFe]
 | succ n ih=>rw[ZFY,List.length_append,ih,Nat.succ_mul];omega
theorem ZUT (z:List Value):∀(n i:Nat),i<n*z.length->(rep n z)[i]?=z[i % z.length]?:=by
 intro n
 induction n with
 | zero=>intro i hi;simp at hi
 | succ n ih =>
  intro i hi;rw[ZFY,List.getElem?_append]
  by_cases h:i<z.length
  ·rw[if_pos h,Nat.mod_eq_of_lt h]
  ·have h1:i-z.length<n*z.length:=by rw[Nat.add_mul,Nat.one_mul] at hi;omega
   rw[if_neg h,ih (i-z.length) h1];rw[Nat.mod_eq_sub_mod (a:=i) (b:=z.length) (by omega)]
theorem ZI6 (n:Nat)(z:Array Value)(hz:0<z.size):((Array.range (n*z.size)).map (fun i=>z[i % z.size]!))=(rep n z.toList).toArray:=by
 apply Array.ext_getElem?;intro i;simp only[Array.getElem?_map,List.getElem?_toArray]
 by_cases h:i<n*z.size
 ·rw[ZUT z.toList n i (by simpa using h)]
  have hm:i % z.size<z.size:=Nat.mod_lt _ hz;simp[h,hm,getElem!_pos]
 ·have h1:(rep n z.toList)[i]?=none:=List.getElem?_eq_none (by rw[ZDf];simp;omega)
  rw[h1];simp[h]
theorem ZGp:∀(l m:List Value),ZBr (l++m)=(ZBr l && ZBr m)
 | [],m=>by simp[ZBr]
 | v::l,m=>by simp[ZBr,ZGp l m,Bool.and_assoc]
theorem ZFx (n:Nat)(z:List Value)(h:ZBr z=true):ZBr (rep n z)=true:=by
 induction n with
 | zero=>rfl
 | succ n ih=>rw[ZFY,ZGp,h,ih];rfl
theorem ZEm {v:Value}(h:flat v=true):ZBr v.cells.toList=true:=by
 cases v with
 | agg a=>cases a;simpa [Value.cells,flat] using h
 | _=>simp[Value.cells,ZBr,h]
variable {P:Program}
noncomputable def anew (vs:List Value)(elem:TypeId)(l c:Nat)(h:Heap):AR :=
 .ok (.slice (some ⟨h.nx,0,none⟩) l c) (h.add (.cells vs elem false))
theorem ZIn {ι:Iota}{h h':Heap}{w:World}(hr:HR ι h w.heap){vs vs':List Value}{elem:TypeId}{l c:Nat}{r:Value}(hv:VRL ι vs vs')(hs:anew vs elem l c h=.ok r h') :
  ∃ι',VR ι' r (.slice (some ⟨w.heap.size,0,none⟩) l c)/\HR ι' h' (w.heap.push (.cells vs'.toArray elem))/\Adv ι h w ι' h' { w with heap:=w.heap.push (.cells vs'.toArray elem) }:=by
 unfold anew at hs;simp only[AR.ok.injEq] at hs;obtain⟨rfl,rfl⟩:=hs;obtain⟨ι',bi,e1,e2,e3,e4⟩:=hr.newCells hv elem;refine⟨ι',?_,e3,e4⟩;have:=VR.sl (o:=0) (l:=l) (c:=c) e1;rw[e2] at this;exact this
noncomputable def ZF3 (P:Program)(t:TypeId)(len:Nat)(parts:List (Nat×Value)):Option (List Value×TypeId) :=
 match P.underlying t with
 | some (.slice elem) =>
  match tsz P elem,ZA9 P elem with
  | some size,some z =>
   @Bool.casesOn (fun _=>Option (List Value×TypeId)) (Nat.ble (Nat.mul len size) 16777216) none
    (@Bool.casesOn (fun _=>Option (List Value×TypeId)) (Nat.beq z.cells.toList.length size) none
     (@Bool.casesOn (fun _=>Option (List Value×TypeId)) (Nat.blt 0 size) none
      (match Instr.fill (fun i=>some (i*size,size)) (rep len z.cells.toList).toArray parts with
       | some cs=>some (cs.toList,elem)
       | none=>none)))
  | _,_=>none
 | _=>none
theorem ZFp {ι:Iota}{t elem:TypeId}{len:Nat}{ps:List (Nat×Value)}{ps':Array (Nat×Value)}{l:List Value}(hp:PR ι ps ps'.toList)(hs:ZF3 P t len ps=some (l,elem)) :
  ∃l',VRL ι l l'/\∀w:World,(Instr.buildSlice t len ps').run P w=.ok (.slice (some ⟨w.heap.size,0,none⟩) len len) { w with heap:=w.heap.push (.cells l'.toArray elem) }:=by
 unfold ZF3 at hs
 split at hs
 ·rename_i elem hu
  split at hs
  ·rename_i size z hn hz
   cases h1:Nat.ble (Nat.mul len size) 16777216
   ·rw[h1] at hs;cases hs
   ·rw[h1] at hs
    cases h2:Nat.beq z.cells.toList.length size
    ·rw[h2] at hs;cases hs
    ·rw[h2] at hs
     cases h3:Nat.blt 0 size
     ·rw[h3] at hs;cases hs
     ·rw[h3] at hs
      simp only at hs
      split at hs
      ·rename_i cs hcs
       cases hs;obtain⟨hf,hzr⟩:=ZBV hz;have hsz:z.cells.size=size:=by rw[<-Nat.eq_of_beq_eq_true h2];exact Array.length_toList.symm
       have hpos:0<size:=Nat.le_of_ble_eq_true h3;have hle:len*size<=16777216:=Nat.le_of_ble_eq_true h1;have hinit:VRL ι (rep len z.cells.toList).toArray.toList (rep len z.cells.toList).toArray.toList:=VRL.of_flat ι (by simpa using ZFx len _ (ZEm hf));obtain⟨r',e1,e2⟩:=ZKE _ _ _ _ _ _ hp hinit hcs;have harr:(Array.range (len*size)).map (fun i=>z.cells[i % z.cells.size]!)=(rep len z.cells.toList).toArray:=by
        rw[<-hsz];exact ZI6 len z.cells (by omega)
       refine⟨r'.toList,e2,fun w=>?_⟩;simp only[Instr.buildSlice,Sem.run_bind,run_underlying hu,Result.andThen_ok,ZAY hn];rw[if_neg (by omega)]
       by_cases hl0:len*size=0
       ·have hl:len=0:=by
         rcases Nat.mul_eq_zero.1 hl0 with h|h
         ·exact h
         ·omega
        subst hl;have harr0:((Array.range (0*size)).map (fun i=>(#[]:Array Value)[i % (#[]:Array Value).size]!))=(rep 0 z.cells.toList).toArray:=by simp[ZFe]
        simp only[Nat.zero_mul,if_true,Sem.run_bind,Sem.run_pure,Result.andThen_ok];rw[Nat.zero_mul] at harr0;rw[harr0,e1];simp[newRow]
       ·simp only[hl0,if_false,Sem.run_bind,hzr,Result.andThen_ok,Sem.run_pure]
        rw[harr,e1];simp[newRow]
      ·cases hs
  ·cases hs
 ·cases hs
noncomputable def ZC1 (P:Program)(t:TypeId)(len:Nat)(parts:List (Nat×Value))(h:Heap):AR :=
 match ZF3 P t len parts with
 | some (l,elem)=>anew l elem len len h
 | none=>.no
theorem ZGD {ι:Iota}{h h':Heap}{w:World}(hr:HR ι h w.heap){t:TypeId}{len:Nat}{ps:List (Nat×Value)}{ps':Array (Nat×Value)}{v:Value}(hp:PR ι ps ps'.toList)(hs:ZC1 P t len ps h=.ok v h') :
  ∃ι' v' w',(Instr.buildSlice t len ps').run P w=.ok v' w'/\VR ι' v v'/\HR ι' h' w'.heap/\Adv ι h w ι' h' w':=by
 unfold ZC1 at hs
 split at hs
 ·rename_i l elem hb
  obtain⟨l',e1,e2⟩:=ZFp (P:=P) hp hb;obtain⟨ι',a1,a2,a3⟩:=ZIn hr e1 hs;exact⟨ι',_,_,e2 w,a1,a2,a3⟩
 ·cases hs
noncomputable def ZHg (P:Program)(t:TypeId)(l c:Value):Option (List Value×TypeId×Nat×Nat) :=
 match P.underlying t,ZEA l,ZEA c with
 | some (.slice elem),some n,some m =>
  match P.info? elem,ZA9 P elem with
  | some i,some z =>
   @Bool.casesOn (fun _=>Option (List Value×TypeId×Nat×Nat)) (Nat.ble n m) none
    (@Bool.casesOn (fun _=>Option (List Value×TypeId×Nat×Nat)) (Nat.ble (Nat.mul i.bytes m) 281474976710656) none
     (@Bool.casesOn (fun _=>Option (List Value×TypeId×Nat×Nat)) (Nat.blt m 281474976710656) none
      (@Bool.casesOn (fun _=>Option (List Value×TypeId×Nat×Nat)) (Nat.beq z.cells.toList.length i.size) none
       (@Bool.casesOn (fun _=>Option (List Value×TypeId×Nat×Nat)) (Nat.blt 0 i.size) none (some (rep m z.cells.toList,elem,n,m))))))
  | _,_=>none
 | _,_,_=>none
theorem ZDs (n:Nat)(h:n<9223372036854775808):IntKind.i64.wrap (Int.ofNat n)=Int.ofNat n:=by
 have e1:(2 ^ IntKind.i64.bits:Int)=18446744073709551616:=by decide
 have e2:(2 ^ (IntKind.i64.bits-1):Int)=9223372036854775808:=by decide
 simp only[IntKind.wrap,e1,e2];have:(Int.ofNat n) % 18446744073709551616=Int.ofNat n:=by
  simp only[Int.ofNat_eq_natCast];omega
 rw[this];simp only[Int.ofNat_eq_natCast,IntKind.signed,Bool.true_and,ge_iff_le,decide_eq_true_eq];rw[if_neg (by omega)]
theorem ZFZ {ι:Iota}{t elem:TypeId}{l l' c c':Value}{vs:List Value}{n m:Nat}(hl:VR ι l l')(hc:VR ι c c')(hs:ZHg P t l c=some (vs,elem,n,m)) :
  ZBr vs=true/\∀w:World,(Instr.makeSlice t l' c').run P w=.ok (.slice (some ⟨w.heap.size,0,none⟩) n m) { w with heap:=w.heap.push (.cells vs.toArray elem) }:=by
 unfold ZHg at hs
 split at hs
 ·rename_i elem n m hu hn hm
  obtain⟨kl,rfl⟩:=ZDC hn;obtain⟨kc,rfl⟩:=ZDC hm;cases hl;cases hc
  split at hs
  ·rename_i i z hi hz
   cases h1:Nat.ble n m
   ·rw[h1] at hs;cases hs
   rw[h1] at hs;cases h2:Nat.ble (Nat.mul i.bytes m) 281474976710656
   ·rw[h2] at hs;cases hs
   rw[h2] at hs;cases h3:Nat.blt m 281474976710656
   ·rw[h3] at hs;cases hs
   rw[h3] at hs;cases h4:Nat.beq z.cells.toList.length i.size
   ·rw[h4] at hs;cases hs
   rw[h4] at hs;cases h5:Nat.blt 0 i.size
   ·rw[h5] at hs;cases hs
   rw[h5] at hs;simp only[Option.some.injEq,Prod.mk.injEq] at hs;obtain⟨rfl,rfl,rfl,rfl⟩:=hs;obtain⟨hf,hzr⟩:=ZBV hz;have hsz:z.cells.size=i.size:=by rw[<-Nat.eq_of_beq_eq_true h4];exact Array.length_toList.symm
   have hpos:0<i.size:=Nat.le_of_ble_eq_true h5;have hnm:n<=m:=Nat.le_of_ble_eq_true h1;have hb:i.bytes*m<=281474976710656:=Nat.le_of_ble_eq_true h2;have hmlt:m<281474976710656:=Nat.le_of_ble_eq_true h3;refine⟨ZFx m _ (ZEm hf),fun w=>?_⟩;have harr:(Array.range (m*i.size)).map (fun j=>z.cells[j % z.cells.size]!)=(rep m z.cells.toList).toArray:=by
    rw[<-hsz];exact ZI6 m z.cells (by omega)
   have hsize:tsz P elem=some i.size:=by simp[tsz,hi]
   have e48:(2 ^ 48:Int)=281474976710656:=by decide
   have hbm:¬((i.bytes:Int)*(m:Int) > 281474976710656):=by
    rw[<-Int.natCast_mul];generalize i.bytes*m=q at hb ⊢;omega
   simp only[Instr.makeSlice,Sem.run_bind,run_underlying hu,Result.andThen_ok,asInt,asIntOf,Sem.run_pure,typeInfo,run_program,hi,ZDs n (by omega),ZDs m (by omega),e48]
   rw[if_neg (by
    simp only[Int.ofNat_eq_natCast,Bool.or_eq_true,decide_eq_true_eq];omega)]
   simp only[run_askRoom,Result.andThen_ok,Sem.run_bind,ZAY hsize,Sem.run_pure];have htn:(Int.ofNat m).toNat=m:=rfl;have htl:(Int.ofNat n).toNat=n:=rfl;simp only[htn,htl]
   by_cases hm0:m*i.size=0
   ·have hm':m=0:=by
     rcases Nat.mul_eq_zero.1 hm0 with h|h
     ·exact h
     ·omega
    subst hm';have er:Array.range 0=#[]:=rfl;simp[newRow,ZFe,er]
   ·simp only[hm0,if_false,Sem.run_bind,hzr,Result.andThen_ok,Sem.run_pure]
    rw[harr];simp[newRow]
  ·cases hs
 ·cases hs
noncomputable def ZDO (P:Program)(t:TypeId)(l c:Value)(h:Heap):AR :=
 match ZHg P t l c with
 | some (vs,elem,n,m)=>anew vs elem n m h
 | none=>.no
theorem ZG2 {ι:Iota}{h h':Heap}{w:World}(hr:HR ι h w.heap){t:TypeId}{l l' c c':Value}{v:Value}(hl:VR ι l l')(hc:VR ι c c')(hs:ZDO P t l c h=.ok v h') :
  ∃ι' v' w',(Instr.makeSlice t l' c').run P w=.ok v' w'/\VR ι' v v'/\HR ι' h' w'.heap/\Adv ι h w ι' h' w':=by
 unfold ZDO at hs
 split at hs
 ·rename_i vs elem n m hb
  obtain⟨e1,e2⟩:=ZFZ (P:=P) hl hc hb;obtain⟨ι',a1,a2,a3⟩:=ZIn hr (VRL.of_flat ι e1) hs;exact⟨ι',_,_,e2 w,a1,a2,a3⟩
 ·cases hs
variable {P:Program}
inductive OVR (ι:Iota):Option Value->Option Value->Prop where
 | none:OVR ι none none
 | some {v v':Value}:VR ι v v'->OVR ι (some v) (some v')
noncomputable def bnd (ov:Option Value)(dflt y:Nat):Option Nat :=
 match ov with
 | none=>some dflt
 | some v=>match ZEA v with
  | some n=>@Bool.casesOn (fun _=>Option Nat) (Nat.ble n y) none (some n)
  | none=>none
theorem ZEj {v:Value}{d y n:Nat}(h:bnd (some v) d y=some n):∃k,v=.int k (Int.ofNat n)/\n<=y:=by
 simp only[bnd] at h
 split at h
 ·rename_i m hm
  obtain⟨k,rfl⟩:=ZDC hm;cases hb:Nat.ble m y
  ·rw[hb] at h;cases h
  ·rw[hb] at h;cases h;exact⟨k,rfl,Nat.le_of_ble_eq_true hb⟩
 ·cases h
theorem ZIV {k:IntKind}{n y:Nat}(h:n<=y)(code:BoundsCode)(w:World):(Instr.sliceBound (.int k (Int.ofNat n)) y code).run P w=.ok n w:=by
 have:(n:Int)<=(y:Int):=by omega
 simp[Instr.sliceBound,asIntOf,this]
theorem ZAq {k:IntKind}{n y:Nat}(h:n<=y)(code:BoundsCode)(w:World):(Instr.sliceBound (.int k (n:Int)) y code).run P w=.ok n w:=ZIV h code w
noncomputable def sb (len cap:Nat)(lo hi mx:Option Value):Option (Nat×Nat×Nat) :=
 match bnd mx cap cap with
 | some m =>
  match hi,mx with
  | none,some _=>none
  | _,_ =>
   match bnd hi len m with
   | some h=>match bnd lo 0 h with
    | some l=>some (l,h,m)
    | none=>none
   | none=>none
 | none=>none
theorem ZRD {ι:Iota}{len cap cap':Nat}{lo hi mx lo' hi' mx':Option Value}(hlo:OVR ι lo lo')(hhi:OVR ι hi hi')(hmx:OVR ι mx mx'){l h m:Nat}(hs:sb len cap lo hi mx=some (l,h,m))(hc:cap<=cap')
  (isS:Bool) (w:World):(Instr.sliceBounds isS len cap' lo' hi' mx').run P w=.ok (l,h,if mx.isNone then cap' else m) w/\(mx.isSome->m<=cap)/\(mx=none->m=cap)/\(lo=none->l=0)/\(hi.isSome->h<=m)/\(lo.isSome->l<=h):=by
 unfold sb at hs
 split at hs
 ·rename_i m1 hm
  cases hmx with
  | none =>
   simp only[bnd,Option.some.injEq] at hm;subst hm
   cases hhi with
   | none =>
    simp only[bnd] at hs
    cases hlo with
    | none =>
     simp only[Option.some.injEq,Prod.mk.injEq] at hs;obtain⟨rfl,rfl,rfl⟩:=hs;simp[Instr.sliceBounds]
    | some hv =>
     split at hs
     ·rename_i l1 hl
      simp only[Option.some.injEq,Prod.mk.injEq] at hs;obtain⟨rfl,rfl,rfl⟩:=hs;obtain⟨k,rfl,hle⟩:=ZEj (d:=0) hl;cases hv;simp[Instr.sliceBounds,ZAq hle,hle]
     ·cases hs
   | some hv =>
    simp only at hs
    split at hs
    ·rename_i h1 hh
     obtain⟨k,rfl,hle⟩:=ZEj hh;cases hv;have hle':h1<=cap':=by omega
     cases hlo with
     | none =>
      simp only[bnd,Option.some.injEq,Prod.mk.injEq] at hs;obtain⟨rfl,rfl,rfl⟩:=hs;simp[Instr.sliceBounds,ZAq hle',hle]
     | some hv =>
      split at hs
      ·rename_i l1 hl
       simp only[Option.some.injEq,Prod.mk.injEq] at hs;obtain⟨rfl,rfl,rfl⟩:=hs;obtain⟨k,rfl,hle2⟩:=ZEj hl;cases hv;simp[Instr.sliceBounds,ZAq hle',ZAq hle2,hle,hle2]
      ·cases hs
    ·cases hs
  | some hv =>
   obtain⟨k,rfl,hle⟩:=ZEj hm;cases hv;have hle':m1<=cap':=by omega
   cases hhi with
   | none=>simp only at hs;cases hs
   | some hv =>
    simp only at hs
    split at hs
    ·rename_i h1 hh
     obtain⟨k,rfl,hle3⟩:=ZEj hh;cases hv
     cases hlo with
     | none =>
      simp only[bnd,Option.some.injEq,Prod.mk.injEq] at hs;obtain⟨rfl,rfl,rfl⟩:=hs;simp[Instr.sliceBounds,ZAq hle',ZAq hle3,hle3,hle]
     | some hv =>
      split at hs
      ·rename_i l1 hl
       simp only[Option.some.injEq,Prod.mk.injEq] at hs;obtain⟨rfl,rfl,rfl⟩:=hs;obtain⟨k,rfl,hle2⟩:=ZEj hl;cases hv;simp[Instr.sliceBounds,ZAq hle',ZAq hle2,ZAq hle3,hle3,hle2,hle]
      ·cases hs
    ·cases hs
 ·cases hs
noncomputable def ZCY (P:Program)(t:TypeId)(x:Value)(lo hi mx:Option Value):Option Value :=
 match P.underlying t,x with
 | some (.slice elem),.slice (some ⟨b,o,none⟩) len cap =>
  match sb len cap lo hi mx,tsz P elem with
  | some (l,h,m),some n=>some (.slice (some ⟨b,@Bool.casesOn (fun _=>Nat) (Nat.beq m l) (Nat.add o (Nat.mul l n)) o,none⟩) (Nat.sub h l) (Nat.sub m l))
  | _,_=>none
 | some (.slice elem),.slice (some ⟨b,o,some (sz0+1)⟩) len cap =>
  let sz:=sz0+1
  match sb len cap lo hi mx,tsz P elem with
  | some (l,h,m),some n =>
   match mx with
   | some _=>some (.slice (some ⟨b,@Bool.casesOn (fun _=>Nat) (Nat.beq m l) (Nat.add o (Nat.mul l n)) o,none⟩) (Nat.sub h l) (Nat.sub m l))
   | none =>
    @Bool.casesOn (fun _=>Option Value) (Nat.blt 0 sz) none
    (@Bool.casesOn (fun _=>Option Value) (Nat.beq n sz) none
     (@Bool.casesOn (fun _=>Option Value) (Nat.beq l 0)
      (@Bool.casesOn (fun _=>Option Value) (Nat.blt l cap)
       (@Bool.casesOn (fun _=>Option Value) (Nat.beq h l) none (some (.slice (some ⟨b,0,some 0⟩) 0 0)))
       (some (.slice (some ⟨b,Nat.add o (Nat.mul l n),some sz⟩) (Nat.sub h l) (Nat.sub m l))))
      (some (.slice (some ⟨b,o,some sz⟩) h m))))
  | _,_=>none
 | some (.array n0 elem),.pointer (some ⟨b,o,none⟩) =>
  match sb n0 n0 lo hi mx,tsz P elem with
  | some (l,h,m),some n=>some (.slice (some ⟨b,@Bool.casesOn (fun _=>Nat) (Nat.beq m l) (Nat.add o (Nat.mul l n)) o,none⟩) (Nat.sub h l) (Nat.sub m l))
  | _,_=>none
 | _,_=>none
theorem ZQU (m l o n:Nat)(b:Nat):(if m=l then (⟨b,o,none⟩:Addr) else (⟨b,o,none⟩:Addr).add (l*n))=⟨b,@Bool.casesOn (fun _=>Nat) (Nat.beq m l) (Nat.add o (Nat.mul l n)) o,none⟩:=by
 cases hb:Nat.beq m l
 ·have:m≠l:=by intro e;subst e;simp at hb
  rw[if_neg this,ZBu];rfl
 ·rw[if_pos (Nat.eq_of_beq_eq_true hb)]
theorem ZLw {ι:Iota}{t:TypeId}{x x' v:Value}{lo hi mx lo' hi' mx':Option Value}(hx:VR ι x x')(hlo:OVR ι lo lo')(hhi:OVR ι hi hi')(hmx:OVR ι mx mx')(hs:ZCY P t x lo hi mx=some v)(w:World) :
  ∃v',(Instr.sliceAt t x' lo' hi' mx').run P w=.ok v' w/\VR ι v v':=by
 unfold ZCY at hs
 split at hs
 ·rename_i elem b o len cap hu
  cases hx with
  | @sl _ _ _ _ bi hb =>
   split at hs
   ·rename_i l h m n hsb hn
    cases hs;obtain⟨hrun,_,hm0,_⟩:=ZRD (P:=P) hlo hhi hmx hsb (Nat.le_refl _) true w;have hm:(if mx.isNone=true then cap else m)=m:=by
     cases mx with
     | none=>simp[hm0 rfl]
     | some _=>rfl
    rw[hm] at hrun;refine⟨_,?_,.sl hb⟩;simp only[Instr.sliceAt,Instr.slice,Sem.run_bind,run_underlying hu,Result.andThen_ok,hrun,ZAY hn,Sem.run_pure,Option.map_some];rw[<-ZQU m l o n bi.blk]
    split <;> rfl
   ·cases hs
 ·rename_i elem b o sz0 len cap hu
  obtain⟨cap',bi,hb,rfl,hsz,hcnt,hle⟩:∃cap' bi,ι b=some bi/\x'=.slice (some ⟨bi.blk,o,none⟩) len cap'/\sz0+1=bi.sz/\o+cap'*bi.sz=bi.cnt/\cap<=cap':=by
   generalize hq:(some (sz0+1):Option Nat)=q at hx
   cases hx with
   | sl=>cases hq
   | @slo _ _ _ _ cap' bi hb hcnt hle=>exact⟨cap',bi,hb,rfl,Option.some.inj hq,hcnt,hle⟩
   | sle=>exact absurd (Option.some.inj hq) (by omega)
  simp only[hsz] at hs;clear hx
  ·split at hs
   ·rename_i l h m n hsb hn
    obtain⟨hrun,hmc,hm0,hl0,hhm,hlh⟩:=ZRD (P:=P) hlo hhi hmx hsb hle true w
    split at hs
    ·cases hs
     cases hmx with
     | some hv =>
     simp only[Option.isNone_some,Bool.false_eq_true,if_false] at hrun;refine⟨_,?_,.sl hb⟩;simp only[Instr.sliceAt,Instr.slice,Sem.run_bind,run_underlying hu,Result.andThen_ok,hrun,ZAY hn,Sem.run_pure,Option.map_some];rw[<-ZQU m l o n bi.blk]
     split <;> rfl
    ·cases hmx
     have hmeq:=hm0 rfl;subst hmeq;simp only[Option.isNone_none,if_true] at hrun;cases h0:Nat.blt 0 bi.sz
     ·rw[h0] at hs;cases hs
     rw[h0] at hs;cases h1:Nat.beq n bi.sz
     ·rw[h1] at hs;cases hs
     rw[h1] at hs;have hnz:=Nat.eq_of_beq_eq_true h1;subst hnz;cases h2:Nat.beq l 0
     ·rw[h2] at hs
      cases h3:Nat.blt l m
      ·rw[h3] at hs
       cases h4:Nat.beq h l
       ·rw[h4] at hs;cases hs
       rw[h4] at hs;cases hs;have hhl:=Nat.eq_of_beq_eq_true h4;subst hhl;refine⟨.slice (some (if cap'=h then ⟨bi.blk,o,none⟩ else ⟨bi.blk,o+h*bi.sz,none⟩)) 0 (cap'-h),?_,.sle _ _ _⟩;simp only[Instr.sliceAt,Instr.slice,Sem.run_bind,run_underlying hu,Result.andThen_ok,hrun,ZAY hn,Sem.run_pure,Option.map_some,ZBu,Nat.sub_self]
       split <;> rfl
      rw[h3] at hs;cases hs;have hlt:l<m:=Nat.le_of_ble_eq_true h3;refine⟨.slice (some ⟨bi.blk,o+l*bi.sz,none⟩) (h-l) (cap'-l),?_,?_⟩
      ·simp only[Instr.sliceAt,Instr.slice,Sem.run_bind,run_underlying hu,Result.andThen_ok,hrun,ZAY hn,Sem.run_pure,Option.map_some]
       rw[if_neg (by omega),ZBu]
      ·refine .slo hb ?_ (by show m-l<=cap'-l;omega)
       show o+l*bi.sz+(cap'-l)*bi.sz=bi.cnt
       rw[Nat.add_assoc,<-Nat.add_mul,show l+(cap'-l)=cap' by omega];exact hcnt
     ·rw[h2] at hs
      cases hs;have hl:=Nat.eq_of_beq_eq_true h2;subst hl;refine⟨.slice (some ⟨bi.blk,o,none⟩) h cap',?_,.slo hb hcnt hle⟩;simp only[Instr.sliceAt,Instr.slice,Sem.run_bind,run_underlying hu,Result.andThen_ok,hrun,ZAY hn,Sem.run_pure,Option.map_some];simp[ZBu]
   ·cases hs
 ·rename_i n0 elem b o hu
  cases hx with
  | @ptr _ _ bi hb =>
   split at hs
   ·rename_i l h m n hsb hn
    cases hs;obtain⟨hrun,_,hm0,_⟩:=ZRD (P:=P) hlo hhi hmx hsb (Nat.le_refl _) false w;have hm:(if mx.isNone=true then n0 else m)=m:=by
     cases mx with
     | none=>simp[hm0 rfl]
     | some _=>rfl
    rw[hm] at hrun;refine⟨_,?_,.sl hb⟩;simp only[Instr.sliceAt,Instr.sureAddr,Sem.run_bind,run_underlying hu,Result.andThen_ok,hrun,ZAY hn,Sem.run_pure];rw[<-ZQU m l o n bi.blk]
    split <;> rfl
   ·cases hs
 ·cases hs
theorem HR.move {ι:Iota}{h:Heap}{w:World}(hr:HR ι h w.heap){b:Nat}{o:AO}{bi:BI}(hg:h.get b=some o)(hi:ι b=some bi) :
  HR (upd ι h.nx bi) ((h.del b).add o) w.heap/\Adv ι h w (upd ι h.nx bi) ((h.del b).add o) w:=by
 have hsub:=hr.sub_upd bi;have hbn:b<h.nx:=hr.fresh b bi hi;have hnx:(h.del b).nx=h.nx:=rfl;have hdom:∀c x,((h.del b).add o).get c=some x->(c=h.nx/\x=o)\/(c≠h.nx/\c≠b/\h.get c=some x):=by
  intro c x hx
  by_cases e:c=h.nx
  ·subst e
   have:=Heap.get_add_same (h:=h.del b) (o:=o);rw[hnx] at this;rw[this] at hx;cases hx;exact .inl ⟨rfl,rfl⟩
  ·rw[Heap.get_add_other (by rw[hnx];exact e)] at hx
   by_cases e2:c=b
   ·subst e2;rw[Heap.get_del_same] at hx;cases hx
   ·rw[Heap.get_del_other e2] at hx;exact .inr ⟨e,e2,hx⟩
 obtain⟨bi',o',e1,e2,e3⟩:=hr.obj b o hg;rw[hi] at e1;cases e1
 constructor
 ·constructor
  ·intro c x hx
   rcases hdom c x hx with ⟨rfl,rfl⟩|⟨h1,h2,h3⟩
   ·exact⟨bi,o',upd_same _ _ _,e2,e3.mono hsub⟩
   ·obtain⟨bi2,x',i1,i2,i3⟩:=hr.obj c x h3
    exact⟨bi2,x',hsub _ _ i1,i2,i3.mono hsub⟩
  ·intro c c' x x' bi1 bi2 g1 g2 i1 i2 heq
   rcases hdom c x g1 with ⟨rfl,rfl⟩|⟨h1,h2,h3⟩ <;> rcases hdom c' x' g2 with ⟨rfl,rfl⟩|⟨h1',h2',h3'⟩
   ·rfl
   ·exfalso
    rw[upd_same] at i1;cases i1;rw[upd_other _ _ h1'] at i2;exact h2' (hr.inj b c' x x' bi bi2 hg h3' hi i2 heq).symm
   ·exfalso
    rw[upd_same] at i2;cases i2;rw[upd_other _ _ h1] at i1;exact h2 (hr.inj c b x x' bi1 bi h3 hg i1 hi heq)
   ·rw[upd_other _ _ h1] at i1;rw[upd_other _ _ h1'] at i2
    exact hr.inj c c' x x' bi1 bi2 h3 h3' i1 i2 heq
  ·intro c x hx
   show c<h.nx+1
   by_cases e:c=h.nx
   ·omega
   ·rw[upd_other _ _ e] at hx;have:=hr.fresh c x hx;omega
  ·intro g x hgl hx
   have hgl':g<h.gl:=hgl;have:=hr.gn;rw[upd_other _ _ (by omega)] at hx;exact hr.glo g x hgl' hx
  ·exact Nat.le_succ_of_le hr.gn
 ·constructor
  ·exact hsub
  ·exact Nat.le_refl _
  ·intro c _ _;rfl
  ·rintro c ⟨d,x,bi1,g1,i1,rfl⟩ _
   rcases hdom d x g1 with ⟨rfl,rfl⟩|⟨h1,h2,h3⟩
   ·rw[upd_same] at i1;cases i1;exact⟨b,x,bi,hg,hi,rfl⟩
   ·rw[upd_other _ _ h1] at i1;exact⟨d,x,bi1,h3,i1,rfl⟩
  ·exact Nat.le_succ _
  ·exact fun c hc=>upd_other _ _ (Nat.ne_of_lt hc)
  ·rfl
  ·rfl
  ·rfl
  ·exact fun _=>⟨rfl,Nat.le_refl _⟩
variable {P:Program}
theorem ZOo (need c:Nat)(h:c<need):Builtin.nextslicecap need c<=need+need / 4+512:=by
 have hg:∀(r c:Nat),c<=need+need / 4+512->Builtin.growBy need r c<=need+need / 4+512:=by
  intro r
  induction r with
  | zero=>intro c hc;exact hc
  | succ r ih =>
   intro c hc;unfold Builtin.growBy
   split
   ·exact hc
   ·exact ih _ (by omega)
 unfold Builtin.nextslicecap
 split
 ·omega
 ·split
  ·omega
  ·exact hg 4 c (by omega)
noncomputable def asrc (P:Program)(elem:TypeId)(size:Nat)(xType:TypeId)(x:Value)(h:Heap):Option (Nat×List Value) :=
 match P.underlying xType with
 | some (.int _) =>
  match ZEA x,ZA9 P elem,P.info? elem with
  | some n,some z,some i =>
   @Bool.casesOn (fun _=>Option (Nat×List Value)) (Nat.ble (Nat.mul n i.bytes) 281474976710656) none
    (@Bool.casesOn (fun _=>Option (Nat×List Value)) (Nat.blt n 281474976710656) none
     (@Bool.casesOn (fun _=>Option (Nat×List Value)) (Nat.beq z.cells.toList.length size) none
      (@Bool.casesOn (fun _=>Option (Nat×List Value)) (Nat.blt 0 size) none (some (n,rep n z.cells.toList)))))
  | _,_,_=>none
 | some _ =>
  match x with
  | .slice none 0 _=>some (0,[])
  | .slice (some ⟨_,_,some 0⟩) 0 _=>some (0,[])
  | .slice (some ⟨b,o,_⟩) n _ =>
   match h.get b with
   | some (.cells vs _ _)=>match cut vs o (Nat.mul n size) with|some l=>some (n,l)|none=>none
   | some (.ro lim ob)=>match rdo lim ob o (Nat.mul n size) with|some l=>some (n,l)|none=>none
   | _=>none
  | .string s =>
   match P.underlying xType with
   | some .string=>@Bool.casesOn (fun _=>Option (Nat×List Value)) (Nat.beq size 1) none (some (s.data.toList.length,s.data.toList.map fun b=>Value.int .u8 (Int.ofNat b.toNat)))
   | _=>none
  | _=>none
 | none=>none
structure Src (P:Program) (ι:Iota)(elem:TypeId)(size:Nat)(xType:TypeId)(x':Value)(w:World)(n:Nat)(l:List Value):Prop where
 ex:∃l',VRL ι l l'/\l'.length=n*size ∧
  ((∃k k',P.underlying xType=some (.int k)/\x'=.int k' (Int.ofNat n)/\n<281474976710656/\(∃i,P.info? elem=some i/\n*i.bytes<=281474976710656) ∧
    ∃z,(∀w,(zeroValue elem).run P w=.ok z w)/\z.cells.size=size/\0<size/\l'=rep n z.cells.toList) ∨
   ((∃d,P.underlying xType=some d/\∀k,d≠.int k)/\(Builtin.lenOf x').run P w=.ok n w/\∀w1:World,w1.heap=w.heap->(Builtin.firstCells size n x').run P w1=.ok l'.toArray w1))
theorem ZH4:∀l:List UInt8,ZBr (l.map fun b=>Value.int .u8 (Int.ofNat b.toNat))=true
 | []=>rfl
 | b::l=>by rw[List.map_cons];show (flat (Value.int .u8 (Int.ofNat b.toNat)) && ZBr _)=true;rw[ZH4 l];rfl
theorem ZOD {ι:Iota}{h:Heap}{w:World}(hr:HR ι h w.heap){elem xType:TypeId}{size n:Nat}{x x':Value}{l:List Value}(hx:VR ι x x')(hs:asrc P elem size xType x h=some (n,l)) :
  Src P ι elem size xType x' w n l:=by
 unfold asrc at hs
 split at hs
 ·rename_i k hu
  split at hs
  ·rename_i n1 z i hn hz hi
   obtain⟨k',rfl⟩:=ZDC hn;cases hx;cases h1:Nat.ble (Nat.mul n1 i.bytes) 281474976710656
   ·rw[h1] at hs;cases hs
   rw[h1] at hs;cases h2:Nat.blt n1 281474976710656
   ·rw[h2] at hs;cases hs
   rw[h2] at hs;cases h3:Nat.beq z.cells.toList.length size
   ·rw[h3] at hs;cases hs
   rw[h3] at hs;cases h4:Nat.blt 0 size
   ·rw[h4] at hs;cases hs
   rw[h4] at hs;cases hs;obtain⟨hf,hzr⟩:=ZBV hz;have hsz:z.cells.size=size:=by rw[<-Nat.eq_of_beq_eq_true h3];exact Array.length_toList.symm
   refine⟨rep n z.cells.toList,VRL.of_flat ι (ZFx n _ (ZEm hf)),?_,.inl ⟨k,k',hu,rfl,Nat.le_of_ble_eq_true h2,⟨i,hi,Nat.le_of_ble_eq_true h1⟩,z,hzr,hsz,Nat.le_of_ble_eq_true h4,rfl⟩⟩;rw[ZDf,Array.length_toList,hsz]
  ·cases hs
 ·rename_i d hnot hu
  split at hs
  ·cases hs
   cases hx;exact⟨[],.nil,by simp,.inr ⟨⟨d,hu,fun k hd=>hnot k hd⟩,by simp[Builtin.lenOf],fun _ _=>by simp[Builtin.firstCells]⟩⟩
  ·rename_i b0 o0 cap0
   cases hs;generalize hv:Value.slice (some ⟨b0,o0,some 0⟩) 0 cap0=y at hx
   cases hx with
   | slo _ _ _ =>
    simp only[Value.slice.injEq] at hv;obtain⟨_,rfl,_⟩:=hv;exact⟨[],.nil,by simp,.inr ⟨⟨d,hu,fun k hd=>hnot k hd⟩,by simp[Builtin.lenOf],fun w1 hw1=>by simp[Builtin.firstCells,loadCells,loadCellsFrom]⟩⟩
   | sle _ a c=>exact⟨[],.nil,by simp,.inr ⟨⟨d,hu,fun k hd=>hnot k hd⟩,by simp[Builtin.lenOf],fun w1 hw1=>by simp[Builtin.firstCells,loadCells,loadCellsFrom]⟩⟩
   | _=>cases hv
  ·rename_i b o sp n1 cap hnsp
   split at hs
   ·rename_i vs e op hg
    split at hs
    ·rename_i l1 hcut
     cases hs;obtain⟨hle,rfl⟩:=ZEE hcut
     change o+n*size<=vs.length at hle
     have key:∀bi:BI,ι b=some bi->∃l',VRL ι ((vs.drop o).take (n*size)) l'/\l'.length=n*size/\∀w1:World,w1.heap=w.heap->(loadCells ⟨bi.blk,o,none⟩ (n*size)).run P w1=.ok l'.toArray w1:=by
      intro bi hb;obtain⟨c,hc,_,hlec,_,hvs⟩:=hr.cellsAt hg hb;refine⟨(c.toList.drop o).take (n*size),?_,by simp;omega,fun w1 hw1=>ZA3 (w:=w1) (by rw[hw1];exact hc) (by omega)⟩;have:=(hvs.drop o).take (n*size);rw[List.drop_take,List.take_take,Nat.min_eq_left (by omega)] at this;exact this
     cases hx with
     | @sl _ _ _ _ bi hb =>
      obtain⟨l',a1,a2,a3⟩:=key bi hb;exact⟨l',a1,a2,.inr ⟨⟨d,hu,fun k hd=>hnot k hd⟩,by simp[Builtin.lenOf],fun w1 hw1=>by simp only[Builtin.firstCells];exact a3 w1 hw1⟩⟩
     | @slo _ _ _ _ cap' bi hb _ _ =>
      obtain⟨l',a1,a2,a3⟩:=key bi hb;exact⟨l',a1,a2,.inr ⟨⟨d,hu,fun k hd=>hnot k hd⟩,by simp[Builtin.lenOf],fun w1 hw1=>by simp only[Builtin.firstCells];exact a3 w1 hw1⟩⟩
     | sle _ a c =>
      refine⟨[],?_,by simp,.inr ⟨⟨d,hu,fun k hd=>hnot k hd⟩,by simp[Builtin.lenOf],fun w1 hw1=>by simp[Builtin.firstCells,loadCells,loadCellsFrom]⟩⟩;have:Nat.mul 0 size=0:=Nat.zero_mul _;rw[this];exact .nil
    ·cases hs
   ·rename_i lim ob hg
    split at hs
    ·rename_i l1 hro
     cases hs;have key:∀bi:BI,ι b=some bi->∃l0:List Value,VRL ι l l0/\l0.length=n*size/\∀w1:World,w1.heap=w.heap->(loadCells ⟨bi.blk,o,none⟩ (n*size)).run P w1=.ok l0.toArray w1:=by
      intro bi hb;obtain⟨c,e,fz,hw,hle,hvr⟩:=hr.rdo hg hb hro
      change o+n*size<=c.size at hle
      refine⟨_,hvr,by show ((c.toList.drop o).take (n*size)).length=_;simp;omega,fun w1 hw1=>?_⟩;exact ZA3 (w:=w1) (by rw[hw1];exact hw) hle
     cases hx with
     | @sl _ _ _ _ bi hb =>
      obtain⟨l0,a1,a2,a3⟩:=key bi hb;exact⟨l0,a1,a2,.inr ⟨⟨d,hu,fun k hd=>hnot k hd⟩,by simp[Builtin.lenOf],fun w1 hw1=>by simp only[Builtin.firstCells];exact a3 w1 hw1⟩⟩
     | @slo _ _ _ _ cap' bi hb _ _ =>
      obtain⟨l0,a1,a2,a3⟩:=key bi hb;exact⟨l0,a1,a2,.inr ⟨⟨d,hu,fun k hd=>hnot k hd⟩,by simp[Builtin.lenOf],fun w1 hw1=>by simp only[Builtin.firstCells];exact a3 w1 hw1⟩⟩
     | sle _ a c =>
      obtain⟨bi,o',i1,_,_⟩:=hr.obj b _ hg;obtain⟨l0,a1,a2,_⟩:=key bi i1;obtain rfl:l=[]:=List.eq_nil_of_length_eq_zero (by rw[a1.length,a2];exact Nat.zero_mul _);exact⟨[],.nil,by simp,.inr ⟨⟨d,hu,fun k hd=>hnot k hd⟩,by simp[Builtin.lenOf],fun w1 hw1=>by simp[Builtin.firstCells,loadCells,loadCellsFrom]⟩⟩
    ·cases hs
   ·cases hs
  ·rename_i s
   split at hs
   case h_2=>cases hs
   cases h1:Nat.beq size 1
   ·rw[h1] at hs;cases hs
   rw[h1] at hs;cases hs;obtain rfl:=Nat.eq_of_beq_eq_true h1;cases hx;have hsz:s.data.toList.length=s.size:=Array.length_toList;refine⟨Lib.strCells s,VRL.of_flat ι (ZH4 s.data.toList),by rw[Lib.strCells_length,hsz,Nat.mul_one],.inr ⟨⟨d,hu,fun k hd=>hnot k hd⟩,by simp[Builtin.lenOf,hsz],fun w1 _=>?_⟩⟩;rw[hsz];exact Lib.run_firstCells_string w1 1 s
  ·cases hs
 ·cases hs
theorem ZB9 {ι:Iota}{argTypes:Array TypeId}{args:Array Value}{ty sType xType elem:TypeId}{size n sLen sCap:Nat}{base:Option Addr}{x':Value}{w:World}{l:List Value}
  (h0:argTypes[0]?=some sType) (h1:argTypes[1]?=some xType) (a0:args[0]?=some (.slice base sLen sCap)) (a1:args[1]?=some x') (hu:P.underlying sType=some (.slice elem)) (hsz:tsz P elem=some size)
  (hsrc:Src P ι elem size xType x' w n l) (hfit:sLen+n<=sCap) :
  ∃l',VRL ι l l'/\l'.length=n*size/\(Builtin.append_ argTypes ty args).run P w =
   match base with
   | some a=>((storeCells (a.add (sLen*size)) l').run P w).andThen fun _ w'=>.ok (.slice base (sLen+n) sCap) w'
   | none=>.ok (.slice base (sLen+n) sCap) w:=by
 obtain⟨l',e1,e2,e3⟩:=hsrc.ex;refine⟨l',e1,e2,?_⟩;have hw:∀m:Nat,m<281474976710656->IntKind.i64.wrap (m:Int)=(m:Int):=fun m hm=>ZDs m (by omega)
 rcases e3 with ⟨k,k',hk,rfl,hlt,⟨i,hi,hib⟩,z,hz,hzs,hpos,rfl⟩|⟨⟨d,hd,hne⟩,hlen,hfc⟩
 ·have hib':¬((n:Int)*(i.bytes:Int) > 2 ^ 48):=by
   rw[<-Int.natCast_mul];generalize n*i.bytes=q at hib ⊢;have:(2 ^ 48:Int)=281474976710656:=by decide
   omega
  have hzc:Builtin.zeroCells z.cells n=(rep n z.cells.toList).toArray:=ZI6 n z.cells (by omega);have hnn:¬((n:Int)<0):=by omega
  simp only[Builtin.append_,h0,h1,a0,a1,Sem.run_bind,run_underlying hu,Result.andThen_ok,ZAY hsz,run_underlying hk,Sem.run_pure,if_true,asInt,asIntOf,Int.ofNat_eq_natCast,hw n hlt,
   hnn,if_false,typeInfo,run_program,hi,hib',Int.toNat_natCast,hfit]
  by_cases hn0:n*size=0
  ·have hn:n=0:=by
    rcases Nat.mul_eq_zero.1 hn0 with h|h
    ·exact h
    ·omega
   subst hn;cases base <;> simp[ZFe]
  ·have hb:(!true)=false:=rfl
   simp only[Bool.not_true,Bool.false_eq_true,if_false,hn0,Sem.run_bind,hz,Result.andThen_ok,Sem.run_pure,hzc];cases base <;> simp
 ·have hzf:(match d with|.int _=>true|_=>false)=false:=by cases d <;> first|rfl|exact absurd rfl (hne _)
  have hmatch:(Sem.run P (do pure (match <-underlying xType with|.int _=>true|_=>false)) w:Result Bool)=.ok false w:=by
   simp only[Sem.run_bind,run_underlying hd,Result.andThen_ok,Sem.run_pure,hzf]
  simp only[Builtin.append_,h0,h1,a0,a1,Sem.run_bind,run_underlying hu,Result.andThen_ok,ZAY hsz,run_underlying hd,Sem.run_pure,hzf,Bool.false_eq_true,if_false,hlen,hfit,if_true,
   Bool.not_false,hfc w rfl]
  cases base <;> simp
theorem ZCV {ι:Iota}{argTypes:Array TypeId}{args:Array Value}{ty sType xType elem:TypeId}{size n sLen sCap:Nat}{base:Option Addr}{x' z:Value}{w:World}{l old:List Value}{i:TypeInfo}
  (h0:argTypes[0]?=some sType) (h1:argTypes[1]?=some xType) (a0:args[0]?=some (.slice base sLen sCap)) (a1:args[1]?=some x') (hu:P.underlying sType=some (.slice elem)) (hsz:tsz P elem=some size)
  (hi:P.info? elem=some i) (hz:∀w,(zeroValue elem).run P w=.ok z w) (hzs:z.cells.size=size) (hpos:0<size)
  (hsrc:Src P ι elem size xType x' w n l) (hgrow:¬sLen+n<=sCap) (hb:((sLen+n)+(sLen+n) / 4+512)*i.bytes<=281474976710656) (hneed:sLen+n<281474976710656)
  (hold:∀w1:World,w1.heap=w.heap->(Builtin.firstCells size sLen (.slice base sLen sCap)).run P w1=.ok old.toArray w1) :
  ∃l' newCap rest,VRL ι l l'/\l'.length=n*size/\sLen+n<=newCap/\rest.length=(newCap-(sLen+n))*size/\(Builtin.append_ argTypes ty args).run P w =
   .ok (.slice (some ⟨w.heap.size,0,none⟩) (sLen+n) newCap) { w with heap:=w.heap.push (.cells (old++l'++rest).toArray elem),drawn:=w.drawn+1 }:=by
 obtain⟨l',e1,e2,e3⟩:=hsrc.ex;have hw:∀m:Nat,m<281474976710656->IntKind.i64.wrap (m:Int)=(m:Int):=fun m hm=>ZDs m (by omega);obtain⟨newCap,hcap,hle⟩:∃c,c=(Question.appendCap (sLen+n) sCap elem).cut (w.tape w.drawn (.appendCap (sLen+n) sCap elem))/\sLen+n<=c:=⟨_,rfl,by simp[Question.cut]⟩;have hrest:Builtin.zeroCells z.cells (newCap-(sLen+n))=(rep (newCap-(sLen+n)) z.cells.toList).toArray:=ZI6 _ z.cells (by omega);refine⟨l',newCap,rep (newCap-(sLen+n)) z.cells.toList,e1,e2,hle,by rw[ZDf,Array.length_toList,hzs],?_⟩;have hcapb:¬Builtin.nextslicecap (sLen+n) sCap*i.bytes > 2 ^ 48:=by
  have h1:=ZOo (sLen+n) sCap (by omega);have h2:Builtin.nextslicecap (sLen+n) sCap*i.bytes<=((sLen+n)+(sLen+n) / 4+512)*i.bytes:=Nat.mul_le_mul_right _ h1;have:(2 ^ 48:Nat)=281474976710656:=by decide
  omega
 have hmax:¬(((sLen+n:Nat):Int) > IntKind.i64.max):=by
  have:IntKind.i64.max=9223372036854775807:=by decide
  omega
 have hforced:(Question.appendCap (sLen+n) sCap elem).forced=false:=rfl
 have hchoose:(choose (.appendCap (sLen+n) sCap elem)).run P w=.ok newCap { w with drawn:=w.drawn+1 }:=by
  rw[run_choose,hforced,if_neg (by simp),hcap]
 rcases e3 with ⟨k,k',hk,rfl,hlt,⟨i',hi',hib⟩,z',hz',hzs',_,rfl⟩|⟨⟨d,hd,hne⟩,hlen,hfc⟩
 ·rw[hi] at hi';cases hi'
  have hzz:z'=z:=by have h1:=hz' w;rw[hz w] at h1;cases h1;rfl
  subst hzz;have hib':¬((n:Int)*(i.bytes:Int) > 2 ^ 48):=by
   rw[<-Int.natCast_mul];generalize n*i.bytes=q at hib ⊢;have:(2 ^ 48:Int)=281474976710656:=by decide
   omega
  have hzc:Builtin.zeroCells z'.cells n=(rep n z'.cells.toList).toArray:=ZI6 n z'.cells (by omega);have hnn:¬((n:Int)<0):=by omega
  simp only[Builtin.append_,h0,h1,a0,a1,Sem.run_bind,run_underlying hu,Result.andThen_ok,ZAY hsz,run_underlying hk,Sem.run_pure,if_true,asInt,asIntOf,Int.ofNat_eq_natCast,hw n hlt,
   hnn,if_false,typeInfo,run_program,hi,hib',Int.toNat_natCast,hgrow,hmax,false_and,hcapb,hchoose,run_askRoom,hold { w with drawn:=w.drawn+1 } rfl]
  by_cases hn0:n*size=0
  ·have hn:n=0:=by
    rcases Nat.mul_eq_zero.1 hn0 with h|h
    ·exact h
    ·omega
   subst hn;simp only[Nat.zero_mul,if_true,Bool.not_true,Bool.false_eq_true,if_false,Sem.run_pure,Result.andThen_ok,Sem.run_bind,hz,hrest,newRow,run_newObj,ZFe];simp
  ·simp only[Bool.not_true,Bool.false_eq_true,if_false,hn0,Sem.run_bind,hz,Result.andThen_ok,Sem.run_pure,hzc,hrest,newRow,run_newObj]
   simp
 ·have hzf:(match d with|.int _=>true|_=>false)=false:=by cases d <;> first|rfl|exact absurd rfl (hne _)
  simp only[Builtin.append_,h0,h1,a0,a1,Sem.run_bind,run_underlying hu,Result.andThen_ok,ZAY hsz,run_underlying hd,Sem.run_pure,hzf,Bool.false_eq_true,if_false,hlen,hgrow,if_true,
   Bool.not_false,hmax,false_and,typeInfo,run_program,hi,hcapb,hchoose,run_askRoom,hold { w with drawn:=w.drawn+1 } rfl,hfc { w with drawn:=w.drawn+1 } rfl,hz,hrest,newRow,run_newObj]
  simp
variable {P:Program}
theorem Rg.congr {ι:Iota}{h1 h2:Heap}(hg:∀c,h1.get c=h2.get c){c:Nat}(h:Rg ι h1 c):Rg ι h2 c:=by
 obtain⟨b,o,bi,a,b',c'⟩:=h;exact⟨b,o,bi,by rw[<-hg];exact a,b',c'⟩
theorem HR.congr {ι:Iota}{h1 h2:Heap}{hp:Array Obj}(hg:∀c,h1.get c=h2.get c)(hn:h1.nx=h2.nx)(hgl:h1.gl=h2.gl)(h:HR ι h1 hp):HR ι h2 hp where
 obj:=fun b o ho=>h.obj b o (by rw[hg];exact ho)
 inj:=fun b b' o o' bi bi' a c=>h.inj b b' o o' bi bi' (by rw[hg];exact a) (by rw[hg];exact c)
 fresh:=fun b bi hb=>by rw[<-hn];exact h.fresh b bi hb
 glo:=fun g bi hgl'=>h.glo g bi (by rw[hgl];exact hgl')
 gn:=by rw[<-hn,<-hgl];exact h.gn
theorem Adv.congr {ι ι':Iota}{h h1 h2:Heap}{w w':World}(hg:∀c,h1.get c=h2.get c)(hn:h1.nx=h2.nx)(hgl:h1.gl=h2.gl)(a:Adv ι h w ι' h1 w'):Adv ι h w ι' h2 w' :=
 ⟨a.sub,a.sz,a.fr,fun c hr=>a.dm c (hr.congr fun c=>(hg c).symm),by rw[<-hn];exact a.nx,a.old,by rw[<-hgl];exact a.gl,a.os,a.out,a.dr⟩
theorem ZOf {h:Heap}{b:Nat}(o o2:AO)(c:Nat):(((h.set b o2).del b).add o).get c=((h.del b).add o).get c:=by
 by_cases e:c=h.nx
 ·subst e
  have h1:=Heap.get_add_same (h:=(h.set b o2).del b) (o:=o);have h2:=Heap.get_add_same (h:=h.del b) (o:=o);exact h1.trans h2.symm
 ·rw[Heap.get_add_other (h:=(h.set b o2).del b) e,Heap.get_add_other (h:=h.del b) e]
  by_cases e2:c=b
  ·subst e2;rw[Heap.get_del_same,Heap.get_del_same]
  ·rw[Heap.get_del_other e2,Heap.get_del_other e2,Heap.get_set_other _ e2]
noncomputable def ZIS (vs:List Value)(elem:TypeId)(n size:Nat)(h:Heap):AR :=
 .ok (.slice (some ⟨h.nx,0,some size⟩) n n) (h.add (.cells vs elem true))
theorem ZE7 {ι:Iota}{h h':Heap}{w:World}(hr:HR ι h w.heap){vs vs' rest:List Value}{elem:TypeId}{n size c:Nat}{r:Value}(hv:VRL ι vs vs')(hlen:vs'.length=n*size)
  (hrest:rest.length=(c-n)*size) (hle:n<=c) (hs:ZIS vs elem n size h=.ok r h') :
  ∃ι',VR ι' r (.slice (some ⟨w.heap.size,0,none⟩) n c)/\HR ι' h' (w.heap.push (.cells (vs'++rest).toArray elem))/\Adv ι h w ι' h' { w with heap:=w.heap.push (.cells (vs'++rest).toArray elem) }:=by
 unfold ZIS at hs
 ·simp only[AR.ok.injEq] at hs
  obtain⟨rfl,rfl⟩:=hs
  let bi:BI:=⟨w.heap.size,c*size,size⟩
  have hsub:=hr.sub_upd bi;have hcnt:n*size+(c-n)*size=c*size:=by rw[<-Nat.add_mul,show n+(c-n)=c by omega]
  have hl:=hv.length
  have:=hr.add (o:=.cells vs elem true) (o':=.cells (vs'++rest).toArray elem) (bi:=bi) rfl (by
   simp only[OR];refine⟨trivial,trivial,by simp[bi,hlen,hrest,hcnt],by simp;omega,(fun h=>nomatch h),?_⟩;rw[hl,List.take_append_of_le_length (Nat.le_refl _),List.take_length];exact hv.mono hsub)
  refine⟨_,?_,this.1,this.2⟩;have h1:upd ι h.nx bi h.nx=some bi:=upd_same _ _ _;have:=VR.slo (ι:=upd ι h.nx bi) (o:=0) (l:=n) (c:=n) (c':=c) h1 (by simp[bi]) hle;exact this
noncomputable def ZCX (P:Program)(sType xType:TypeId)(s x:Value)(h:Heap):AR :=
 match P.underlying sType with
 | some (.slice elem) =>
  match P.info? elem,ZA9 P elem with
  | some i,some z =>
   @Bool.casesOn (fun _=>AR) (Nat.beq z.cells.toList.length i.size) .no
   (@Bool.casesOn (fun _=>AR) (Nat.blt 0 i.size) .no
   (match asrc P elem i.size xType x h with
    | some (n,l) =>
     match s with
     | .slice none sLen sCap =>
      @Bool.casesOn (fun _=>AR) (Nat.ble (Nat.add sLen n) sCap)
       (@Bool.casesOn (fun _=>AR) (Nat.beq sLen 0) .no
        (@Bool.casesOn (fun _=>AR) (Nat.ble (Nat.mul (Nat.add (Nat.add (Nat.add sLen n) (Nat.div (Nat.add sLen n) 4)) 512) i.bytes) 281474976710656) .no
         (@Bool.casesOn (fun _=>AR) (Nat.blt (Nat.add sLen n) 281474976710656) .no (ZIS l elem n i.size h))))
       (.ok (.slice none (Nat.add sLen n) sCap) h)
     | .slice (some ⟨_,_,some 0⟩) _ _=>.no
     | .slice (some ⟨b,o,sp⟩) sLen sCap =>
      match h.get b with
      | some (.cells vs e op) =>
       @Bool.casesOn (fun _=>AR) (allOne l) .no
       (@Bool.casesOn (fun _=>AR) (Nat.ble (Nat.add sLen n) sCap)
        (@Bool.casesOn (fun _=>AR) (Nat.ble (Nat.mul (Nat.add (Nat.add (Nat.add sLen n) (Nat.div (Nat.add sLen n) 4)) 512) i.bytes) 281474976710656) .no
        (@Bool.casesOn (fun _=>AR) (Nat.blt (Nat.add sLen n) 281474976710656) .no
         (match cut vs o (Nat.mul sLen i.size) with
         | some old =>
          match sp with
          | none=>ZIS (old++l) elem (Nat.add sLen n) i.size h
          | some sz =>
           @Bool.casesOn (fun _=>AR) (Nat.beq sz i.size) .no
           (@Bool.casesOn (fun _=>AR) (Nat.beq o 0) .no
           (@Bool.casesOn (fun _=>AR) (Nat.beq e elem) .no (ZIS (old++l) elem (Nat.add sLen n) i.size (h.del b))))
         | none=>.no)))
        (match lay vs (Nat.add o (Nat.mul sLen i.size)) l with
        | some r=>.ok (.slice (some ⟨b,o,sp⟩) (Nat.add sLen n) sCap) (h.set b (.cells r e op))
        | none=>.no))
      | some (.ro lim ob) =>
       match sp with
       | some _=>.no
       | none =>
        @Bool.casesOn (fun _=>AR) (Nat.ble (Nat.add sLen n) sCap)
         (@Bool.casesOn (fun _=>AR) (Nat.ble (Nat.mul (Nat.add (Nat.add (Nat.add sLen n) (Nat.div (Nat.add sLen n) 4)) 512) i.bytes) 281474976710656) .no
         (@Bool.casesOn (fun _=>AR) (Nat.blt (Nat.add sLen n) 281474976710656) .no
          (match rdo lim ob o (Nat.mul sLen i.size) with
          | some old=>ZIS (old++l) elem (Nat.add sLen n) i.size h
          | none=>.no)))
         (@Bool.casesOn (fun _=>AR) (Nat.beq n 0) .no (.ok (.slice (some ⟨b,o,none⟩) sLen sCap) h))
      | _=>.no
     | _=>.no
    | none=>.no))
  | _,_=>.no
 | _=>.no
theorem ZKK {ι:Iota}{h h':Heap}{w:World}(hr:HR ι h w.heap){argTypes:Array TypeId}{args':Array Value}{ty sType xType:TypeId}{s s' x x' v:Value}
  (h0:argTypes[0]?=some sType) (h1:argTypes[1]?=some xType) (a0:args'[0]?=some s') (a1:args'[1]?=some x') (hsv:VR ι s s') (hxv:VR ι x x') (hs:ZCX P sType xType s x h=.ok v h') :
  ∃ι' v' w',(Builtin.append_ argTypes ty args').run P w=.ok v' w'/\VR ι' v v'/\HR ι' h' w'.heap/\Adv ι h w ι' h' w':=by
 unfold ZCX at hs
 split at hs
 case h_2=>cases hs
 rename_i elem hu
 split at hs
 case h_2=>cases hs
 rename_i i z hi hz;cases c1:Nat.beq z.cells.toList.length i.size
 ·rw[c1] at hs;cases hs
 rw[c1] at hs;cases c2:Nat.blt 0 i.size
 ·rw[c2] at hs;cases hs
 rw[c2] at hs;simp only at hs
 split at hs
 case h_2=>cases hs
 rename_i n l hsrc0;have hsrc:=ZOD (P:=P) hr hxv hsrc0;obtain⟨hf,hzr⟩:=ZBV hz;have hzs:z.cells.size=i.size:=by rw[<-Nat.eq_of_beq_eq_true c1];exact Array.length_toList.symm
 have hpos:0<i.size:=Nat.le_of_ble_eq_true c2;have hsz:tsz P elem=some i.size:=by simp[tsz,hi]
 split at hs
 ·-- nil
  rename_i sLen sCap;cases hsv;cases c3:Nat.ble (Nat.add sLen n) sCap
  ·rw[c3] at hs
   have hgrow:¬sLen+n<=sCap:=fun hle=>by
    have:Nat.ble (Nat.add sLen n) sCap=true:=Nat.ble_eq_true_of_le hle;rw[c3] at this;cases this
   cases c4:Nat.beq sLen 0
   ·rw[c4] at hs;cases hs
   rw[c4] at hs;cases c5:Nat.ble (Nat.mul (Nat.add (Nat.add (Nat.add sLen n) (Nat.div (Nat.add sLen n) 4)) 512) i.bytes) 281474976710656
   ·rw[c5] at hs;cases hs
   rw[c5] at hs;cases c6:Nat.blt (Nat.add sLen n) 281474976710656
   ·rw[c6] at hs;cases hs
   rw[c6] at hs;simp only at hs;have hl0:=Nat.eq_of_beq_eq_true c4;subst hl0
   obtain⟨l',nc,rest,e1,e2,e3,e4,e5⟩:=ZCV (P:=P) (old:=[]) (ty:=ty) h0 h1 a0 a1 hu hsz hi hzr hzs hpos hsrc hgrow (Nat.le_of_ble_eq_true c5) (Nat.le_of_ble_eq_true c6)
    (fun w1 _=>by simp[Builtin.firstCells])
   rw[Nat.zero_add] at e3 e4 e5;obtain⟨ι',b1,b2,b3⟩:=ZE7 hr e1 e2 e4 e3 hs;refine⟨ι',_,_,e5,b1,?_,?_⟩
   ·simpa using b2
   ·exact b3.alike rfl rfl rfl rfl (by first|exact Nat.le_refl _|exact Nat.le_succ _|simp)
  ·rw[c3] at hs
   simp only[AR.ok.injEq] at hs;obtain⟨rfl,rfl⟩:=hs;obtain⟨l',e1,e2,e3⟩:=ZB9 (P:=P) (ty:=ty) h0 h1 a0 a1 hu hsz hsrc (Nat.le_of_ble_eq_true c3);exact⟨ι,_,w,e3,.sl0 _ _,hr,.refl _ _ _⟩
 ·cases hs
 ·rename_i b o sp sLen sCap hsp0
  split at hs
  case h_3=>cases hs
  case h_2 =>
   rename_i lim ob hg
   cases sp with
   | some _=>cases hs
   | none =>
   cases hsv with
   | @sl _ _ _ _ bi hb =>
   simp only at hs;cases c4:Nat.ble (Nat.add sLen n) sCap
   ·rw[c4] at hs
    cases c5:Nat.ble (Nat.mul (Nat.add (Nat.add (Nat.add sLen n) (Nat.div (Nat.add sLen n) 4)) 512) i.bytes) 281474976710656
    ·rw[c5] at hs;cases hs
    rw[c5] at hs;cases c6:Nat.blt (Nat.add sLen n) 281474976710656
    ·rw[c6] at hs;cases hs
    rw[c6] at hs;simp only at hs
    split at hs
    case h_2=>cases hs
    rename_i old hro;obtain⟨c,e,fz,hw,hlec,hvr⟩:=hr.rdo hg hb hro;generalize hl:(c.toList.drop o).take (Nat.mul sLen i.size)=old' at hvr
    change o+sLen*i.size<=c.size at hlec
    have hgrow0:¬sLen+n<=sCap:=fun hle=>by
     have:Nat.ble (Nat.add sLen n) sCap=true:=Nat.ble_eq_true_of_le hle;rw[c4] at this;cases this
    have holdL:old'.length=sLen*i.size:=by rw[<-hl];show ((c.toList.drop o).take (sLen*i.size)).length=_;simp;omega
    have holdrun:∀w1:World,w1.heap=w.heap->(Builtin.firstCells i.size sLen (.slice (some ⟨bi.blk,o,none⟩) sLen sCap)).run P w1=.ok old'.toArray w1:=by
     intro w1 hw1;simp only[Builtin.firstCells];rw[<-hl];exact ZA3 (w:=w1) (by rw[hw1];exact hw) hlec
    obtain⟨l',nc,rest,e1,e2,e3,e4,e5⟩:=ZCV (P:=P) (ty:=ty) h0 h1 a0 a1 hu hsz hi hzr hzs hpos hsrc hgrow0 (Nat.le_of_ble_eq_true c5) (Nat.le_of_ble_eq_true c6) holdrun;have hvv:=hvr.append e1;have hll:(old'++l').length=(sLen+n)*i.size:=by rw[List.length_append,holdL,e2,Nat.add_mul]
    obtain⟨ι',b1,b2,b3⟩:=ZE7 hr hvv hll e4 e3 hs;exact⟨ι',_,_,e5,b1,b2,b3.alike rfl rfl rfl rfl (by first|exact Nat.le_refl _|exact Nat.le_succ _|simp)⟩
   ·rw[c4] at hs
    cases c5:Nat.beq n 0
    ·rw[c5] at hs;cases hs
    rw[c5] at hs;simp only[AR.ok.injEq] at hs;obtain⟨rfl,rfl⟩:=hs;obtain rfl:=Nat.eq_of_beq_eq_true c5;obtain⟨l',e1,e2,e3⟩:=ZB9 (P:=P) (ty:=ty) h0 h1 a0 a1 hu hsz hsrc (Nat.le_of_ble_eq_true c4);obtain rfl:l'=[]:=List.eq_nil_of_length_eq_zero (by rw[e2];exact Nat.zero_mul _);simp only[storeCells,Sem.run_pure,Result.andThen_ok] at e3;exact⟨ι,_,w,e3,.sl hb,hr,.refl _ _ _⟩
  rename_i vs e op hg;cases c3:allOne l
  ·rw[c3] at hs;cases hs
  rw[c3] at hs;obtain⟨bi,sCap',hb,rfl,hle,hsp⟩:∃bi sCap',ι b=some bi/\s'=.slice (some ⟨bi.blk,o,none⟩) sLen sCap'/\sCap<=sCap'/\((sp=none/\sCap'=sCap)\/(sp=some bi.sz/\o+sCap'*bi.sz=bi.cnt)):=by
   cases hsv with
   | @sl _ _ _ _ bi hb=>exact⟨bi,sCap,hb,rfl,Nat.le_refl _,.inl ⟨rfl,rfl⟩⟩
   | @slo _ _ _ _ c' bi hb hc hle=>exact⟨bi,c',hb,rfl,hle,.inr ⟨rfl,hc⟩⟩
   | sle=>exact (hsp0 rfl).elim
  have hsv':∀(ι2:Iota) (len:Nat),ι2 b=some bi->VR ι2 (.slice (some ⟨b,o,sp⟩) len sCap) (.slice (some ⟨bi.blk,o,none⟩) len sCap'):=by
   intro ι2 len hb2
   rcases hsp with ⟨rfl,rfl⟩|⟨rfl,hc⟩
   ·exact .sl hb2
   ·exact .slo hb2 hc hle
  obtain⟨c,hc,hcn,hlec,hop,hvs⟩:=hr.cellsAt hg hb;cases c4:Nat.ble (Nat.add sLen n) sCap
  ·rw[c4] at hs
   cases c5:Nat.ble (Nat.mul (Nat.add (Nat.add (Nat.add sLen n) (Nat.div (Nat.add sLen n) 4)) 512) i.bytes) 281474976710656
   ·rw[c5] at hs;cases hs
   rw[c5] at hs;cases c6:Nat.blt (Nat.add sLen n) 281474976710656
   ·rw[c6] at hs;cases hs
   rw[c6] at hs;simp only at hs
   split at hs
   case h_2=>cases hs
   rename_i old hcut;obtain⟨hcl,rfl⟩:=ZEE hcut
   change o+sLen*i.size<=vs.length at hcl
   have hgrow0:¬sLen+n<=sCap:=fun hle=>by
    have:Nat.ble (Nat.add sLen n) sCap=true:=Nat.ble_eq_true_of_le hle;rw[c4] at this;cases this
   have holdR:VRL ι ((vs.drop o).take (sLen*i.size)) ((c.toList.drop o).take (sLen*i.size)):=by
    have:=(hvs.drop o).take (sLen*i.size);rw[List.drop_take,List.take_take,Nat.min_eq_left (by omega)] at this;exact this
   have holdL:((c.toList.drop o).take (sLen*i.size)).length=sLen*i.size:=by simp;omega
   have holdrun:∀w1:World,w1.heap=w.heap->(Builtin.firstCells i.size sLen (.slice (some ⟨bi.blk,o,none⟩) sLen sCap')).run P w1=.ok ((c.toList.drop o).take (sLen*i.size)).toArray w1:=by
    intro w1 hw1;simp only[Builtin.firstCells];exact ZA3 (w:=w1) (by rw[hw1];exact hc) (by omega)
   have grows:∀h1:Heap,HR ι h1 w.heap->Adv ι h w ι h1 w->¬sLen+n<=sCap'->ZIS ((vs.drop o).take (Nat.mul sLen i.size)++l) elem (Nat.add sLen n) i.size h1=.ok v h' →
     ∃ι' v' w',(Builtin.append_ argTypes ty args').run P w=.ok v' w'/\VR ι' v v'/\HR ι' h' w'.heap/\Adv ι h w ι' h' w':=by
    intro h1' hr1 hadv hgr hs1;obtain⟨l',nc,rest,e1,e2,e3,e4,e5⟩:=ZCV (P:=P) (ty:=ty) h0 h1 a0 a1 hu hsz hi hzr hzs hpos hsrc hgr (Nat.le_of_ble_eq_true c5) (Nat.le_of_ble_eq_true c6) holdrun;have hvv:=holdR.append e1;have hll:((c.toList.drop o).take (sLen*i.size)++l').length=(sLen+n)*i.size:=by rw[List.length_append,holdL,e2,Nat.add_mul]
    obtain⟨ι',b1,b2,b3⟩:=ZE7 hr1 hvv hll e4 e3 hs1;exact⟨ι',_,_,e5,b1,b2,hadv.trans (b3.alike rfl rfl rfl rfl (by first|exact Nat.le_refl _|exact Nat.le_succ _|simp))⟩
   cases sp with
   | none =>
    rcases hsp with ⟨_,rfl⟩|⟨hh,_⟩
    ·exact grows h hr (.refl _ _ _) hgrow0 hs
    ·cases hh
   | some sz =>
    rcases hsp with ⟨hh,_⟩|⟨hh,hcnt⟩
    ·cases hh
    cases hh;simp only at hs;cases c7:Nat.beq bi.sz i.size
    ·rw[c7] at hs;cases hs
    rw[c7] at hs;cases c8:Nat.beq o 0
    ·rw[c8] at hs;cases hs
    rw[c8] at hs;cases c9:Nat.beq e elem
    ·rw[c9] at hs;cases hs
    rw[c9] at hs;simp only at hs;have hsze:=Nat.eq_of_beq_eq_true c7;have ho:=Nat.eq_of_beq_eq_true c8;have hee:=Nat.eq_of_beq_eq_true c9;subst ho;subst hee
    by_cases hfit:sLen+n<=sCap'
    ·-- in place,beyond what is known
     obtain⟨l',e1,e2,e3⟩:=ZB9 (P:=P) (ty:=ty) h0 h1 a0 a1 hu hsz hsrc hfit;have hcs:c.size=sCap'*i.size:=by rw[hcn,<-hcnt,hsze,Nat.zero_add]
     have hin:sLen*i.size+n*i.size<=c.size:=by rw[hcs,<-Nat.add_mul];exact Nat.mul_le_mul_right _ hfit
     have hst:=run_storeCells_at (P:=P) bi.blk (sLen*i.size) e l' 0 c w hc (by rw[e2];omega) (e1.allOne c3);rw[Nat.add_zero] at hst;simp only[ZBu,Nat.zero_add,hst,Result.andThen_ok] at e3;unfold ZIS at hs;simp only[AR.ok.injEq] at hs;obtain⟨rfl,rfl⟩:=hs
     have hset:=hr.set (o2:=.cells ((vs.drop 0).take (Nat.mul sLen i.size)++l) e true) (o2':=.cells (c.toList.take (sLen*i.size)++l'++c.toList.drop (sLen*i.size+l'.length)).toArray e (0,0)) hg hb (by
      simp only[OR];have hll:((vs.drop 0).take (Nat.mul sLen i.size)++l).length=(sLen+n)*i.size:=by
       rw[List.length_append,e1.length,e2,Nat.add_mul];have:((vs.drop 0).take (Nat.mul sLen i.size)).length=sLen*i.size:=by
        show ((vs.drop 0).take (sLen*i.size)).length=sLen*i.size
        simp;omega
       rw[this]
      have hadd:(sLen+n)*i.size=sLen*i.size+n*i.size:=Nat.add_mul _ _ _;refine⟨trivial,trivial,?_,?_,(fun hh=>nomatch hh),?_⟩
      ·simp;omega
      ·rw[hll];simp;omega
      ·rw[hll,List.toList_toArray,List.append_assoc]
       have hA:(c.toList.take (sLen*i.size)).length=sLen*i.size:=by simp;omega
       rw[List.take_append,List.take_of_length_le (by omega:(c.toList.take (sLen*i.size)).length<=(sLen+n)*i.size),hA,
        show (sLen+n)*i.size-sLen*i.size=l'.length by omega,List.take_append_of_le_length (Nat.le_refl _),List.take_length]
       have:=holdR;rw[List.drop_zero] at this ⊢;exact this.append e1)
     have hmv:=HR.move (w:={ w with heap:=_ }) hset.1 (Heap.get_set_same _ hg) hb
     have hgeq:=ZOf (h:=h) (b:=b) (.cells ((vs.drop 0).take (Nat.mul sLen i.size)++l) e true) (.cells ((vs.drop 0).take (Nat.mul sLen i.size)++l) e true);refine⟨upd ι h.nx bi,_,_,e3,?_,?_,?_⟩
     ·have h1:upd ι h.nx bi h.nx=some bi:=upd_same _ _ _
      have:=VR.slo (ι:=upd ι h.nx bi) (o:=0) (l:=sLen+n) (c:=sLen+n) (c':=sCap') h1 hcnt hfit;rw[hsze] at this;exact this
     ·rw[ZHq hc];exact HR.congr hgeq rfl rfl hmv.1
     ·rw[ZGd hc];exact Adv.congr hgeq rfl rfl (hset.2.trans hmv.2)
    ·exact grows (h.del b) (hr.del b).1 (hr.del b).2 hfit hs
  ·rw[c4] at hs
   simp only at hs
   split at hs
   case h_2=>cases hs
   rename_i r hlay;simp only[AR.ok.injEq] at hs;obtain⟨rfl,rfl⟩:=hs;have hfit:sLen+n<=sCap':=by have:=Nat.le_of_ble_eq_true c4;change sLen+n<=sCap at this;omega
   obtain⟨l',e1,e2,e3⟩:=ZB9 (P:=P) (ty:=ty) h0 h1 a0 a1 hu hsz hsrc hfit;obtain⟨w',b1,b2,b3⟩:=hr.lay (P:=P) hg hb e1 c3 hlay;simp only[ZBu] at e3
   change (storeCells ⟨bi.blk,o+sLen*i.size,none⟩ l').run P w=.ok () w' at b1
   rw[b1] at e3;exact⟨ι,_,w',e3,hsv' ι _ hb,b2,b3⟩
 ·cases hs
variable {P:Program}
inductive KS where
 | basic (d:TypeDesc)
 | struct (l:List (TypeDesc×Nat))
def ZIG:TypeDesc->Bool
 | .int _|.string|.bool=>true
 | _=>false
noncomputable def ZHv (P:Program)(l:List Field):Option (List (TypeDesc×Nat)) :=
 @List.rec Field (fun _=>Option (List (TypeDesc×Nat))) (some [])
  (fun f _ ih=>match P.underlying f.type,ih with
   | some d, some r => if f.name ≠ "_" && ZIG d then some ((d, f.offset) :: r) else none
   | _,_=>none) l
noncomputable def ZD6 (P:Program)(t:TypeId):Option KS :=
 match P.underlying t with
 | some (.struct fields)=>if P.stoodInHeld t then none else match ZHv P fields.toList with|some l=>some (.struct l)|none=>none
 | some d=>if ZIG d then some (.basic d) else none
 | none=>none
noncomputable def eqFs (l:List (TypeDesc×Nat))(xs ys:List Value):Option Bool :=
 @List.rec (TypeDesc×Nat) (fun _=>Option Bool) (some true)
  (fun p _ ih=>match nth xs p.2,nth ys p.2 with
   | some x,some y=>match Instr.sameNow p.1 x y with
    | some true=>ih
    | some false=>some false
    | none=>none
   | _,_=>none) l
noncomputable def eqK (ks:KS)(x y:Value):Option Bool :=
 match ks with
 | .basic d=>Instr.sameNow d x y
 | .struct l=>match x,y with
  | .agg ⟨xs⟩,.agg ⟨ys⟩=>eqFs l xs ys
  | _,_=>none
noncomputable def okFs (l:List (TypeDesc×Nat))(xs:List Value):Bool:=l.all fun p=>Nat.blt p.2 xs.length
noncomputable def okK (ks:KS)(x:Value):Bool :=
 match ks with
 | .basic _=>true
 | .struct l=>match x with
  | .agg ⟨xs⟩=>okFs l xs
  | _=>false
theorem ZH7 {d:TypeDesc}(h:ZIG d=true):ZDa d=false:=by cases d <;> first|rfl|(simp[ZIG] at h)
theorem ZG7 {t:TypeId}{d:TypeDesc}(hu:P.underlying t=some d)(hd:ZDa d=false){cs:Array Value}{o:Nat}{v:Value}(hv:cs[o]?=some v)(w:World):(part t cs o).run P w=.ok v w:=by
 simp[part,ZDj hu,hd,hv]
theorem ZCL {t:TypeId}{d:TypeDesc}(hu:P.underlying t=some d){x y:Value}{b:Bool}(h:Instr.sameNow d x y=some b)(n:Nat)(w:World):(Op.equalIn (n+1) t x y).run P w=.ok b w:=by
 unfold Instr.sameNow at h
 split at h
 ·split at h
  ·rename_i hk
   cases h;simp only[Op.equalIn,Sem.run_bind,run_underlying hu,Result.andThen_ok,hk,if_true,Sem.run_pure]
  ·cases h
 ·cases h;simp only[Op.equalIn,Sem.run_bind,run_underlying hu,Result.andThen_ok,Sem.run_pure]
 ·cases h;simp only[Op.equalIn,Sem.run_bind,run_underlying hu,Result.andThen_ok,Sem.run_pure]
 ·cases h
theorem ZP7 (p:TypeDesc×Nat)(l:List (TypeDesc×Nat))(xs ys:List Value):eqFs (p::l) xs ys=match nth xs p.2,nth ys p.2 with
   | some x,some y=>match Instr.sameNow p.1 x y with
    | some true=>eqFs l xs ys
    | some false=>some false
    | none=>none
   | _,_=>none:=rfl
theorem ZGi (f:Field)(l:List Field):ZHv P (f::l)=match P.underlying f.type,ZHv P l with
   | some d, some r => if f.name ≠ "_" && ZIG d then some ((d, f.offset) :: r) else none
   | _,_=>none:=rfl
theorem ZLK (n:Nat)(xs ys:Array Value)(w:World):∀(fs:List Field)(l:List (TypeDesc×Nat))(b:Bool),ZHv P fs=some l->eqFs l xs.toList ys.toList=some b →
  (Sem.run P (forIn fs ((none:Option Bool),()) fun f _ =>
      if f.name ≠ "_" then do
       let a <-part f.type xs f.offset
       let c <-part f.type ys f.offset
       let q <-Op.equalIn (n+1) f.type a c
       if (!q)=true then pure (ForInStep.done (some false,())) else pure (ForInStep.yield (none,()))
      else pure (ForInStep.yield (none,()))) w)=.ok (if b then none else some false,()) w:=by
 intro fs
 induction fs with
 | nil =>
  intro l b hk he;cases hk;cases he;simp
 | cons f fs ih =>
  intro l b hk he;rw[ZGi] at hk
  split at hk
  ·rename_i d r hd hr
   split at hk
   ·rename_i hc
    cases hk;simp only[Bool.and_eq_true,decide_eq_true_eq] at hc;rw[ZP7] at he
    split at he
    ·rename_i x y hx hy
     simp only[ZAv] at hx hy;have hx':xs[f.offset]?=some x:=by simpa using hx
     have hy':ys[f.offset]?=some y:=by simpa using hy
     simp only[List.forIn_cons,Sem.run_bind,if_pos hc.1,ZG7 hd (ZH7 hc.2) hx',ZG7 hd (ZH7 hc.2) hy',Result.andThen_ok]
     split at he
     ·rename_i hs
      simp only[ZCL hd hs,Result.andThen_ok,Bool.not_true,Bool.false_eq_true,if_false,Sem.run_pure];exact ih r b hr he
     ·rename_i hs
      cases he;simp only[ZCL hd hs,Result.andThen_ok,Bool.not_false,if_true,Sem.run_pure]
      rfl
     ·cases he
    ·cases he
   ·cases hk
  ·cases hk
theorem ZFw {t:TypeId}{ks:KS}(hk:ZD6 P t=some ks){x y:Value}{b:Bool}(h:eqK ks x y=some b)(w:World):(Op.equal t x y).run P w=.ok b w:=by
 unfold ZD6 at hk
 split at hk
 ·rename_i fields hu
  split at hk
  ·cases hk
  ·rename_i hst
   split at hk
   ·rename_i l hl
    cases hk;unfold eqK at h;simp only at h
    split at h
    ·rename_i xs ys
     have:=ZLK (P:=P) 9998 ⟨xs⟩ ⟨ys⟩ w fields.toList l b hl h;unfold Op.equal Op.maxDepth;rw[Op.equalIn];simp only[Sem.run_bind,run_underlying hu,Result.andThen_ok,run_program,hst,Bool.false_eq_true,if_false];rw[<-Array.forIn_toList];rw[this];cases b <;> simp
    ·cases h
   ·cases hk
 ·rename_i d hns hu
  split at hk
  ·cases hk
   exact ZCL hu h 9999 w
  ·cases hk
 ·cases hk
theorem ZEu {t:TypeId}{d:TypeDesc}(hu:P.underlying t=some d)(hp:ZIG d=true)(e:Bool)(n:Nat)(x:Value)(w:World):(Instr.checkKey e (n+1) t x).run P w=.ok () w:=by
 cases d <;> first|(simp[ZIG] at hp;done)|(simp only[Instr.checkKey,Sem.run_bind,run_underlying hu,Result.andThen_ok,Sem.run_pure])
theorem ZHb (e:Bool)(n:Nat)(xs:Array Value)(w:World):∀(fs:List Field)(l:List (TypeDesc×Nat)),ZHv P fs=some l->okFs l xs.toList=true →
  (Sem.run P (forIn fs PUnit.unit fun f _ =>
      if f.name ≠ "_" then do
       let a <-part f.type xs f.offset
       Instr.checkKey e (n+1) f.type a
       pure (ForInStep.yield PUnit.unit)
      else pure (ForInStep.yield PUnit.unit)) w)=.ok PUnit.unit w:=by
 intro fs
 induction fs with
 | nil=>intro l hk he;simp
 | cons f fs ih =>
  intro l hk he;rw[ZGi] at hk
  split at hk
  ·rename_i d r hd hr
   split at hk
   ·rename_i hc
    cases hk;simp only[Bool.and_eq_true,decide_eq_true_eq] at hc;simp only[okFs,List.all_cons,Bool.and_eq_true] at he;have hlt:f.offset<xs.toList.length:=Nat.le_of_ble_eq_true he.1;have hx':xs[f.offset]?=some (xs.toList[f.offset]):=by rw[<-Array.getElem?_toList];exact List.getElem?_eq_getElem hlt
    simp only[List.forIn_cons,Sem.run_bind,if_pos hc.1,ZG7 hd (ZH7 hc.2) hx',Result.andThen_ok,ZEu hd hc.2,Sem.run_pure];exact ih r hr he.2
   ·cases hk
  ·cases hk
theorem ZCS {t:TypeId}{ks:KS}(hk:ZD6 P t=some ks){x:Value}(h:okK ks x=true)(e:Bool)(w:World):(Instr.checkKey e 10000 t x).run P w=.ok () w:=by
 unfold ZD6 at hk
 split at hk
 ·rename_i fields hu
  split at hk
  ·cases hk
  ·split at hk
   ·rename_i l hl
    cases hk;unfold okK at h;simp only at h
    split at h
    ·rename_i xs
     have:=ZHb (P:=P) e 9998 ⟨xs⟩ w fields.toList l hl h;rw[Instr.checkKey];simp only[Sem.run_bind,run_underlying hu,Result.andThen_ok];rw[<-Array.forIn_toList,this];simp
    ·cases h
   ·cases hk
 ·rename_i d hns hu
  split at hk
  ·rename_i hp
   cases hk;exact ZEu hu hp e 9999 x w
  ·cases hk
 ·cases hk
noncomputable def fk (ks:KS)(k:Value)(es:List MapEntry):Nat->Option (Option Nat) :=
 @List.rec MapEntry (fun _=>Nat->Option (Option Nat)) (fun _=>some none)
  (fun e _ ih i=>match eqK ks k e.key with
   | some true=>some (some i)
   | some false=>ih (Nat.succ i)
   | none=>none) es
theorem ZMA (ks:KS)(k:Value)(e:MapEntry)(es:List MapEntry)(i:Nat):fk ks k (e::es) i=match eqK ks k e.key with
   | some true=>some (some i)
   | some false=>fk ks k es (i+1)
   | none=>none:=rfl
theorem ZIT {ι:Iota}{t:TypeId}{ks:KS}(hk:ZD6 P t=some ks)(k:Value)(w:World):∀(es es':List MapEntry)(i:Nat)(r:Option Nat),MER ι es es'->fk ks k es i=some r →
  (Instr.findAsking t k es' i).run P w=.ok (match r with|none=>none|some j=>(es'[j-i]?).map fun e=>(j,e.val)) w/\(∀j,r=some j->i<=j/\j-i<es.length):=by
 intro es
 induction es with
 | nil =>
  intro es' i r hm hf;cases hm;cases hf;simp[Instr.findAsking]
 | cons e es ih =>
  intro es' i r hm hf
  cases hm with
  | cons hkey hval hborn hm =>
   rename_i e' l';rw[ZMA] at hf
   split at hf
   ·rename_i he
    cases hf;rw[<-hkey] at he;simp only[Instr.findAsking,Sem.run_bind,ZFw hk he,Result.andThen_ok,if_true,Sem.run_pure];simp
   ·rename_i he
    rw[<-hkey] at he;obtain⟨h1,h2⟩:=ih l' (i+1) r hm hf;simp only[Instr.findAsking,Sem.run_bind,ZFw hk he,Result.andThen_ok,Bool.false_eq_true,if_false,h1];refine⟨?_,fun j hj=>?_⟩
    ·cases r with
     | none=>rfl
     | some j =>
      have:=h2 j rfl;simp only
      congr 2
      rw[show j-i=(j-(i+1))+1 by omega,List.getElem?_cons_succ]
    ·have:=h2 j hj;simp only[List.length_cons];omega
   ·cases hf
theorem ZKA {ι:Iota}{d:TypeDesc}(k:Value):∀(es es':List MapEntry)(i:Nat)(r:Option Nat),MER ι es es'->fk (.basic d) k es i=some r →
  Instr.findNow d k es' i=some (match r with|none=>none|some j=>(es'[j-i]?).map fun e=>(j,e.val))/\(∀j,r=some j->i<=j/\j-i<es.length):=by
 intro es
 induction es with
 | nil=>intro es' i r hm hf;cases hm;cases hf;simp[Instr.findNow]
 | cons e es ih =>
  intro es' i r hm hf
  cases hm with
  | cons hkey hval hborn hm =>
   rename_i e' l';rw[ZMA] at hf;simp only[eqK] at hf
   split at hf
   ·rename_i he
    cases hf;rw[<-hkey] at he;simp only[Instr.findNow,he];simp
   ·rename_i he
    rw[<-hkey] at he;obtain⟨h1,h2⟩:=ih l' (i+1) r hm hf;simp only[Instr.findNow,he,h1];refine⟨?_,fun j hj=>?_⟩
    ·cases r with
     | none=>rfl
     | some j =>
      have:=h2 j rfl;simp only
      congr 2
      rw[show j-i=(j-(i+1))+1 by omega,List.getElem?_cons_succ]
    ·have:=h2 j hj;simp only[List.length_cons];omega
   ·cases hf
def fres (es:List MapEntry):Option Nat->Option (Nat×Value)
 | none=>none
 | some j=>(es[j]?).map fun e=>(j,e.val)
theorem ZBa {ι:Iota}{t:TypeId}{ks:KS}(hk:ZD6 P t=some ks){k:Value}{es es':List MapEntry}{r:Option Nat}(hm:MER ι es es')(hf:fk ks k es 0=some r)(w:World) :
  (Instr.findKey t k es').run P w=.ok (fres es' r) w/\(∀j,r=some j->j<es.length):=by
 have hask:=ZIT (P:=P) hk k w es es' 0 r hm hf;refine⟨?_,fun j hj=>by have:=hask.2 j hj;omega⟩;have hk0:=hk;unfold ZD6 at hk
 split at hk
 ·rename_i fields hu
  split at hk
  ·cases hk
  ·split at hk
   ·cases hk
    simp only[Instr.findKey,Sem.run_bind,run_underlying hu,Result.andThen_ok]
    cases hm with
    | nil=>cases hf;simp[Instr.findNow,fres]
    | cons a b c d =>
     rename_i e e' l l';have:Instr.findNow (.struct fields) k (e'::l') 0=none:=by
      simp only[Instr.findNow];have:Instr.sameNow (.struct fields) k e'.key=none:=by unfold Instr.sameNow;split <;> simp_all
      rw[this]
     simp only[this];rw[hask.1];cases r <;> rfl
   ·cases hk
 ·rename_i d hns hu
  split at hk
  ·cases hk
   have:=(ZKA (d:=d) k es es' 0 r hm hf).1;simp only[Instr.findKey,Sem.run_bind,run_underlying hu,Result.andThen_ok,this,Sem.run_pure];cases r <;> rfl
  ·cases hk
 ·cases hk
variable {P:Program} {ι:Iota}
theorem MER.length {l l':List MapEntry}(h:MER ι l l'):l'.length=l.length:=by
 induction h with
 | nil=>rfl
 | cons _ _ _ _ ih=>simp[ih]
theorem MER.get {l l':List MapEntry}(h:MER ι l l'){j:Nat}{e:MapEntry}(he:l[j]?=some e):∃e',l'[j]?=some e'/\e'.key=e.key/\VR ι e.val e'.val/\e'.born=e.born:=by
 induction h generalizing j with
 | nil=>simp at he
 | cons a b c _ ih =>
  cases j with
  | zero=>simp at he;subst he;exact⟨_,rfl,a,b,c⟩
  | succ j=>simp at he;simpa using ih he
theorem MER.setAt {l l':List MapEntry}(h:MER ι l l'){x x':MapEntry}(hk:x'.key=x.key)(hv:VR ι x.val x'.val)(hb:x'.born=x.born)(j:Nat):MER ι (l.set j x) (l'.set j x'):=by
 induction h generalizing j with
 | nil=>exact .nil
 | cons a b c d ih =>
  cases j with
  | zero=>exact .cons hk hv hb d
  | succ j=>exact .cons a b c (ih j)
theorem MER.snoc {l l':List MapEntry}(h:MER ι l l'){x x':MapEntry}(hk:x'.key=x.key)(hv:VR ι x.val x'.val)(hb:x'.born=x.born):MER ι (l++[x]) (l'++[x']):=by
 induction h with
 | nil=>exact .cons hk hv hb .nil
 | cons a b c _ ih=>exact .cons a b c ih
theorem MER.erase {l l':List MapEntry}(h:MER ι l l')(j:Nat):MER ι (l.eraseIdx j) (l'.eraseIdx j):=by
 induction h generalizing j with
 | nil=>exact .nil
 | cons a b c d ih =>
  cases j with
  | zero=>exact d
  | succ j=>exact .cons a b c (ih j)
theorem ZDt (a:Array MapEntry)(j:Nat)(f:MapEntry->MapEntry){e:MapEntry}(he:a.toList[j]?=some e):(a.modify j f).toList=a.toList.set j (f e):=by
 have hlt:j<a.size:=by have:=(List.getElem?_eq_some_iff.1 he).1;simpa using this
 have hge:a[j]=e:=by have:=(List.getElem?_eq_some_iff.1 he).2;simpa using this
 apply List.ext_getElem
 ·simp
 ·intro i h1 h2
  simp only[Array.getElem_toList,Array.getElem_modify,List.getElem_set]
  by_cases hij:j=i
  ·subst hij;simp[hge]
  ·simp[hij]
theorem HR.mapAt {h:Heap}{w:World}(hr:HR ι h w.heap){b clock:Nat}{es:List MapEntry}{bi:BI}(hg:h.get b=some (.map es clock))(hi:ι b=some bi) :
  ∃es':Array MapEntry,w.heap[bi.blk]?=some (.map es' clock)/\MER ι es es'.toList:=by
 obtain⟨bi',o',i1,hw,ho⟩:=hr.obj b _ hg;rw[hi] at i1;cases i1;cases o' <;> simp only[OR] at ho
 obtain⟨rfl,h2⟩:=ho;exact⟨_,hw,h2⟩
theorem ZBi {w:World}{r clock:Nat}{es:Array MapEntry}(h:w.heap[r]?=some (.map es clock)):(getObj r).run P w=.ok (.map es clock) w:=by simp[getObj,Sem.run,h]
theorem ZCM {w:World}{r clock:Nat}{es:Array MapEntry}(h:w.heap[r]?=some (.map es clock))(o:Obj):(setObj r o).run P w=.ok () { w with heap:=w.heap.setIfInBounds r o }:=by simp[setObj,Sem.run,h]
noncomputable def ZNT (m:Value)(h:Heap):Option (List MapEntry) :=
 match m with
 | .map none=>some []
 | .map (some b)=>match h.get b with
  | some (.map es _)=>some es
  | _=>none
 | _=>none
noncomputable def ZEz (P:Program)(t:TypeId)(m k:Value)(ok:Bool)(h:Heap):Option Value :=
 match P.underlying t with
 | some (.map key elem) =>
  match ZD6 P key,ZA9 P elem,ZNT m h with
  | some ks,some z,some es =>
   @Bool.casesOn (fun _=>Option Value) (flat k) none
   (@Bool.casesOn (fun _=>Option Value) (okK ks k) none
    (match fk ks k es 0 with
     | some none=>some (@Bool.casesOn (fun _=>Value) ok z (.tuple ⟨[z,.bool false]⟩))
     | some (some j)=>match nth es j with
      | some e=>some (@Bool.casesOn (fun _=>Value) ok e.val (.tuple ⟨[e.val,.bool true]⟩))
      | none=>none
     | none=>none))
  | _,_,_=>none
 | _=>none
theorem ZJg {h:Heap}{w:World}(hr:HR ι h w.heap){t:TypeId}{m m' k k' v:Value}{ok:Bool}(hm:VR ι m m')(hk:VR ι k k')(hs:ZEz P t m k ok h=some v) :
  ∃v',(Instr.lookup t m' k' ok).run P w=.ok v' w/\VR ι v v':=by
 unfold ZEz at hs
 split at hs
 case h_2=>cases hs
 rename_i key elem hu
 split at hs
 case h_2=>cases hs
 rename_i ks z es hks hz hes;cases c1:flat k
 ·rw[c1] at hs;cases hs
 rw[c1] at hs;cases c2:okK ks k
 ·rw[c2] at hs;cases hs
 rw[c2] at hs;simp only at hs;have hkk:=hk.flat_eq c1;subst hkk;obtain⟨hf,hzr⟩:=ZBV hz;obtain⟨es',hmer,hmm⟩:∃es':Array MapEntry,MER ι es es'.toList/\((m'=.map none/\es'=#[])\/∃r clock,m'=.map (some r)/\w.heap[r]?=some (.map es' clock)):=by
  unfold ZNT at hes
  split at hes
  ·cases hes;cases hm
   exact⟨#[],.nil,.inl ⟨rfl,rfl⟩⟩
  ·split at hes
   ·rename_i b es1 clock hg
    cases hes
    cases hm with
    | @map _ bi hb =>
     obtain⟨es',hw,hme⟩:=hr.mapAt hg hb;exact⟨es',hme,.inr ⟨_,_,rfl,hw⟩⟩
   ·cases hes
  ·cases hes
 have hrun:∀r,fk ks k' es 0=some r->(Instr.lookup t m' k' ok).run P w=(match fres es'.toList r with
    | some (_,v)=>.ok (if ok=true then .tuple #[v,.bool true] else v) w
    | none=>.ok (if ok=true then .tuple #[z,.bool false] else z) w):=by
  intro r hfk;have hfind:=(ZBa (P:=P) hks hmer hfk w).1
  rcases hmm with ⟨rfl,rfl⟩|⟨r',clock,rfl,hw⟩
  ·simp only[Instr.lookup,Sem.run_bind,run_underlying hu,Result.andThen_ok,Sem.run_pure,ZCS hks c2,hfind]
   cases fres (#[]:Array MapEntry).toList r with
   | none=>simp[hzr]
   | some p=>obtain⟨_,v⟩:=p;simp
  ·simp only[Instr.lookup,Sem.run_bind,run_underlying hu,Result.andThen_ok,Sem.run_pure,ZBi hw,ZCS hks c2,hfind]
   cases fres es'.toList r with
   | none=>simp[hzr]
   | some p=>obtain⟨_,v⟩:=p;simp
 split at hs
 ·rename_i hfk
  cases hs;rw[hrun none hfk];cases ok
  ·exact⟨z,by simp[fres,hzr],VR.of_flat ι hf⟩
  ·exact⟨.tuple #[z,.bool false],by simp[fres,hzr],.tup (.cons (VR.of_flat ι hf) (.cons (.bool _) .nil))⟩
 ·rename_i j hfk
  split at hs
  ·rename_i e he
   cases hs;rw[ZAv] at he;obtain⟨e',g1,g2,g3,g4⟩:=hmer.get he;rw[hrun (some j) hfk];cases ok
   ·exact⟨e'.val,by simp[fres,g1],g3⟩
   ·exact⟨.tuple #[e'.val,.bool true],by simp[fres,g1],.tup (.cons g3 (.cons (.bool _) .nil))⟩
  ·cases hs
 ·cases hs
noncomputable def ZBh (P:Program)(t:TypeId)(m k v:Value)(h:Heap):Option Heap :=
 match P.underlying t,m with
 | some (.map key _),.map (some b) =>
  match ZD6 P key,h.get b with
  | some ks,some (.map es clock) =>
   @Bool.casesOn (fun _=>Option Heap) (flat k) none
   (@Bool.casesOn (fun _=>Option Heap) (okK ks k) none
    (match fk ks k es 0 with
     | some none=>some (h.set b (.map (es++[⟨k,v,clock⟩]) (Nat.succ clock)))
     | some (some j)=>match nth es j with
      | some e=>@Bool.casesOn (fun _=>Option Heap) (Instr.sameBits 10000 e.key k) none (some (h.set b (.map (es.set j ⟨k,v,e.born⟩) clock)))
      | none=>none
     | none=>none))
  | _,_=>none
 | _,_=>none
theorem ZD5 {h h':Heap}{w:World}(hr:HR ι h w.heap){t:TypeId}{m m' k k' v v':Value}(hm:VR ι m m')(hk:VR ι k k')(hv:VR ι v v')(hs:ZBh P t m k v h=some h') :
  ∃w',(Instr.mapUpdate t m' k' v').run P w=.ok () w'/\HR ι h' w'.heap/\Adv ι h w ι h' w':=by
 unfold ZBh at hs
 split at hs
 case h_2=>cases hs
 rename_i key elem b hu
 split at hs
 case h_2=>cases hs
 rename_i ks es clock hks hg;cases c1:flat k
 ·rw[c1] at hs;cases hs
 rw[c1] at hs;cases c2:okK ks k
 ·rw[c2] at hs;cases hs
 rw[c2] at hs;simp only at hs;have hkk:=hk.flat_eq c1;subst hkk
 cases hm with
 | @map _ bi hb =>
 obtain⟨es',hw,hmer⟩:=hr.mapAt hg hb
 split at hs
 ·rename_i hfk
  cases hs
  have hset:=hr.set (o2:=.map (es++[⟨k',v,clock⟩]) (Nat.succ clock)) (o2':=.map (es'.push ⟨k',v',clock⟩) (clock+1)) hg hb (by
   simp only[OR];exact⟨trivial,by simpa using hmer.snoc (x:=⟨k',v,clock⟩) (x':=⟨k',v',clock⟩) rfl hv rfl⟩)
  refine⟨{ w with heap:=w.heap.setIfInBounds bi.blk (.map (es'.push ⟨k',v',clock⟩) (clock+1)) },?_,hset.1,hset.2⟩
  simp only[Instr.mapUpdate,Sem.run_bind,run_underlying hu,Result.andThen_ok,ZBi hw,ZCS hks c2,(ZBa (P:=P) hks hmer hfk w).1,fres,ZCM hw]
 ·rename_i j hfk
  split at hs
  ·rename_i e he
   cases c3:Instr.sameBits 10000 e.key k'
   ·rw[c3] at hs;cases hs
   rw[c3] at hs;cases hs;rw[ZAv] at he;obtain⟨e',g1,g2,g3,g4⟩:=hmer.get he;have g1':es'[j]?=some e':=by simpa using g1
   have hset:=hr.set (o2:=.map (es.set j ⟨k',v,e.born⟩) clock) (o2':=.map (es'.modify j fun x=>{ x with key:=k',val:=v' }) clock) hg hb (by
    simp only[OR];refine⟨trivial,?_⟩;rw[ZDt es' j _ g1]
    exact hmer.setAt (x:=⟨k',v,e.born⟩) (x':={ e' with key:=k',val:=v' }) rfl hv g4 j)
   refine⟨{ w with heap:=w.heap.setIfInBounds bi.blk (.map (es'.modify j fun x=>{ x with key:=k',val:=v' }) clock) },?_,hset.1,hset.2⟩
   simp only[Instr.mapUpdate,Sem.run_bind,run_underlying hu,Result.andThen_ok,ZBi hw,ZCS hks c2,(ZBa (P:=P) hks hmer hfk w).1,fres,g1,Option.map_some,Instr.keyThatStays,g1',
    Option.getD_some,g2,c3,if_true,Sem.run_pure,ZCM hw]
  ·cases hs
 ·cases hs
noncomputable def ZH3 (P:Program)(t:TypeId)(m k:Value)(h:Heap):AR :=
 match P.underlying t,m with
 | some (.map key elem),.map (some b) =>
  match ZD6 P key,h.get b,ZA9 P elem with
  | some ks,some (.map es clock),some z =>
   @Bool.casesOn (fun _=>AR) (flat k) .no
   (@Bool.casesOn (fun _=>AR) (okK ks k) .no
    (match fk ks k es 0 with
     | some none=>.ok (.tuple ⟨[z,.int .i64 (Int.ofNat clock)]⟩) (h.set b (.map (es++[⟨k,z,clock⟩]) (Nat.succ clock)))
     | some (some j)=>match nth es j with
      | some e=>@Bool.casesOn (fun _=>AR) (Instr.sameBits 10000 e.key k) .no (.ok (.tuple ⟨[e.val,.int .i64 (Int.ofNat e.born)]⟩) (h.set b (.map (es.set j ⟨k,e.val,e.born⟩) clock)))
      | none=>.no
     | none=>.no))
  | _,_,_=>.no
 | _,_=>.no
theorem ZHz {h h':Heap}{w:World}(hr:HR ι h w.heap){t:TypeId}{m m' k k' v:Value}(hm:VR ι m m')(hk:VR ι k k')(hs:ZH3 P t m k h=.ok v h') :
  ∃v' w',(Instr.mapEntry t m' k').run P w=.ok v' w'/\VR ι v v'/\HR ι h' w'.heap/\Adv ι h w ι h' w':=by
 unfold ZH3 at hs
 split at hs
 case h_2=>cases hs
 rename_i key elem b hu
 split at hs
 case h_2=>cases hs
 rename_i ks es clock z hks hg hz;cases c1:flat k
 ·rw[c1] at hs;cases hs
 rw[c1] at hs;cases c2:okK ks k
 ·rw[c2] at hs;cases hs
 rw[c2] at hs;simp only at hs;have hkk:=hk.flat_eq c1;subst hkk;obtain⟨hf,hzr⟩:=ZBV hz
 cases hm with
 | @map _ bi hb =>
 obtain⟨es',hw,hmer⟩:=hr.mapAt hg hb
 split at hs
 ·rename_i hfk
  simp only[AR.ok.injEq] at hs;obtain⟨rfl,rfl⟩:=hs
  have hset:=hr.set (o2:=.map (es++[⟨k',z,clock⟩]) (Nat.succ clock)) (o2':=.map (es'.push ⟨k',z,clock⟩) (clock+1)) hg hb (by
   simp only[OR];exact⟨trivial,by simpa using hmer.snoc (x:=⟨k',z,clock⟩) (x':=⟨k',z,clock⟩) rfl (VR.of_flat ι hf) rfl⟩)
  refine⟨.tuple #[z,goInt clock],{ w with heap:=w.heap.setIfInBounds bi.blk (.map (es'.push ⟨k',z,clock⟩) (clock+1)) },?_,.tup (.cons (VR.of_flat ι hf) (.cons (.int _ _) .nil)),hset.1,hset.2⟩
  simp only[Instr.mapEntry,Sem.run_bind,run_underlying hu,Result.andThen_ok,ZBi hw,ZCS hks c2,(ZBa (P:=P) hks hmer hfk w).1,fres,hzr,ZCM hw,Sem.run_pure]
 ·rename_i j hfk
  split at hs
  ·rename_i e he
   cases c3:Instr.sameBits 10000 e.key k'
   ·rw[c3] at hs;cases hs
   rw[c3] at hs;simp only[AR.ok.injEq] at hs;obtain⟨rfl,rfl⟩:=hs;rw[ZAv] at he;obtain⟨e',g1,g2,g3,g4⟩:=hmer.get he;have g1':es'[j]?=some e':=by simpa using g1
   have hset:=hr.set (o2:=.map (es.set j ⟨k',e.val,e.born⟩) clock) (o2':=.map (es'.modify j fun x=>{ x with key:=k' }) clock) hg hb (by
    simp only[OR];refine⟨trivial,?_⟩;rw[ZDt es' j _ g1]
    exact hmer.setAt (x:=⟨k',e.val,e.born⟩) (x':={ e' with key:=k' }) rfl g3 g4 j)
   refine⟨.tuple #[e'.val,goInt e'.born],{ w with heap:=w.heap.setIfInBounds bi.blk (.map (es'.modify j fun x=>{ x with key:=k' }) clock) },?_,?_,hset.1,hset.2⟩
   ·simp only[Instr.mapEntry,Sem.run_bind,run_underlying hu,Result.andThen_ok,ZBi hw,ZCS hks c2,(ZBa (P:=P) hks hmer hfk w).1,fres,g1,Option.map_some,Instr.keyThatStays,g1',
     Option.getD_some,g2,c3,if_true,Sem.run_pure,ZCM hw]
   ·rw[g4];exact .tup (.cons g3 (.cons (.int _ _) .nil))
  ·cases hs
 ·cases hs
noncomputable def bornAt (n:Nat)(es:List MapEntry):Option Nat:=es.findIdx? fun e=>(e.born:Int) == (n:Int)
noncomputable def ZFE (m stamp v:Value)(h:Heap):Option Heap :=
 match m,ZEA stamp with
 | .map (some b),some n =>
  match h.get b with
  | some (.map es clock) =>
   match bornAt n es with
   | some j=>match nth es j with
    | some e=>some (h.set b (.map (es.set j ⟨e.key,v,e.born⟩) clock))
    | none=>none
   | none=>none
  | _=>none
 | _,_=>none
theorem MER.bornAt {l l':List MapEntry}(h:MER ι l l')(n:Nat):l'.findIdx? (fun e=>(e.born:Int) == (n:Int))=Dx.bornAt n l:=by
 unfold Dx.bornAt
 induction h with
 | nil=>rfl
 | cons a b c d ih=>simp only[List.findIdx?_cons,c,ih]
theorem ZGA {h h':Heap}{w:World}(hr:HR ι h w.heap){t:TypeId}{m m' st st' v v':Value}(hm:VR ι m m')(hst:VR ι st st')(hv:VR ι v v')(hs:ZFE m st v h=some h') :
  ∃w',(Instr.entryStore t m' st' v').run P w=.ok () w'/\HR ι h' w'.heap/\Adv ι h w ι h' w':=by
 unfold ZFE at hs
 split at hs
 case h_2=>cases hs
 rename_i b n hn;obtain⟨k,rfl⟩:=ZDC hn;cases hst
 split at hs
 case h_2=>cases hs
 rename_i es clock hg
 split at hs
 case h_2=>cases hs
 rename_i j hj
 split at hs
 case h_2=>cases hs
 rename_i e he;cases hs;rw[ZAv] at he
 cases hm with
 | @map _ bi hb =>
 obtain⟨es',hw,hmer⟩:=hr.mapAt hg hb;obtain⟨e',g1,g2,g3,g4⟩:=hmer.get he;have hidx:es'.findIdx? (fun e=>(e.born:Int) == (n:Int))=some j:=by
  rw[<-hj,<-hmer.bornAt n];obtain⟨l⟩:=es';exact List.findIdx?_toArray _ _
 have hset:=hr.set (o2:=.map (es.set j ⟨e.key,v,e.born⟩) clock) (o2':=.map (es'.modify j fun x=>{ x with val:=v' }) clock) hg hb (by
  simp only[OR];refine⟨trivial,?_⟩;rw[ZDt es' j _ g1]
  exact hmer.setAt (x:=⟨e.key,v,e.born⟩) (x':={ e' with val:=v' }) g2 hv g4 j)
 refine⟨{ w with heap:=w.heap.setIfInBounds bi.blk (.map (es'.modify j fun x=>{ x with val:=v' }) clock) },?_,hset.1,hset.2⟩
 simp only[Instr.entryStore,Sem.run_bind,ZBi hw,Result.andThen_ok,asInt,asIntOf,Sem.run_pure,Int.ofNat_eq_natCast,hidx,ZCM hw]
noncomputable def ZEH (P:Program)(t:TypeId)(m k:Value)(h:Heap):Option Heap :=
 match P.underlying t,m with
 | some (.map key _),.map (some b) =>
  match ZD6 P key,h.get b with
  | some ks,some (.map es clock) =>
   @Bool.casesOn (fun _=>Option Heap) (flat k) none
   (@Bool.casesOn (fun _=>Option Heap) (okK ks k) none
    (match fk ks k es 0 with
     | some none=>some h
     | some (some j)=>some (h.set b (.map (es.eraseIdx j) clock))
     | none=>none))
  | _,_=>none
 | _,_=>none
theorem ZJe {h h':Heap}{w:World}(hr:HR ι h w.heap){argTypes:Array TypeId}{args':Array Value}{t ty:TypeId}{m m' k k':Value}(h0:argTypes[0]?=some t)(a0:args'[0]?=some m')(a1:args'[1]?=some k')
  (hm:VR ι m m') (hk:VR ι k k') (hs:ZEH P t m k h=some h') :
  ∃w',(Builtin.delete_ argTypes ty args').run P w=.ok (.tuple #[]) w'/\HR ι h' w'.heap/\Adv ι h w ι h' w':=by
 unfold ZEH at hs
 split at hs
 case h_2=>cases hs
 rename_i key elem b hu
 split at hs
 case h_2=>cases hs
 rename_i ks es clock hks hg;cases c1:flat k
 ·rw[c1] at hs;cases hs
 rw[c1] at hs;cases c2:okK ks k
 ·rw[c2] at hs;cases hs
 rw[c2] at hs;simp only at hs;have hkk:=hk.flat_eq c1;subst hkk
 cases hm with
 | @map _ bi hb =>
 obtain⟨es',hw,hmer⟩:=hr.mapAt hg hb
 split at hs
 ·rename_i hfk
  cases hs;have hset:=hr.set (o2:=.map es clock) (o2':=.map es' clock) hg hb (by simp only[OR];exact⟨trivial,hmer⟩)
  refine⟨{ w with heap:=w.heap.setIfInBounds bi.blk (.map es' clock) },?_,?_,?_⟩
  ·simp only[Builtin.delete_,h0,a0,a1,Sem.run_bind,run_underlying hu,Result.andThen_ok,ZBi hw,ZCS hks c2,(ZBa (P:=P) hks hmer hfk w).1,fres,ZCM hw,Sem.run_pure]
  ·have hself:w.heap.setIfInBounds bi.blk (.map es' clock)=w.heap:=by
    have hlt:=(Array.getElem?_eq_some_iff.1 hw).1;have hge:=(Array.getElem?_eq_some_iff.1 hw).2;apply Array.ext
    ·simp
    ·intro i h1 h2
     rw[Array.getElem_setIfInBounds h2]
     by_cases e:bi.blk=i
     ·subst e;simp[hge]
     ·simp[e]
   show HR ι h (w.heap.setIfInBounds bi.blk (.map es' clock))
   rw[hself];exact hr
  ·have hself:w.heap.setIfInBounds bi.blk (.map es' clock)=w.heap:=by
    have hge:=(Array.getElem?_eq_some_iff.1 hw).2;apply Array.ext
    ·simp
    ·intro i h1 h2
     rw[Array.getElem_setIfInBounds h2]
     by_cases e:bi.blk=i
     ·subst e;simp[hge]
     ·simp[e]
   show Adv ι h w ι h { w with heap:=w.heap.setIfInBounds bi.blk (.map es' clock) }
   rw[hself];exact .refl _ _ _
 ·rename_i j hfk
  cases hs
  have hset:=hr.set (o2:=.map (es.eraseIdx j) clock) (o2':=.map (es'.eraseIdxIfInBounds j) clock) hg hb (by
   simp only[OR];exact⟨trivial,by simpa using hmer.erase j⟩)
  refine⟨{ w with heap:=w.heap.setIfInBounds bi.blk (.map (es'.eraseIdxIfInBounds j) clock) },?_,hset.1,hset.2⟩
  have hjl:=(ZBa (P:=P) hks hmer hfk w).2 j rfl;obtain⟨e',g1⟩:∃e',es'.toList[j]?=some e':=⟨_,List.getElem?_eq_getElem (by rw[hmer.length];exact hjl)⟩;simp only[Builtin.delete_,h0,a0,a1,Sem.run_bind,run_underlying hu,Result.andThen_ok,ZBi hw,ZCS hks c2,(ZBa (P:=P) hks hmer hfk w).1,fres,g1,Option.map_some,ZCM hw,Sem.run_pure]
 ·cases hs
variable {P:Program} {ι:Iota}
def ltI:Int->Int->Bool
 | .ofNat m,.ofNat n=>Nat.blt m n
 | .ofNat _,.negSucc _=>false
 | .negSucc _,.ofNat _=>true
 | .negSucc m,.negSucc n=>Nat.blt n m
def eqI:Int->Int->Bool
 | .ofNat m,.ofNat n=>Nat.beq m n
 | .negSucc m,.negSucc n=>Nat.beq m n
 | _,_=>false
theorem ZQy (m n:Nat):Nat.blt m n=decide (m<n):=by
 cases h:Nat.blt m n
 ·have:¬m<n:=fun hl=>by have:=Nat.ble_eq_true_of_le hl;unfold Nat.blt at h;rw[this] at h;cases h
  simp[this]
 ·have:m<n:=Nat.le_of_ble_eq_true h
  simp[this]
theorem ZQn (m n:Nat):Nat.beq m n=decide (m=n):=by
 cases h:Nat.beq m n
 ·have:m≠n:=by intro e;subst e;simp at h
  simp[this]
 ·have:m=n:=Nat.eq_of_beq_eq_true h
  simp[this]
theorem ZOA (a b:Int):ltI a b=decide (a<b):=by
 cases a with
 | ofNat m=>cases b with
  | ofNat n=>simp only[ltI,ZQy,Int.ofNat_eq_natCast];simp
  | negSucc n=>simp only[ltI];symm;simp only[decide_eq_false_iff_not];simp only[Int.ofNat_eq_natCast];omega
 | negSucc m=>cases b with
  | ofNat n=>simp only[ltI];symm;simp only[decide_eq_true_eq,Int.ofNat_eq_natCast];omega
  | negSucc n=>simp only[ltI,ZQy];congr 1;apply propext;constructor <;> intro h <;> omega
theorem ZQi (a b:Int):eqI a b=(a == b):=by
 cases a with
 | ofNat m=>cases b with
  | ofNat n =>
   simp only[eqI,ZQn,Int.ofNat_eq_natCast]
   by_cases h:m=n
   ·subst h;simp
   ·have:((m:Int) == (n:Int))=false:=by simp;omega
    simp[h,this]
  | negSucc n=>rfl
 | negSucc m=>cases b with
  | ofNat n=>rfl
  | negSucc n =>
   simp only[eqI,ZQn]
   by_cases h:m=n
   ·subst h;simp
   ·have:((Int.negSucc m) == (Int.negSucc n))=false:=by simp;omega
    simp[h,this]
noncomputable def addI (a b:Int):Option Int :=
 match a,b with
 | .ofNat m,.ofNat n=>@Bool.casesOn (fun _=>Option Int) (Nat.blt (Nat.add m n) 9223372036854775808) none (some (.ofNat (Nat.add m n)))
 | _,_=>none
noncomputable def subI (a b:Int):Option Int :=
 match a,b with
 | .ofNat m,.ofNat n=>@Bool.casesOn (fun _=>Option Int) (Nat.ble n m) (@Bool.casesOn (fun _=>Option Int) (Nat.blt n 9223372036854775808) none (some (.negSucc (Nat.pred (Nat.sub n m)))))
   (@Bool.casesOn (fun _=>Option Int) (Nat.blt m 9223372036854775808) none (some (.ofNat (Nat.sub m n))))
 | _,_=>none
noncomputable def mulI (a b:Int):Option Int :=
 match a,b with
 | .ofNat m,.ofNat n=>@Bool.casesOn (fun _=>Option Int) (Nat.blt (Nat.mul m n) 9223372036854775808) none (some (.ofNat (Nat.mul m n)))
 | _,_=>none
theorem ZKY (n:Int)(h1:-9223372036854775808<=n)(h2:n<9223372036854775808):IntKind.i64.wrap n=n:=by
 have e1:(2 ^ IntKind.i64.bits:Int)=18446744073709551616:=by decide
 have e2:(2 ^ (IntKind.i64.bits-1):Int)=9223372036854775808:=by decide
 simp only[IntKind.wrap,e1,e2,IntKind.signed,Bool.true_and,ge_iff_le,decide_eq_true_eq]
 split <;> omega
theorem ZT8 {a b c:Int}(h:addI a b=some c):IntKind.i64.wrap (a+b)=c:=by
 unfold addI at h
 split at h
 ·rename_i m n
  cases hb:Nat.blt (Nat.add m n) 9223372036854775808
  ·rw[hb] at h;cases h
  ·rw[hb] at h;cases h
   have hlt:m+n<9223372036854775808:=Nat.le_of_ble_eq_true hb;have:(Int.ofNat m+Int.ofNat n:Int)=Int.ofNat (m+n):=rfl;rw[this];exact ZDs _ hlt
 ·cases h
theorem ZUP {a b c:Int}(h:mulI a b=some c):IntKind.i64.wrap (a*b)=c:=by
 unfold mulI at h
 split at h
 ·rename_i m n
  cases hb:Nat.blt (Nat.mul m n) 9223372036854775808
  ·rw[hb] at h;cases h
  ·rw[hb] at h;cases h
   have hlt:m*n<9223372036854775808:=Nat.le_of_ble_eq_true hb;have:(Int.ofNat m*Int.ofNat n:Int)=Int.ofNat (m*n):=rfl;rw[this];exact ZDs _ hlt
 ·cases h
theorem ZUg {a b c:Int}(h:subI a b=some c):IntKind.i64.wrap (a-b)=c:=by
 unfold subI at h
 split at h
 ·rename_i m n
  cases hb:Nat.ble n m
  ·rw[hb] at h
   cases hb2:Nat.blt n 9223372036854775808
   ·rw[hb2] at h;cases h
   ·rw[hb2] at h;cases h
    have hlt:n<9223372036854775808:=Nat.le_of_ble_eq_true hb2;have hmn:¬n<=m:=fun hle=>by rw[Nat.ble_eq_true_of_le hle] at hb;cases hb
    have e:(Int.ofNat m-Int.ofNat n:Int)=Int.negSucc (Nat.pred (n-m)):=by
     simp only[Int.ofNat_eq_natCast,Nat.pred_eq_sub_one];omega
    rw[e];exact ZKY _ (by simp only[Nat.pred_eq_sub_one];omega) (by omega)
  ·rw[hb] at h
   cases hb2:Nat.blt m 9223372036854775808
   ·rw[hb2] at h;cases h
   ·rw[hb2] at h;cases h
    have hlt:m<9223372036854775808:=Nat.le_of_ble_eq_true hb2;have hmn:n<=m:=Nat.le_of_ble_eq_true hb;have e:(Int.ofNat m-Int.ofNat n:Int)=Int.ofNat (m-n):=by simp only[Int.ofNat_eq_natCast];omega
    rw[e];exact ZDs _ (by omega)
 ·cases h
noncomputable def iop (op:BinOp)(a b:Int):Option Value :=
 match op with
 | .add=>match addI a b with|some c=>some (.int .i64 c)|none=>none
 | .sub=>match subI a b with|some c=>some (.int .i64 c)|none=>none
 | .mul=>match mulI a b with|some c=>some (.int .i64 c)|none=>none
 | .lss=>some (.bool (ltI a b))
 | .gtr=>some (.bool (ltI b a))
 | .leq=>some (.bool (not (ltI b a)))
 | .geq=>some (.bool (not (ltI a b)))
 | .eql=>some (.bool (eqI a b))
 | .neq=>some (.bool (not (eqI a b)))
 | _=>none
theorem ZQ0 {op:BinOp}{a b:Int}{v:Value}(h:iop op a b=some v)(t:TypeId)(x y:Operand)(w:World) :
  (do eqGuard op t x y (.int .i64 a) (.int .i64 b);binOp op t (.int .i64 a) (.int .i64 b):Sem Value).run P w=.ok v w:=by
 have hg:(eqGuard op t x y (.int .i64 a) (.int .i64 b)).run P w=.ok () w:=by
  cases op <;> rfl
 simp only[Sem.run_bind,hg,Result.andThen_ok];unfold iop at h
 split at h
 ·split at h
  ·rename_i c hc;cases h;simp[binOp,Op.intArith,ZT8 hc]
  ·cases h
 ·split at h
  ·rename_i c hc;cases h;simp[binOp,Op.intArith,ZUg hc]
  ·cases h
 ·split at h
  ·rename_i c hc;cases h;simp[binOp,Op.intArith,ZUP hc]
  ·cases h
 ·cases h;simp[binOp,Op.intCmp,ZOA]
 ·cases h;simp[binOp,Op.intCmp,ZOA]
 ·cases h
  have:(!decide (b<a))=decide (a<=b):=by by_cases h:b<a <;> simp[h] <;> omega
  simp[binOp,Op.intCmp,ZOA,this]
 ·cases h
  have:(!decide (a<b))=decide (b<=a):=by by_cases h:a<b <;> simp[h] <;> omega
  simp[binOp,Op.intCmp,ZOA,this]
 ·cases h;simp[binOp,Op.intCmp,ZQi]
 ·cases h;simp[binOp,Op.intCmp,ZQi,bne]
 ·cases h
noncomputable def ZIX (d:TypeDesc)(x y:Value):Option Bool :=
 match d,x,y with
 | .pointer _,.pointer (some _),.pointer none=>some false
 | .pointer _,.pointer none,.pointer (some _)=>some false
 | .slice _,.slice (some _) _ _,.slice none _ _=>some false
 | .slice _,.slice none _ _,.slice (some _) _ _=>some false
 | .map _ _,.map (some _),.map none=>some false
 | .map _ _,.map none,.map (some _)=>some false
 | .func _ _ _,.func _ _ _,.nilFunc=>some false
 | .func _ _ _,.nilFunc,.func _ _ _=>some false
 | .interface _,.iface _ _,.nilIface=>some false
 | .interface _,.nilIface,.iface _ _=>some false
 | _,_,_=>none
noncomputable def ZF9 (P:Program)(op:BinOp)(t:TypeId)(x y:Value):Option Value :=
 match P.underlying t with
 | some d=>match ZIX d x y with
  | some b=>match op with
   | .eql=>some (.bool b)
   | .neq=>some (.bool (not b))
   | _=>none
  | none=>none
 | none=>none
theorem ZJP {t:TypeId}{d:TypeDesc}(hu:P.underlying t=some d){x y:Value}{b:Bool}(h:ZIX d x y=some b)(n:Nat)(w:World):(Op.equalIn (n+1) t x y).run P w=.ok b w:=by
 unfold ZIX at h
 split at h <;> first|(cases h;done)|skip
 all_goals cases h
 all_goals simp only[Op.equalIn,Sem.run_bind,run_underlying hu,Result.andThen_ok,Sem.run_pure]
 all_goals rfl
theorem ZO4 {d:TypeDesc}{x y x' y':Value}(hx:VR ι x x')(hy:VR ι y y'){b:Bool}(h:ZIX d x y=some b):ZIX d x' y'=some b:=by
 unfold ZIX at h
 split at h <;> first|(cases h;done)|skip
 all_goals cases h
 all_goals cases hx <;> cases hy
 all_goals rfl
theorem ZM0 {d:TypeDesc}{x y:Value}{b:Bool}(h:ZIX d x y=some b)(op:BinOp)(t:TypeId)(ox oy:Operand):eqGuard op t ox oy x y=pure ():=by
 unfold ZIX at h
 split at h <;> first|(cases h;done)|skip
 all_goals cases op <;> rfl
theorem ZPx {d:TypeDesc}{x y:Value}{b:Bool}(h:ZIX d x y=some b)(t:TypeId) :
  binOp .eql t x y=(do pure (.bool (<-Op.equal t x y)))/\binOp .neq t x y=(do pure (.bool (!(<-Op.equal t x y)))):=by
 unfold ZIX at h
 split at h <;> first|(cases h;done)|skip
 all_goals exact⟨rfl,rfl⟩
theorem ZJ7 {op:BinOp}{t:TypeId}{x y x' y' v:Value}(hx:VR ι x x')(hy:VR ι y y')(h:ZF9 P op t x y=some v)(ox oy:Operand)(w:World) :
  (do eqGuard op t ox oy x' y';binOp op t x' y':Sem Value).run P w=.ok v w:=by
 unfold ZF9 at h
 split at h
 case h_2=>cases h
 rename_i d hu
 split at h
 case h_2=>cases h
 rename_i b he;have he':=ZO4 hx hy he;have hq:(Op.equal t x' y').run P w=.ok b w:=ZJP hu he' 9999 w;rw[ZM0 he'];have hb:=ZPx he' t
 split at h
 ·cases h
  rw[hb.1];simp only[Sem.run_bind,Sem.run_pure,Result.andThen_ok,hq]
 ·cases h
  rw[hb.2];simp only[Sem.run_bind,Sem.run_pure,Result.andThen_ok,hq]
 ·cases h
noncomputable def ZBq (P:Program)(t:TypeId)(x:Value):Option Value :=
 match P.underlying t with
 | some (.interface _)=>none
 | some _=>some (.iface t x)
 | none=>none
theorem ZEr {t:TypeId}{x x' v:Value}(hx:VR ι x x')(h:ZBq P t x=some v)(w:World):∃v',(Instr.makeInterface t x').run P w=.ok v' w/\VR ι v v':=by
 unfold ZBq at h
 split at h
 ·cases h
 ·rename_i d hne hu
  cases h;refine⟨.iface t x',?_,.iface t hx⟩;simp only[Instr.makeInterface,Sem.run_bind,run_underlying hu,Result.andThen_ok]
  rfl
 ·cases h
def ZEb:TypeDesc->Bool
 | .interface _=>true
 | _=>false
noncomputable def ZCp (P:Program)(x:Value)(asserted:TypeId)(ok:Bool):Option Value :=
 match P.underlying asserted,x with
 | some d,.iface t v =>
  @Bool.casesOn (fun _=>Option Value) (ZEb d)
   (@Bool.casesOn (fun _=>Option Value) (Nat.beq t asserted)
    (@Bool.casesOn (fun _=>Option Value) ok none (match ZA9 P asserted with|some z=>some (.tuple ⟨[z,.bool false]⟩)|none=>none))
    (some (@Bool.casesOn (fun _=>Value) ok v (.tuple ⟨[v,.bool true]⟩)))) none
 | some d,.nilIface =>
  @Bool.casesOn (fun _=>Option Value) ok none (match ZA9 P asserted with|some z=>some (.tuple ⟨[z,.bool false]⟩)|none=>none)
 | _,_=>none
theorem ZGR {xType asserted:TypeId}{x x' v:Value}{ok:Bool}(hx:VR ι x x')(h:ZCp P x asserted ok=some v)(w:World) :
  ∃v',(Instr.typeAssert x' xType asserted ok).run P w=.ok v' w/\VR ι v v':=by
 unfold ZCp at h
 split at h
 ·rename_i d t y hu
  cases hx with
  | iface _ hy =>
   rename_i y';cases c1:ZEb d
   ·rw[c1] at h
    cases c2:Nat.beq t asserted
    ·rw[c2] at h
     have hne:t≠asserted:=by intro e;subst e;simp at c2
     cases ok
     ·cases h
     ·simp only at h
      split at h
      ·rename_i z hz
       cases h;obtain⟨hf,hzr⟩:=ZBV hz;refine⟨.tuple #[z,.bool false],?_,.tup (.cons (VR.of_flat ι hf) (.cons (.bool _) .nil))⟩;simp only[Instr.typeAssert,Sem.run_bind,run_underlying hu,Result.andThen_ok];cases d <;> simp[ZEb] at c1 <;> simp[hne,hzr]
      ·cases h
    ·rw[c2] at h
     have he:=Nat.eq_of_beq_eq_true c2;subst he;cases h;cases ok
     ·refine⟨y',?_,hy⟩
      simp only[Instr.typeAssert,Sem.run_bind,run_underlying hu,Result.andThen_ok];cases d <;> simp[ZEb] at c1 <;> simp
     ·refine⟨.tuple #[y',.bool true],?_,.tup (.cons hy (.cons (.bool _) .nil))⟩
      simp only[Instr.typeAssert,Sem.run_bind,run_underlying hu,Result.andThen_ok];cases d <;> simp[ZEb] at c1 <;> simp
   ·rw[c1] at h;cases h
 ·rename_i d hu
  cases hx;cases ok
  ·cases h
  ·simp only at h
   split at h
   ·rename_i z hz
    cases h;obtain⟨hf,hzr⟩:=ZBV hz;refine⟨.tuple #[z,.bool false],?_,.tup (.cons (VR.of_flat ι hf) (.cons (.bool _) .nil))⟩;simp only[Instr.typeAssert,Sem.run_bind,run_underlying hu,Result.andThen_ok];cases d <;> simp[hzr]
   ·cases h
 ·cases h
noncomputable def ZMb (P:Program)(t:TypeId)(cs:List Value)(o:Nat):Option Value :=
 match P.underlying t with
 | some d =>
  @Bool.casesOn (fun _=>Option Value) (ZDa d) (nth cs o)
   (match tsz P t with
    | some n=>match cut cs o n with|some l=>some (.agg ⟨l⟩)|none=>none
    | none=>none)
 | none=>none
theorem ZHh {t:TypeId}{cs:List Value}{cs':Array Value}{o:Nat}{v:Value}(hc:VRL ι cs cs'.toList)(h:ZMb P t cs o=some v)(w:World):∃v',(part t cs' o).run P w=.ok v' w/\VR ι v v':=by
 unfold ZMb at h
 split at h
 ·rename_i d hu
  cases c:ZDa d
  ·rw[c] at h
   simp only[ZAv] at h;obtain⟨v',h1,h2⟩:=hc.get o v h;exact⟨v',ZG7 hu c (by simpa using h1) w,h2⟩
  ·rw[c] at h
   simp only at h
   split at h
   ·rename_i n hn
    split at h
    ·rename_i l hl
     cases h;obtain⟨hle,rfl⟩:=ZEE hl;refine⟨.agg (cs'.extract o (o+n)),?_,.agg ?_⟩
     ·simp[part,ZDj hu,c,ZAY hn]
     ·have:=(hc.drop o).take n
      rw[Array.toList_extract,List.extract_eq_take_drop,Nat.add_sub_cancel_left];exact this
    ·cases h
   ·cases h
 ·cases h
noncomputable def ZKn (P:Program)(t:TypeId)(x:Value)(f:Nat):Option Value :=
 match P.underlying t,x with
 | some (.struct fields),.agg ⟨cs⟩=>match fields[f]? with
  | some fd=>ZMb P fd.type cs fd.offset
  | none=>none
 | _,_=>none
theorem ZKx {t:TypeId}{x x' v:Value}{f:Nat}(hx:VR ι x x')(h:ZKn P t x f=some v)(w:World):∃v',(Instr.field t x' f).run P w=.ok v' w/\VR ι v v':=by
 unfold ZKn at h
 split at h
 ·rename_i fields cs hu
  split at h
  ·rename_i fd hfd
   cases hx with
   | agg hc =>
    obtain⟨v',h1,h2⟩:=ZHh hc h w;refine⟨v',?_,h2⟩;simp only[Instr.field,Sem.run_bind,run_underlying hu,Result.andThen_ok,hfd,asAgg,Sem.run_pure,h1]
  ·cases h
 ·cases h
noncomputable def ZGf (P:Program)(t:TypeId)(x ix:Value):Option Value :=
 match ZEA ix,P.underlying t,x with
 | some i,some (.array len elem),.agg ⟨cs⟩ =>
  @Bool.casesOn (fun _=>Option Value) (Nat.blt i len) none (match tsz P elem with|some n=>ZMb P elem cs (Nat.mul i n)|none=>none)
 | some i,some .string,.string ⟨⟨s⟩⟩=>match nth s i with
  | some b=>some (.int .u8 (Int.ofNat b.toNat))
  | none=>none
 | _,_,_=>none
theorem ZKX {t:TypeId}{x x' ix ix' v:Value}(hx:VR ι x x')(hix:VR ι ix ix')(h:ZGf P t x ix=some v)(w:World):∃v',(Instr.index t x' ix').run P w=.ok v' w/\VR ι v v':=by
 unfold ZGf at h
 split at h
 ·rename_i i len elem cs hi hu
  obtain⟨k,rfl⟩:=ZDC hi;cases hix
  cases hx with
  | agg hc =>
   cases c:Nat.blt i len
   ·rw[c] at h;cases h
   rw[c] at h;simp only at h
   split at h
   ·rename_i n hn
    have hlt:i<len:=Nat.le_of_ble_eq_true c;obtain⟨v',h1,h2⟩:=ZHh hc h w;refine⟨v',?_,h2⟩;have h1':Sem.run P (part elem _ (i*n)) w=.ok v' w:=h1;simp only[Instr.index,Sem.run_bind,asIntOf,Sem.run_pure,Result.andThen_ok,run_underlying hu];rw[if_pos (by constructor <;> simp only[Int.ofNat_eq_natCast] <;> omega)]
    simp only[Sem.run_bind,ZAY hn,Result.andThen_ok];exact h1'
   ·cases h
 ·rename_i i s hi hu
  obtain⟨k,rfl⟩:=ZDC hi;cases hix;cases hx
  split at h
  ·rename_i b hb
   cases h;rw[ZAv] at hb;refine⟨_,?_,.int _ _⟩;have hlt:=(List.getElem?_eq_some_iff.1 hb).1;have hge:=(List.getElem?_eq_some_iff.1 hb).2;have hbb:(⟨⟨s⟩⟩:ByteArray)[i]?=some b:=by
    rw[getElem?_pos (⟨⟨s⟩⟩:ByteArray) i (by exact hlt)]
    congr 1
   simp only[Instr.index,Sem.run_bind,asIntOf,Sem.run_pure,Result.andThen_ok,run_underlying hu];have h0:(0:Int)<=Int.ofNat i:=by simp only[Int.ofNat_eq_natCast];omega
   simp only[h0,if_true,show (Int.ofNat i).toNat=i from rfl,hbb,Sem.run_pure]
   rfl
  ·cases h
 ·cases h
variable {P:Program} {ι:Iota}
theorem HR.objAt {h:Heap}{w:World}(hr:HR ι h w.heap){b:Nat}{o:AO}{bi:BI}(hg:h.get b=some o)(hi:ι b=some bi):∃o',w.heap[bi.blk]?=some o'/\OR ι bi o o':=by
 obtain⟨bi',o',i1,hw,ho⟩:=hr.obj b _ hg;rw[hi] at i1;cases i1;exact⟨o',hw,ho⟩
theorem HR.lose {h:Heap}{w:World}(hr:HR ι h w.heap){b:Nat}{o:AO}{bi:BI}(hg:h.get b=some o)(hi:ι b=some bi)(w':World)(hsz:w'.heap.size=w.heap.size)(hoth:∀c,c≠bi.blk->w'.heap[c]?=w.heap[c]?)(hos:w'.os=w.os)(hout:w'.output=w.output)(hdr:w'.tape=w.tape/\w.drawn<=w'.drawn:=by first|exact⟨rfl,Nat.le_refl _⟩|simp) :
  HR ι (h.del b) w'.heap/\Adv ι h w ι (h.del b) w':=by
 obtain⟨hd,ad⟩:=hr.del b;have hne:∀c x bi',(h.del b).get c=some x->ι c=some bi'->bi'.blk≠bi.blk:=by
  intro c x bi' hx hi' he;have hcb:c≠b:=by
   intro e;subst e;rw[Heap.get_del_same] at hx;cases hx
  rw[Heap.get_del_other hcb] at hx;exact hcb (hr.inj b c o x bi bi' hg hx hi hi' he.symm).symm
 refine⟨⟨?_,hd.inj,hd.fresh,hd.glo,hd.gn⟩,⟨ad.sub,by omega,?_,fun c hc hlt=>ad.dm c hc hlt,ad.nx,ad.old,ad.gl,hos,hout,fun _=>hdr⟩⟩
 ·intro c x hx
  obtain⟨bi',x',h1,h2,h3⟩:=hd.obj c x hx;exact⟨bi',x',h1,by rw[hoth _ (hne c x bi' hx h1)];exact h2,h3⟩
 ·intro c hc hn
  have:c≠bi.blk:=fun he=>hn ⟨b,o,bi,hg,hi,he.symm⟩;exact hoth c this
noncomputable def aptr (P:Program)(o:Oper)(h:Heap)(e:Env):AR :=
 match o.op with
 | .convert src dst x =>
  match opv h e x,P.underlying src,P.underlying dst with
  | some (.pointer (some ⟨b,off,none⟩)),some (.pointer t),some .unsafePointer =>
   match h.get b,tsz P t with
   | some (.cells vs _ _),some (_+1)=>@Bool.casesOn (fun _=>AR) (Nat.blt off vs.length) .no (.ok (.pointer (some ⟨b,off,none⟩)) h)
   | _,_=>.no
  | some (.pointer (some ⟨b,off,none⟩)),some .unsafePointer,some (.pointer u) =>
   match h.get b,P.info? u with
   | some (.cells vs el false),some _=>@Bool.casesOn (fun _=>AR) (liesAt P P.depth el (Nat.div vs.length (P.cellsOf el)) off u 1) .no (.ok (.pointer (some ⟨b,off,none⟩)) h)
   | _,_=>.no
  | _,_,_=>.no
 | .call c =>
  match c.callee,c.args.toList with
  | .value (.func g),[x] =>
   match P.funcs[g]?,opv h e x with
   | some fn, some v => @Bool.casesOn (fun _ => AR) (fn.body.isNone && (fn.name == "internal/abi.NoEscape" && fn.origin == "")) .no (.ok v h)
   | _,_=>.no
  | _,_=>.no
 | _=>.no
theorem bno {b:Bool}{r:AR}{v:Value}{h:Heap}(hb:@Bool.casesOn (fun _=>AR) b .no r=.ok v h):b=true/\r=.ok v h:=by
 cases b
 ·cases hb
 ·exact⟨rfl,hb⟩
theorem ZQ5 {o:Oper}{h h':Heap}{e:Env}{v:Value}(hs:aptr P o h e=.ok v h'):h'=h:=by
 unfold aptr at hs
 split at hs
 ·split at hs
  ·split at hs
   ·have:=(bno hs).2;cases this;rfl
   ·cases hs
  ·split at hs
   ·have:=(bno hs).2;cases this;rfl
   ·cases hs
  ·cases hs
 ·split at hs
  ·split at hs
   ·have:=(bno hs).2;cases this;rfl
   ·cases hs
  ·cases hs
 ·cases hs
theorem ZJY {fn : Func} (hn : fn.name = "internal/abi.NoEscape") (ho : fn.origin = "") : Extern.findNext fn = none /\ Extern.find fn = some Extern.AbiNoEscape.same := by
 have a1 : Extern.allNextRows.lookup "internal/abi.NoEscape" = none := by kernel_rfl
 have a2 : Extern.allNextRows.lookup "" = none := by kernel_rfl
 have b1 : Extern.allGenericRows.lookup "internal/abi.NoEscape" = none := by kernel_rfl
 have b2 : Extern.allTypedRows.lookup "internal/abi.NoEscape" = none := by kernel_rfl
 have b3 : Extern.allRows.lookup "internal/abi.NoEscape" = some Extern.AbiNoEscape.same := by kernel_rfl
 constructor
 ·unfold Extern.findNext
  simp only[hn,ho,a1,a2]
  rfl
 ·unfold Extern.find
  simp only[hn,ho,b1,b2,b3]
  rfl
theorem ZOm {h h':Heap}{w:World}{e:Env}{a:Act}(hr:HR ι h w.heap)(he:EnvR ι e a.tmps){o:Oper}{v:Value}(hs:aptr P o h e=.ok v h'):OpS P ι h w (execOp a.eval o) v h':=by
 obtain⟨dst,op,ty,pos,after,guard⟩:=o;unfold aptr at hs
 split at hs
 ·rename_i src dt x hop
  simp only at hop;subst hop
  split at hs
  ·rename_i b off t hx hsrc hdst
   split at hs
   ·rename_i vs el op n hg hn
    cases hl:Nat.blt off vs.length
    ·rw[hl] at hs;cases hs
    rw[hl] at hs;cases hs;have hv:=ZAH hr he hx;generalize hz:a.eval x=z at hv
    cases hv with
    | @ptr _ _ bi hb =>
     obtain⟨c,hw,_,hle,_,_⟩:=hr.cellsAt hg hb;obtain⟨j,hj,hj2⟩:∃j,P.info? t=some j/\j.size=n+1:=by
      unfold tsz at hn
      cases hq:P.info? t with
      | none=>rw[hq] at hn;cases hn
      | some j=>rw[hq] at hn;exact⟨j,rfl,Option.some.inj hn⟩
     have hlt:off<vs.length:=Nat.le_of_ble_eq_true hl;have hrun:=Lib.run_to_unsafe (P:=P) w (e:=el) (cells:=c.size) ⟨bi.blk,off,none⟩ hsrc hdst hj (by omega) (by simp[World.shape?,hw]) (by simp only;omega);refine OpS.here hr ?_ (.ptr hb);simp only[execOp,hz,Sem.run_bind,hrun,Result.andThen_ok,Sem.run_pure]
   ·cases hs
  ·rename_i b off u hx hsrc hdst
   split at hs
   ·rename_i vs el j hg hj
    cases hl:liesAt P P.depth el (Nat.div vs.length (P.cellsOf el)) off u 1
    ·rw[hl] at hs;cases hs
    rw[hl] at hs;cases hs;have hv:=ZAH hr he hx;generalize hz:a.eval x=z at hv
    cases hv with
    | @ptr _ _ bi hb =>
     obtain⟨c,hw,_,hle,hop,_⟩:=hr.cellsAt hg hb;have hsz:=hop rfl;have hrun:=Lib.run_from_unsafe (P:=P) w (e:=el) (cells:=c.size) ⟨bi.blk,off,none⟩ hsrc hdst hj (by simp[World.shape?,hw]) (by rw[<-hsz];exact hl);refine OpS.here hr ?_ (.ptr hb);simp only[execOp,hz,Sem.run_bind,hrun,Result.andThen_ok,Sem.run_pure]
   ·cases hs
  ·cases hs
 ·rename_i c hop
  simp only at hop;subst hop;obtain⟨callee,args,ts⟩:=c
  split at hs
  ·rename_i g x hc ha
   simp only at hc ha;subst hc;obtain rfl:args=#[x]:=by cases args;simp at ha;simp[ha]
   split at hs
   ·rename_i fn v1 hf hx
    cases hcond : (fn.body.isNone && (fn.name == "internal/abi.NoEscape" && fn.origin == ""))
    ·rw[hcond] at hs;cases hs
    rw[hcond] at hs;cases hs;simp only[Bool.and_eq_true,beq_iff_eq] at hcond;obtain⟨hb,hn,ho⟩:=hcond;obtain⟨f1,f2⟩:=ZJY hn ho;have hrun:=run_callFunc_extern hf (by rw[hn];decide) hb f1 f2 #[a.eval x] w;refine OpS.here (v':=a.eval x) hr ?_ (ZAH hr he hx);have h3:a.eval (.func g)=.func (.func g) #[] #[]:=rfl;simp only[execOp,resolve,Deferred.ofValue,h3,Sem.run_bind,Sem.run_pure,Result.andThen_ok,invoke];simp only[List.map_toArray,List.map_cons,List.map_nil];have h4:(Extern.AbiNoEscape.same #[a.eval x]).run P w=.ok (a.eval x) w:=rfl;rw[h4] at hrun
    simpa using hrun
   ·cases hs
  ·cases hs
 ·cases hs
noncomputable def ZS7 (P:Program)(t:TypeId)(x y:Value)(h:Heap):Option Bool :=
 match x,y,P.underlying t with
 | .pointer (some ⟨b,o,none⟩),.pointer (some ⟨b2,o2,none⟩),some (.pointer te) =>
  match P.info? te with
  | some j =>
   match Nat.beq b b2 && Nat.beq o o2 with
   | true=>some true
   | false =>
    match Nat.beq j.size 0,h.get b,h.get b2 with
    | false,some (.cells _ _ _),some (.cells _ _ _)=>some false
    | _,_,_=>none
  | none=>none
 | _,_,_=>none
noncomputable def ZMV (P:Program)(op:BinOp)(t:TypeId)(x y:Value)(h:Heap):Option Value :=
 match op with
 | .eql=>match ZS7 P t x y h with|some b=>some (.bool b)|none=>none
 | .neq=>match ZS7 P t x y h with|some b=>some (.bool (not b))|none=>none
 | _=>none
theorem ZH5 {h:Heap}{w:World}(hr:HR ι h w.heap){t:TypeId}{x y x' y':Value}{b:Bool}(hx:VR ι x x')(hy:VR ι y y')(hs:ZS7 P t x y h=some b) :
  (∃a c,x'=.pointer (some a)/\y'=.pointer (some c))/\(Op.equal t x' y').run P w=.ok b w:=by
 unfold ZS7 at hs
 split at hs
 case h_2=>cases hs
 rename_i b1 o1 b2 o2 te hu
 split at hs
 case h_2=>cases hs
 rename_i j hj
 cases hx with
 | @ptr _ _ bi hb =>
  cases hy with
  | @ptr _ _ bi2 hb2 =>
   refine⟨⟨_,_,rfl,rfl⟩,?_⟩
   split at hs
   ·rename_i hq
    cases hs;simp only[Bool.and_eq_true] at hq;obtain rfl:=Nat.eq_of_beq_eq_true hq.1;obtain rfl:=Nat.eq_of_beq_eq_true hq.2;rw[hb] at hb2;cases hb2
    have hq2:∀d:Nat,(Op.equalIn (d+1) t (.pointer (some ⟨bi.blk,o1,none⟩)) (.pointer (some ⟨bi.blk,o1,none⟩))).run P w=.ok true w:=fun d=>by
     simp[Op.equalIn,Go.run_underlying hu,sizeOf,typeInfo,hj,run_sameAddr_same]
    exact hq2 9999
   ·rename_i hq
    split at hs
    ·rename_i c1 e1 p1 c2 e2 p2 hsz hg1 hg2
     cases hs;obtain⟨c,hc,_⟩:=hr.cellsAt hg1 hb;obtain⟨c',hc',_⟩:=hr.cellsAt hg2 hb2;have hne:(⟨bi.blk,o1,none⟩:Addr)≠⟨bi2.blk,o2,none⟩:=by
      intro e;simp only[Addr.mk.injEq,and_true] at e;obtain⟨e1',rfl⟩:=e;have hbb:=hr.inj b1 b2 _ _ bi bi2 hg1 hg2 hb hb2 e1';subst hbb;rw[Nat.beq_refl,Nat.beq_refl] at hq;cases hq
     have hsz':j.size≠0:=fun e=>by
      rw[e] at hsz;cases hsz
     have hq2:∀d:Nat,(Op.equalIn (d+1) t (.pointer (some ⟨bi.blk,o1,none⟩)) (.pointer (some ⟨bi2.blk,o2,none⟩))).run P w=.ok false w:=fun d=>by
      simp[Op.equalIn,Go.run_underlying hu,sizeOf,typeInfo,hj,hsz',run_sameAddr_other w hne hc hc']
     exact hq2 9999
    ·cases hs
theorem ZJq {h:Heap}{w:World}(hr:HR ι h w.heap){op:BinOp}{t:TypeId}{x y x' y' v:Value}(hx:VR ι x x')(hy:VR ι y y')(hs:ZMV P op t x y h=some v)(ox oy:Operand) :
  (do eqGuard op t ox oy x' y';binOp op t x' y':Sem Value).run P w=.ok v w/\flat v=true:=by
 unfold ZMV at hs
 split at hs
 ·split at hs
  ·rename_i b he
   cases hs;obtain⟨⟨a,c,rfl,rfl⟩,hq⟩:=ZH5 hr hx hy he;refine⟨?_,rfl⟩;have h1:eqGuard .eql t ox oy (.pointer (some a)) (.pointer (some c))=pure ():=rfl;rw[h1];simp only[binOp,Sem.run_bind,Sem.run_pure,Result.andThen_ok,hq]
  ·cases hs
 ·split at hs
  ·rename_i b he
   cases hs;obtain⟨⟨a,c,rfl,rfl⟩,hq⟩:=ZH5 hr hx hy he;refine⟨?_,rfl⟩;have h1:eqGuard .neq t ox oy (.pointer (some a)) (.pointer (some c))=pure ():=rfl;rw[h1];simp only[binOp,Sem.run_bind,Sem.run_pure,Result.andThen_ok,hq]
  ·cases hs
 ·cases hs
noncomputable def ZL3 (P:Program)(o:Oper)(h:Heap)(e:Env):AR :=
 match ZIC P o h e with
 | .ok v h'=>.ok v h'
 | .no=>aptr P o h e
theorem ZHY {h h':Heap}{w:World}{e:Env}{a:Act}(hr:HR ι h w.heap)(he:EnvR ι e a.tmps){o:Oper}{v:Value}(hs:ZL3 P o h e=.ok v h'):OpS P ι h w (execOp a.eval o) v h':=by
 unfold ZL3 at hs
 split at hs
 ·rename_i v1 h1 hq
  cases hs;exact ZBz hr he hq
 ·exact ZOm hr he hs
noncomputable def ZGQ (x:Value):Option Value :=
 match x with
 | .slice none _ _=>some (.pointer none)
 | .slice (some ⟨_,_,some 0⟩) _ _=>none
 | .slice (some ⟨b,o,_⟩) _ (_+1)=>some (.pointer (some ⟨b,o,none⟩))
 | _=>none
theorem ZG0 {w:World}{argTypes:Array TypeId}{args':Array Value}{ty:TypeId}{x x' v:Value}(a0:args'=#[x'])(hx:VR ι x x')(hs:ZGQ x=some v) :
  ∃v',(Builtin.unsafeSliceData_ argTypes ty args').run P w=.ok v' w/\VR ι v v':=by
 subst a0;unfold ZGQ at hs
 split at hs
 ·cases hs;cases hx
  exact⟨.pointer none,Lib.run_unsafeSliceData_nil w _ _ _ _,.of_flat ι rfl⟩
 ·cases hs
 ·rename_i b o sp l c hsp
  cases hs
  cases hx with
  | sl hb=>exact⟨_,Lib.run_unsafeSliceData_row w _ _ _ _ _ (Nat.succ_ne_zero _),.ptr hb⟩
  | slo hb _ hle=>exact⟨_,Lib.run_unsafeSliceData_row w _ _ _ _ _ (by omega),.ptr hb⟩
 ·cases hs
noncomputable def ZNS (v:Value):Option UInt8 :=
 match v with
 | .int .u8 (.ofNat n)=>@Bool.casesOn (fun _=>Option UInt8) (Nat.blt n 256) none (some (UInt8.ofNat n))
 | _=>none
theorem ZQY {v:Value}{x:UInt8}(h:ZNS v=some x):v=.int .u8 x.toNat:=by
 unfold ZNS at h
 split at h
 ·rename_i n
  cases hq:Nat.blt n 256
  ·rw[hq] at h;cases h
  ·rw[hq] at h
   cases h;have hlt:n<256:=Nat.le_of_ble_eq_true hq;have:(UInt8.ofNat n).toNat=n:=by rw[UInt8.toNat_ofNat'];omega
   rw[this];rfl
 ·cases h
noncomputable def ZND (l:List Value):Option (List UInt8):=@List.rec Value (fun _=>Option (List UInt8)) (some []) (fun v _ ih=>match ZNS v,ih with|some x,some r=>some (x::r)|_,_=>none) l
theorem ZI4:∀{l:List Value}{r:List UInt8},ZND l=some r->l=r.map fun x=>Value.int .u8 x.toNat
 | [],r,h=>by cases h;rfl
 | v::l,r,h=>by
  change (match ZNS v,ZND l with|some x,some r=>some (x::r)|_,_=>none)=some r at h
  split at h
  ·rename_i x r' h1 h2
   cases h;rw[List.map_cons,<-ZI4 h2,ZQY h1]
  ·cases h
noncomputable def ZDr (P:Program)(pt:TypeId)(p n:Value)(h:Heap):AR :=
 match p,n,P.underlying pt with
 | .pointer _,.int .i64 (.ofNat 0),_=>.ok (.string ⟨⟨[]⟩⟩) h
 | .pointer (some ⟨b,0,none⟩),.int .i64 (.ofNat (k+1)),some (.pointer el) =>
  match h.get b with
  | some (.cells vs e _) =>
   @Bool.casesOn (fun _=>AR) (Nat.beq e el) .no (@Bool.casesOn (fun _=>AR) (Nat.beq (P.cellsOf el) 1) .no (@Bool.casesOn (fun _=>AR) (Nat.ble (k+1) 9223372036854775807) .no
    (match cut vs 0 (k+1) with
     | some l=>match ZND l with|some bs=>.ok (.string ⟨⟨bs⟩⟩) (h.del b)|none=>.no
     | none=>.no)))
  | _=>.no
 | _,_,_=>.no
theorem ZE3 {h h':Heap}{w:World}(hr:HR ι h w.heap){pt it ty:TypeId}{p p' n n' v:Value}(hp:VR ι p p')(hn:VR ι n n')(hs:ZDr P pt p n h=.ok v h') :
  ∃w',(Builtin.unsafeString_ #[pt,it] ty #[p',n']).run P w=.ok v w'/\flat v=true/\HR ι h' w'.heap/\Adv ι h w ι h' w':=by
 unfold ZDr at hs
 split at hs
 ·rename_i q _
  cases hs;cases hn;obtain⟨q',rfl⟩:∃q',p'=.pointer q':=by cases hp <;> exact⟨_,rfl⟩
  exact⟨w,Lib.run_unsafeString_none w _ _ _ _,rfl,hr,.refl _ _ _⟩
 ·rename_i b k el hu
  split at hs
  ·rename_i vs e op hg
   cases c1:Nat.beq e el
   ·rw[c1] at hs;cases hs
   rw[c1] at hs;cases c2:Nat.beq (P.cellsOf el) 1
   ·rw[c2] at hs;cases hs
   rw[c2] at hs;cases c3:Nat.ble (k+1) 9223372036854775807
   ·rw[c3] at hs;cases hs
   rw[c3] at hs;simp only at hs
   split at hs
   ·rename_i l hcut
    split at hs
    ·rename_i bs hbs
     cases hs;obtain rfl:=Nat.eq_of_beq_eq_true c1;have hc1:=Nat.eq_of_beq_eq_true c2;have hk:=Nat.le_of_ble_eq_true c3;cases hn
     cases hp with
     | @ptr _ _ bi hb =>
      obtain⟨c,hw,_,hle,_,hvs⟩:=hr.cellsAt hg hb;obtain⟨hcl,rfl⟩:=ZEE hcut;have hbs':=ZI4 hbs;have hlen:bs.length=k+1:=by
       have:=congrArg List.length hbs';simp only[List.drop_zero,List.length_take,List.length_map] at this;omega
      have hcell:∀(j:Nat) (x:UInt8),bs[j]?=some x->w.cell? ((⟨bi.blk,0,none⟩:Addr).add j)=some (.int .u8 x.toNat):=by
       intro j x hj;rw[ZBu,cell?_of_block hw,Nat.zero_add];have hjk:j<k+1:=by rw[<-hlen];exact (List.getElem?_eq_some_iff.1 hj).1
       have:vs[j]?=some (.int .u8 x.toNat):=by
        have h1:((vs.drop 0).take (k+1))[j]?=some (.int .u8 x.toNat):=by rw[hbs',List.getElem?_map,hj];rfl
        rw[List.drop_zero,List.getElem?_take,if_pos hjk] at h1;exact h1
       obtain⟨v',h1,h2⟩:=hvs.get_take this;cases h2;exact h1
      have hrun:=Lib.run_unsafeString_row (P:=P) w pt it ty e hu hc1 bi.blk c.size (by simp[World.shape?,hw]) bs (by intro hq;rw[hq] at hlen;cases hlen) (by omega) (by omega) hcell;rw[hlen] at hrun;refine⟨w.freeze ⟨bi.blk,0,none⟩ (k+1),hrun,rfl,?_⟩;have hfz:(w.freeze ⟨bi.blk,0,none⟩ (k+1)).heap.size=w.heap.size/\(∀c,c≠bi.blk->(w.freeze ⟨bi.blk,0,none⟩ (k+1)).heap[c]?=w.heap[c]?)/\(w.freeze ⟨bi.blk,0,none⟩ (k+1)).os=w.os/\(w.freeze ⟨bi.blk,0,none⟩ (k+1)).output=w.output:=by
       unfold World.freeze;rw[if_neg (Nat.succ_ne_zero _)];refine⟨by simp,fun c hc=>?_,rfl,rfl⟩;simp only[Array.getElem?_modify];rw[if_neg (fun e=>hc e.symm)]
      exact hr.lose hg hb _ hfz.1 hfz.2.1 hfz.2.2.1 hfz.2.2.2
    ·cases hs
   ·cases hs
  ·cases hs
 ·cases hs
noncomputable def ZI3 (P:Program)(t:TypeId)(x:Value)(h:Heap):Option Heap :=
 match P.underlying t,x with
 | some (.slice _),.slice none _ _=>some h
 | some (.slice _),.slice _ 0 _=>some h
 | some (.slice _),.slice (some ⟨_,_,some 0⟩) _ _=>none
 | some (.slice el),.slice (some ⟨b,o,_⟩) n _ =>
  match ZA9 P el,h.get b with
  | some z,some (.cells vs e op) =>
   @Bool.casesOn (fun _=>Option Heap) (Nat.blt 0 z.cells.toList.length) none
    (@Bool.casesOn (fun _=>Option Heap) (allOne (rep n z.cells.toList)) none
     (match lay vs o (rep n z.cells.toList) with
      | some r=>some (h.set b (.cells r e op))
      | none=>none))
  | _,_=>none
 | _,_=>none
theorem ZLE {h h':Heap}{w:World}(hr:HR ι h w.heap){argTypes:Array TypeId}{args':Array Value}{ty t:TypeId}{x x':Value}(h0:argTypes[0]?=some t)(a0:args'[0]?=some x')(hx:VR ι x x')(hs:ZI3 P t x h=some h') :
  ∃w',(Builtin.clear_ argTypes ty args').run P w=.ok (.tuple #[]) w'/\HR ι h' w'.heap/\Adv ι h w ι h' w':=by
 unfold ZI3 at hs
 split at hs
 ·rename_i el l c hu
  cases hs;cases hx;exact⟨w,by simp only[Builtin.clear_,h0,a0,Sem.run_bind,run_underlying hu,Result.andThen_ok,Sem.run_pure],hr,.refl _ _ _⟩
 ·rename_i el base c hnot hu
  cases hs;have hd':∃base' c',x'=.slice base' 0 c':=by
   generalize hv:Value.slice base 0 c=y at hx
   cases hx with
   | sl0=>simp only[Value.slice.injEq] at hv;obtain⟨_,rfl,_⟩:=hv;exact⟨_,_,rfl⟩
   | sl _=>simp only[Value.slice.injEq] at hv;obtain⟨_,rfl,_⟩:=hv;exact⟨_,_,rfl⟩
   | slo _ _ _=>simp only[Value.slice.injEq] at hv;obtain⟨_,rfl,_⟩:=hv;exact⟨_,_,rfl⟩
   | sle=>simp only[Value.slice.injEq] at hv;exact⟨_,_,rfl⟩
   | _=>cases hv
  obtain⟨base',c',rfl⟩:=hd';refine⟨w,?_,hr,.refl _ _ _⟩;cases base' <;> simp only[Builtin.clear_,h0,a0,Sem.run_bind,run_underlying hu,Result.andThen_ok,Sem.run_pure]
 ·cases hs
 ·rename_i el b o sp n c hn0 hsp hu
  split at hs
  ·rename_i z vs e op hz hg
   cases c1:Nat.blt 0 z.cells.toList.length
   ·rw[c1] at hs;cases hs
   rw[c1] at hs;cases c2:allOne (rep n z.cells.toList)
   ·rw[c2] at hs;cases hs
   rw[c2] at hs;simp only at hs
   split at hs
   ·rename_i r hlay
    cases hs;obtain⟨hf,hzr⟩:=ZBV hz;have hpos:0<z.cells.size:=by
     have:=Nat.le_of_ble_eq_true c1;simp at this;omega
    obtain⟨bi,c',hb,rfl⟩:∃bi c',ι b=some bi/\x'=.slice (some ⟨bi.blk,o,none⟩) n c':=by
     cases hx with
     | @sl _ _ _ _ bi hb=>exact⟨bi,_,hb,rfl⟩
     | @slo _ _ _ _ c' bi hb _ _=>exact⟨bi,c',hb,rfl⟩
     | sle=>exact (hsp rfl).elim
    have hl:VRL ι (rep n z.cells.toList) (rep n z.cells.toList):=VRL.of_flat ι (ZFx n _ (ZEm hf));obtain⟨w',e1,e2,e3⟩:=hr.lay (P:=P) hg hb hl c2 hlay;have hzc:Builtin.zeroCells z.cells n=(rep n z.cells.toList).toArray:=ZI6 n z.cells hpos;refine⟨w',?_,e2,e3⟩
    obtain⟨n',rfl⟩:∃n',n=n'+1:=by cases n with
     | zero=>exact (hn0 rfl).elim
     | succ n=>exact⟨n,rfl⟩
    simp only[Builtin.clear_,h0,a0,Sem.run_bind,run_underlying hu,Result.andThen_ok,hzr,hzc,List.toList_toArray,e1,Sem.run_pure]
   ·cases hs
  ·cases hs
 ·cases hs
noncomputable def ZIk (P:Program)(h:Heap)(e:Env)(t:TypeId)(x:Operand):AR :=
 match P.underlying t,opv h e x with
 | some .string,some (.string s)=>.ok (.pointer (some ⟨h.nx,0,none⟩)) (h.add (.siter s 0))
 | _,_=>.no
noncomputable def ZLC (h:Heap)(e:Env)(x:Operand)(isString:Bool):AR :=
 match isString,opv h e x with
 | true,some (.pointer (some ⟨b,0,none⟩)) =>
  match h.get b with
  | some (.siter s pos) =>
   @Bool.casesOn (fun _=>AR) (Nat.blt pos s.data.toList.length) (.ok (.tuple ⟨[.bool false]⟩) h)
    (match Utf8.decode s pos with
     | (c,width)=>.ok (.tuple ⟨[.bool true,.int .i64 (Int.ofNat pos),.int .i32 (Int.ofNat c)]⟩) (h.set b (.siter s (Nat.add pos width))))
  | _=>.no
 | _,_=>.no
theorem ZLY {h h':Heap}{w:World}{e:Env}{a:Act}(hr:HR ι h w.heap)(he:EnvR ι e a.tmps){t:TypeId}{x:Operand}{v:Value}(hs:ZIk P h e t x=.ok v h') :
  ∃ι' v' w',(Instr.range t (a.eval x)).run P w=.ok v' w'/\VR ι' v v'/\HR ι' h' w'.heap/\Adv ι h w ι' h' w':=by
 unfold ZIk at hs
 split at hs
 ·rename_i s hu hx
  cases hs;have hvx:=(ZAH hr he hx).flat_eq rfl
  let bi:BI:=⟨w.heap.size,0,0⟩
  have:=hr.add (o:=.siter s 0) (o':=.stringIter s 0) (bi:=bi) rfl (by simp only[OR];exact⟨trivial,trivial⟩)
  refine⟨_,.pointer (some ⟨w.heap.size,0,none⟩),{ w with heap:=w.heap.push (.stringIter s 0) },?_,?_,this.1,this.2⟩
  ·rw[hvx]
   simp[Instr.range,run_underlying hu]
  ·have h1:upd ι h.nx bi h.nx=some bi:=upd_same _ _ _
   exact VR.ptr (o:=0) h1
 ·cases hs
theorem HR.siterAt {h:Heap}{w:World}(hr:HR ι h w.heap){b pos:Nat}{s:ByteArray}{bi:BI}(hg:h.get b=some (.siter s pos))(hi:ι b=some bi):w.heap[bi.blk]?=some (.stringIter s pos):=by
 obtain⟨o',hw,ho⟩:=hr.objAt hg hi;cases o' <;> simp only[OR] at ho
 obtain⟨rfl,rfl⟩:=ho;exact hw
theorem ZM4 {h h':Heap}{w:World}{e:Env}{a:Act}(hr:HR ι h w.heap)(he:EnvR ι e a.tmps){x:Operand}{isString:Bool}{ty:TypeId}{v:Value}(hs:ZLC h e x isString=.ok v h') :
  ∃w',(Instr.next (a.eval x) isString ty).run P w=.ok v w'/\flat v=true/\HR ι h' w'.heap/\Adv ι h w ι h' w':=by
 unfold ZLC at hs
 split at hs
 ·rename_i b hx
  split at hs
  ·rename_i s pos hg
   have hv:=ZAH hr he hx;generalize hz:a.eval x=z at hv
   cases hv with
   | @ptr _ _ bi hb =>
    have hw:=hr.siterAt hg hb;have hget:(getObj bi.blk).run P w=.ok (.stringIter s pos) w:=by simp[getObj,Sem.run,hw]
    have hsz:s.size=s.data.toList.length:=Array.length_toList.symm;cases hl:Nat.blt pos s.data.toList.length
    ·rw[hl] at hs
     cases hs
     have hnot:¬pos<s.size:=fun hlt=>by
      have:Nat.blt pos s.data.toList.length=true:=by rw[Nat.blt_eq,<-hsz];exact hlt
      rw[hl] at this;cases this
     refine⟨w,?_,rfl,hr,.refl _ _ _⟩;simp only[Instr.next,Sem.run_bind,hget,Result.andThen_ok,if_neg hnot,Sem.run_pure]
    ·rw[hl] at hs
     have hlt:pos<s.size:=by rw[hsz];exact Nat.le_of_ble_eq_true hl
     simp only at hs;generalize hd:Utf8.decode s pos=cw at hs;obtain⟨c,width⟩:=cw;cases hs;have hset:=hr.set (o2:=.siter s (Nat.add pos width)) (o2':=.stringIter s (Nat.add pos width)) hg hb (by simp only[OR];exact⟨trivial,trivial⟩)
     have hrun:(setObj bi.blk (.stringIter s (pos+width))).run P w=.ok () { w with heap:=w.heap.setIfInBounds bi.blk (.stringIter s (pos+width)) }:=by simp[setObj,Sem.run,hw]
     refine⟨_,?_,rfl,hset.1,hset.2⟩;simp only[Instr.next,Sem.run_bind,hget,Result.andThen_ok,if_pos hlt,hd,hrun,Sem.run_pure]
     rfl
  ·cases hs
 ·cases hs
variable {P:Program} {ι:Iota}
noncomputable def opvl (h:Heap)(e:Env)(l:List Operand):Option (List Value) :=
 @List.rec Operand (fun _=>Option (List Value)) (some []) (fun x _ ih=>match opv h e x,ih with|some v,some r=>some (v::r)|_,_=>none) l
theorem ZDg {h:Heap}{hp:Array Obj}{e:Env}{a:Act}(hr:HR ι h hp)(he:EnvR ι e a.tmps):∀{l:List Operand}{r:List Value},opvl h e l=some r->VRL ι r (l.map a.eval):=by
 intro l
 induction l with
 | nil=>intro r hs;cases hs;exact .nil
 | cons x l ih =>
  intro r hs
  change (match opv h e x,opvl h e l with|some v,some r=>some (v::r)|_,_=>none)=some r at hs
  split at hs
  ·rename_i v r' h1 h2
   cases hs;exact .cons (ZAH hr he h1) (ih h2)
  ·cases hs
noncomputable def opvo (h:Heap)(e:Env)(x:Option Operand):Option (Option Value) :=
 match x with
 | none=>some none
 | some y=>match opv h e y with
  | some v=>some (some v)
  | none=>none
theorem ZGJ {h:Heap}{hp:Array Obj}{e:Env}{a:Act}(hr:HR ι h hp)(he:EnvR ι e a.tmps){x:Option Operand}{r:Option Value}(hs:opvo h e x=some r):OVR ι r (x.map a.eval):=by
 unfold opvo at hs
 split at hs
 ·cases hs;exact .none
 ·split at hs
  ·rename_i v hv;cases hs;exact .some (ZAH hr he hv)
  ·cases hs
noncomputable def rdc (h:Heap)(b o n:Nat):Option (List Value) :=
 match h.get b with
 | some (.cells vs _ _)=>cut vs o n
 | some (.ro lim ob)=>rdo lim ob o n
 | _=>none
theorem HR.rdc {h:Heap}{w:World}(hr:HR ι h w.heap){b o n:Nat}{l:List Value}{bi:BI}(hi:ι b=some bi)(hs:rdc h b o n=some l) :
  ∃c e fz,w.heap[bi.blk]?=some (.cells c e fz)/\o+n<=c.size/\VRL ι l ((c.toList.drop o).take n):=by
 unfold Dx.rdc at hs
 split at hs
 ·rename_i vs e op hg
  obtain⟨hle,rfl⟩:=ZEE hs;obtain⟨c,hc,_,hlec,_,hvs⟩:=hr.cellsAt hg hi;refine⟨c,_,_,hc,by omega,?_⟩;have:=(hvs.drop o).take n;rw[List.drop_take,List.take_take,Nat.min_eq_left (by omega)] at this;exact this
 ·rename_i lim ob hg
  obtain⟨c,e,fz,hw,hle,hvr⟩:=hr.rdo hg hi hs;exact⟨c,e,fz,hw,hle,hvr⟩
 ·cases hs
noncomputable def ZTr (P:Program)(dType:TypeId)(d x:Value)(h:Heap):AR :=
 match P.underlying dType with
 | some (.slice elem) =>
  match tsz P elem,d,x with
  | some _,.slice (some ⟨_,_,some 0⟩) _ _,_=>.no
  | some _,_,.slice (some ⟨_,_,some 0⟩) _ _=>.no
  | some size,.slice (some ⟨b,o,_⟩) dLen _,.slice (some ⟨b2,o2,_⟩) xLen _ =>
   match h.get b with
   | some (.cells vs e op) =>
    match rdc h b2 o2 (Nat.mul (Nat.min xLen dLen) size) with
    | some l =>
     @Bool.casesOn (fun _=>AR) (allOne l) .no
      (match lay vs o l with
       | some r=>.ok (.int .i64 (Int.ofNat (Nat.min xLen dLen))) (h.set b (.cells r e op))
       | none=>.no)
    | none=>.no
   | _=>.no
  | some _,.slice _ dLen _,.slice none 0 _=>.ok (.int .i64 (Int.ofNat 0)) h
  | _,_,_=>.no
 | _=>.no
theorem ZMq {h h':Heap}{w:World}(hr:HR ι h w.heap){argTypes:Array TypeId}{args':Array Value}{ty dType:TypeId}{d d' x x' v:Value}(h0:argTypes[0]?=some dType)(a0:args'[0]?=some d')(a1:args'[1]?=some x')
  (hd:VR ι d d') (hx:VR ι x x') (hs:ZTr P dType d x h=.ok v h') :
  ∃v' w',(Builtin.copy_ argTypes ty args').run P w=.ok v' w'/\VR ι v v'/\HR ι h' w'.heap/\Adv ι h w ι h' w':=by
 unfold ZTr at hs
 split at hs
 case h_2=>cases hs
 rename_i elem hu
 split at hs
 ·cases hs
 ·cases hs
 ·rename_i size b o sp dLen dCap b2 o2 sp2 xLen xCap hsp0 hsp2 hn
  split at hs
  case h_2=>cases hs
  rename_i vs e op hg
  split at hs
  case h_2=>cases hs
  rename_i l hcut;cases c1:allOne l
  ·rw[c1] at hs;cases hs
  rw[c1] at hs;simp only at hs
  split at hs
  case h_2=>cases hs
  rename_i r hlay;simp only[AR.ok.injEq] at hs;obtain⟨rfl,rfl⟩:=hs;obtain⟨bi,dCap',hb,rfl⟩:∃bi c',ι b=some bi/\d'=.slice (some ⟨bi.blk,o,none⟩) dLen c':=by
   cases hd with
   | @sl _ _ _ _ bi hb=>exact⟨bi,_,hb,rfl⟩
   | @slo _ _ _ _ c' bi hb _ _=>exact⟨bi,c',hb,rfl⟩
   | sle=>exact (hsp0 rfl).elim
  obtain⟨bi2,xCap',hb2,rfl⟩:∃bi c',ι b2=some bi/\x'=.slice (some ⟨bi.blk,o2,none⟩) xLen c':=by
   cases hx with
   | @sl _ _ _ _ bi hb=>exact⟨bi,_,hb,rfl⟩
   | @slo _ _ _ _ c' bi hb _ _=>exact⟨bi,c',hb,rfl⟩
   | sle=>exact (hsp2 rfl).elim
  obtain⟨c,_,_,hc,hlec,hl⟩:=hr.rdc hb2 hcut
  change o2+Nat.min xLen dLen*size<=c.size at hlec
  change VRL ι l ((c.toList.drop o2).take (Nat.min xLen dLen*size)) at hl
  have hload:=ZA3 (P:=P) (n:=Nat.min xLen dLen*size) hc hlec;obtain⟨w',e1,e2,e3⟩:=hr.lay (P:=P) hg hb hl c1 hlay;refine⟨goInt (Nat.min xLen dLen:Nat),w',?_,.int _ _,e2,e3⟩;simp only[Builtin.copy_,h0,a0,a1,Sem.run_bind,run_underlying hu,Result.andThen_ok,Builtin.lenOf,Sem.run_pure,ZAY hn,Builtin.firstCells,hload,List.toList_toArray,e1]
 ·rename_i size0 base dLen dCap xCap hn
  simp only[AR.ok.injEq] at hs;obtain⟨rfl,rfl⟩:=hs;cases hx;have hmin:∀q,Nat.min 0 q=0:=fun q=>Nat.zero_min q;have hd':∃base' l' c',d'=.slice base' l' c':=by
   cases hd with
   | sl0=>exact⟨_,_,_,rfl⟩
   | sl=>exact⟨_,_,_,rfl⟩
   | slo=>exact⟨_,_,_,rfl⟩
   | sle=>exact⟨_,_,_,rfl⟩
  obtain⟨base',l',c',rfl⟩:=hd';refine⟨goInt 0,w,?_,.int _ _,hr,.refl _ _ _⟩;simp only[Builtin.copy_,h0,a0,a1,Sem.run_bind,run_underlying hu,Result.andThen_ok,Builtin.lenOf,Sem.run_pure,ZAY hn,Builtin.firstCells,hmin];cases base' <;> simp[storeCells,goInt]
 ·cases hs
noncomputable def alen (t:Option TypeDesc)(x:Value)(h:Heap):Option Value :=
 match t,x with
 | some .string,.string ⟨⟨s⟩⟩=>some (.int .i64 (Int.ofNat s.length))
 | some (.slice _),.slice _ n _=>some (.int .i64 (Int.ofNat n))
 | some (.map _ _),.map none=>some (.int .i64 (Int.ofNat 0))
 | some (.map _ _),.map (some b)=>match h.get b with
  | some (.map es _)=>some (.int .i64 (Int.ofNat es.length))
  | _=>none
 | _,_=>none
theorem ZOC {h:Heap}{w:World}(hr:HR ι h w.heap){argTypes:Array TypeId}{args':Array Value}{ty t:TypeId}{x x' v:Value}(h0:argTypes[0]?=some t)(a0:args'[0]?=some x')(hx:VR ι x x')
  (hs:alen (P.underlying t) x h=some v):(Builtin.len_ argTypes ty args').run P w=.ok v w/\flat v=true:=by
 unfold alen at hs
 split at hs
 ·rename_i s hu
  cases hs;cases hx;refine⟨?_,rfl⟩;simp only[Builtin.len_,h0,a0,Sem.run_bind,run_underlying hu,Result.andThen_ok,Sem.run_pure]
  rfl
 ·rename_i e base n c hu
  cases hs;refine⟨?_,rfl⟩;cases hx <;> simp only[Builtin.len_,h0,a0,Sem.run_bind,run_underlying hu,Result.andThen_ok,Sem.run_pure] <;> rfl
 ·rename_i k e hu
  cases hs;cases hx;refine⟨?_,rfl⟩;simp only[Builtin.len_,h0,a0,Sem.run_bind,run_underlying hu,Result.andThen_ok,Sem.run_pure]
  rfl
 ·rename_i k e b hu
  split at hs
  ·rename_i es clock hg
   cases hs
   cases hx with
   | @map _ bi hb =>
    obtain⟨es',hw,hmer⟩:=hr.mapAt hg hb;refine⟨?_,rfl⟩;have hlen:es'.size=es.length:=by rw[<-hmer.length];exact Array.length_toList.symm
    simp only[Builtin.len_,h0,a0,Sem.run_bind,run_underlying hu,Result.andThen_ok,ZBi hw,Sem.run_pure,hlen]
    rfl
  ·cases hs
 ·cases hs
noncomputable def acap (t:Option TypeDesc)(x:Value):Option Value :=
 match t,x with
 | some (.slice _),.slice none _ c=>some (.int .i64 (Int.ofNat c))
 | some (.slice _),.slice (some ⟨_,_,none⟩) _ c=>some (.int .i64 (Int.ofNat c))
 | _,_=>none
theorem ZOO {w:World}{argTypes:Array TypeId}{args':Array Value}{ty t:TypeId}{x x' v:Value}(h0:argTypes[0]?=some t)(a0:args'[0]?=some x')(hx:VR ι x x')
  (hs:acap (P.underlying t) x=some v):(Builtin.cap_ argTypes ty args').run P w=.ok v w/\flat v=true:=by
 unfold acap at hs
 split at hs
 ·rename_i e n c hu
  cases hs;cases hx;refine⟨?_,rfl⟩;simp only[Builtin.cap_,h0,a0,Sem.run_bind,run_underlying hu,Result.andThen_ok,Sem.run_pure]
  rfl
 ·rename_i e b o n c hu
  cases hs;cases hx;refine⟨?_,rfl⟩;simp only[Builtin.cap_,h0,a0,Sem.run_bind,run_underlying hu,Result.andThen_ok,Sem.run_pure]
  rfl
 ·cases hs
noncomputable def ZCC (P:Program)(o:Oper)(b:Builtin)(args:List Operand)(argTypes:List TypeId)(h:Heap)(e:Env):AR :=
 match b,args,argTypes with
 | .len,[x],t::_=>match opv h e x with
  | some v=>match alen (P.underlying t) v h with|some r=>.ok r h|none=>.no
  | none=>.no
 | .cap,[x],t::_=>match opv h e x with
  | some v=>match acap (P.underlying t) v with|some r=>.ok r h|none=>.no
  | none=>.no
 | .append,[s,x],t::t2::_=>match opv h e s,opv h e x with
  | some s,some x=>ZCX P t t2 s x h
  | _,_=>.no
 | .copy,[s,x],t::_=>match opv h e s,opv h e x with
  | some s,some x=>ZTr P t s x h
  | _,_=>.no
 | .delete,[m,k],t::_=>match opv h e m,opv h e k with
  | some m,some k=>match ZEH P t m k h with|some h'=>.ok (.tuple ⟨[]⟩) h'|none=>.no
  | _,_=>.no
 | .max,_,_=>ZIC P o h e
 | .min,_,_=>ZIC P o h e
 | .clear,[x],t::_=>match opv h e x with
  | some v=>match ZI3 P t v h with|some h'=>.ok (.tuple ⟨[]⟩) h'|none=>.no
  | none=>.no
 | .unsafeSliceData,[x],_=>match opv h e x with
  | some v=>match ZGQ v with|some r=>.ok r h|none=>.no
  | none=>.no
 | .unsafeString,[p,n],[t,_]=>match opv h e p,opv h e n with
  | some p,some n=>ZDr P t p n h
  | _,_=>.no
 | _,_,_=>.no
theorem ZD3 {α:Type}{a:Array α}{x:α}{l:List α}(h:a.toList=x::l):a[0]?=some x:=by obtain⟨a⟩:=a;simp only at h;subst h;rfl
theorem ZJj {α:Type}{a:Array α}{x y:α}{l:List α}(h:a.toList=x::y::l):a[1]?=some y:=by obtain⟨a⟩:=a;simp only at h;subst h;rfl
theorem ZIc {h h':Heap}{w:World}{e:Env}{a:Act}(hr:HR ι h w.heap)(he:EnvR ι e a.tmps){o:Oper}{c:Call}{b:Builtin}{v:Value}(ho:o.op=.call c)(hc:c.callee=.builtin b)
  (hs:ZCC P o b c.args.toList c.argTypes.toList h e=.ok v h'):OpS P ι h w (execOp a.eval o) v h':=by
 have hex:∀r,(builtin b c.argTypes o.type (c.args.map fun|.const _=>true|_=>false) (c.args.map a.eval)).run P w=r->(execOp a.eval o).run P w=r:=by
  intro r hrr;unfold execOp;rw[ho];simp only[resolve,hc,Sem.run_bind,Sem.run_pure,Result.andThen_ok,invoke];exact hrr
 unfold ZCC at hs
 split at hs
 ·rename_i x t tl ha ht
  split at hs
  ·rename_i v1 hv1
   split at hs
   ·rename_i r hr1
    simp only[AR.ok.injEq] at hs;obtain⟨rfl,rfl⟩:=hs;have hx:=ZAH hr he hv1;obtain⟨g1,g2⟩:=ZOC (P:=P) hr (ty:=o.type) (ZD3 ht) (args':=c.args.map a.eval) (ZD3 (l:=[]) (by simp[ha])) hx hr1;refine OpS.here hr (hex _ ?_) (VR.of_flat ι g2);simp only[builtin,Sem.run_bind,g1,Result.andThen_ok,Sem.run_pure]
   ·cases hs
  ·cases hs
 ·rename_i x t tl ha ht
  split at hs
  ·rename_i v1 hv1
   split at hs
   ·rename_i r hr1
    simp only[AR.ok.injEq] at hs;obtain⟨rfl,rfl⟩:=hs;have hx:=ZAH hr he hv1;obtain⟨g1,g2⟩:=ZOO (P:=P) (w:=w) (ty:=o.type) (ZD3 ht) (args':=c.args.map a.eval) (ZD3 (l:=[]) (by simp[ha])) hx hr1;refine OpS.here hr (hex _ ?_) (VR.of_flat ι g2);simp only[builtin,Sem.run_bind,g1,Result.andThen_ok,Sem.run_pure]
   ·cases hs
  ·cases hs
 ·rename_i s x t t2 tl ha ht
  split at hs
  ·rename_i s1 x1 hs1 hx1
   obtain⟨ι',v',w',g1,g2,g3,g4⟩:=ZKK (P:=P) hr (ty:=o.type) (args':=c.args.map a.eval) (ZD3 ht) (ZJj ht) (ZD3 (l:=[a.eval x]) (by simp[ha])) (ZJj (l:=[]) (x:=a.eval s) (by simp[ha])) (ZAH hr he hs1) (ZAH hr he hx1) hs;refine⟨ι',v',w',.inl (hex _ ?_),g2,g3,g4⟩;simp only[builtin,Sem.run_bind,g1,Result.andThen_ok,Sem.run_pure]
  ·cases hs
 ·rename_i s x t tl ha ht
  split at hs
  ·rename_i s1 x1 hs1 hx1
   obtain⟨v',w',g1,g2,g3,g4⟩:=ZMq (P:=P) hr (ty:=o.type) (args':=c.args.map a.eval) (ZD3 ht) (ZD3 (l:=[a.eval x]) (by simp[ha])) (ZJj (l:=[]) (x:=a.eval s) (by simp[ha])) (ZAH hr he hs1) (ZAH hr he hx1) hs;refine⟨ι,v',w',.inl (hex _ ?_),g2,g3,g4⟩;simp only[builtin,Sem.run_bind,g1,Result.andThen_ok,Sem.run_pure]
  ·cases hs
 ·rename_i m k t tl ha ht
  split at hs
  ·rename_i m1 k1 hm1 hk1
   split at hs
   ·rename_i h1 hd
    simp only[AR.ok.injEq] at hs;obtain⟨rfl,rfl⟩:=hs;obtain⟨w',g1,g2,g3⟩:=ZJe (P:=P) hr (ty:=o.type) (args':=c.args.map a.eval) (ZD3 ht) (ZD3 (l:=[a.eval k]) (by simp[ha])) (ZJj (l:=[]) (x:=a.eval m) (by simp[ha])) (ZAH hr he hm1) (ZAH hr he hk1) hd;refine⟨ι,_,w',.inl (hex _ ?_),.tup .nil,g2,g3⟩;simp only[builtin,Sem.run_bind,g1,Result.andThen_ok,Sem.run_pure]
   ·cases hs
  ·cases hs
 ·exact ZBz hr he hs
 ·exact ZBz hr he hs
 ·rename_i x t tl ha ht
  split at hs
  ·rename_i v1 hv1
   split at hs
   ·rename_i h1 hd
    simp only[AR.ok.injEq] at hs;obtain⟨rfl,rfl⟩:=hs;obtain⟨w',g1,g2,g3⟩:=ZLE (P:=P) hr (ty:=o.type) (args':=c.args.map a.eval) (ZD3 ht) (ZD3 (l:=[]) (by simp[ha])) (ZAH hr he hv1) hd;refine⟨ι,_,w',.inl (hex _ ?_),.tup .nil,g2,g3⟩;simp only[builtin,Sem.run_bind,g1,Result.andThen_ok,Sem.run_pure]
   ·cases hs
  ·cases hs
 ·rename_i ts x ha
  split at hs
  ·rename_i v1 hv1
   split at hs
   ·rename_i r hr1
    simp only[AR.ok.injEq] at hs;obtain⟨rfl,rfl⟩:=hs;have hargs:c.args.map a.eval=#[a.eval x]:=by
     apply Array.ext';simp[ha]
    obtain⟨v',g1,g2⟩:=ZG0 (P:=P) (w:=w) (argTypes:=c.argTypes) (ty:=o.type) hargs (ZAH hr he hv1) hr1;refine OpS.here hr (hex _ ?_) g2;simp only[builtin,Sem.run_bind,g1,Result.andThen_ok,Sem.run_pure]
   ·cases hs
  ·cases hs
 ·rename_i p n t t2 ha ht
  split at hs
  ·rename_i p1 n1 hp1 hn1
   have hargs:c.args.map a.eval=#[a.eval p,a.eval n]:=by
    apply Array.ext';simp[ha]
   have hts:c.argTypes=#[t,t2]:=by
    apply Array.ext';simp[ht]
   obtain⟨w',g1,g2,g3,g4⟩:=ZE3 (P:=P) hr (it:=t2) (ty:=o.type) (ZAH hr he hp1) (ZAH hr he hn1) hs;refine⟨ι,_,w',.inl (hex _ ?_),VR.of_flat ι g2,g3,g4⟩;rw[hargs,hts];simp only[builtin,Sem.run_bind,g1,Result.andThen_ok,Sem.run_pure]
  ·cases hs
 ·cases hs
variable {P:Program} {ι:Iota}
noncomputable def ZEt (h:Heap)(e:Env)(x:Operand):AR:=match opv h e x with|some v=>.ok v h|none=>.no
noncomputable def ZKw (h:Heap)(e:Env)(c a b:Operand):AR :=
 match opv h e c with
 | some (.bool true)=>ZEt h e a
 | some (.bool false)=>ZEt h e b
 | _=>.no
noncomputable def pBox (h:Heap)(e:Env)(t:TypeId)(x:Operand):AR:=match opv h e x with|some v=>abox t v h|none=>.no
noncomputable def ZGk (P:Program)(h:Heap)(e:Env)(t:TypeId)(ps:Array (Nat×Operand)):AR :=
 match opvs h e ps.toList with
 | some l=>match ZLX P t l with|some v=>.ok v h|none=>.no
 | none=>.no
noncomputable def ZCk (P:Program)(h:Heap)(e:Env)(t:TypeId)(n:Nat)(ps:Array (Nat×Operand)):AR :=
 match opvs h e ps.toList with
 | some l=>ZC1 P t n l h
 | none=>.no
noncomputable def ZKm (P:Program)(h:Heap)(e:Env)(t:TypeId)(x:Operand):AR :=
 match opv h e x with
 | some p=>match ZFI P t p h with|some v=>.ok v h|none=>.no
 | none=>.no
noncomputable def ZLp (P:Program)(h:Heap)(e:Env)(t:TypeId)(x y:Operand):AR :=
 match opv h e x,opv h e y with
 | some p,some v=>match ZNs P t p v h with|some h'=>.ok (.tuple ⟨[]⟩) h'|none=>.no
 | _,_=>.no
noncomputable def pNil (h:Heap)(e:Env)(x:Operand):AR :=
 match opv h e x with
 | some (.pointer (some a))=>.ok (.pointer (some a)) h
 | _=>.no
noncomputable def pBin (P:Program)(o:Oper)(h:Heap)(e:Env)(op:BinOp)(t:TypeId)(x y:Operand):AR :=
 match opv h e x,opv h e y with
 | some (.int .i64 a),some (.int .i64 b)=>match iop op a b with|some v=>.ok v h|none=>ZIC P o h e
 | some a,some b=>match ZF9 P op t a b with|some v=>.ok v h|none=>match ZMV P op t a b h with|some v=>.ok v h|none=>ZIC P o h e
 | _,_=>.no
noncomputable def pUn (P:Program)(o:Oper)(h:Heap)(e:Env)(op:UnOp)(x:Operand):AR :=
 match op,opv h e x with
 | .not,some (.bool b)=>.ok (.bool (not b)) h
 | _,_=>ZIC P o h e
noncomputable def ZI0 (P:Program)(h:Heap)(e:Env)(t:TypeId)(x:Operand):AR :=
 match opv h e x with
 | some v=>match ZBq P t v with|some r=>.ok r h|none=>.no
 | none=>.no
noncomputable def ZOi (h:Heap)(e:Env)(fn:Fn)(first captured:Array Operand):AR :=
 match fn,opvl h e first.toList,opvl h e captured.toList with
 | .func f,some a,some b=>.ok (.func (.func f) ⟨a⟩ ⟨b⟩) h
 | _,_,_=>.no
noncomputable def pMap (h:Heap)(r:Option Operand):AR :=
 match r with
 | none=>.ok (.map (some h.nx)) (h.add (.map [] 0))
 | some _=>.no
noncomputable def ZO8 (P:Program)(h:Heap)(e:Env)(t:TypeId)(l c:Operand):AR :=
 match opv h e l,opv h e c with
 | some l,some c=>ZDO P t l c h
 | _,_=>.no
noncomputable def ZDB (P:Program)(o:Oper)(h:Heap)(e:Env)(t:TypeId)(x:Operand)(lo hi mx:Option Operand):AR :=
 match opv h e x,opvo h e lo,opvo h e hi,opvo h e mx with
 | some v,some lo,some hi,some mx=>match ZCY P t v lo hi mx with|some r=>.ok r h|none=>ZIC P o h e
 | _,_,_,_=>.no
noncomputable def ZCi (P:Program)(h:Heap)(e:Env)(t:TypeId)(x:Operand)(f:Nat):AR :=
 match opv h e x with
 | some p=>match ZEe P t p f with|some v=>.ok v h|none=>.no
 | none=>.no
noncomputable def ZJK (P:Program)(h:Heap)(e:Env)(t:TypeId)(x:Operand)(f:Nat):AR :=
 match opv h e x with
 | some p=>match ZKn P t p f with|some v=>.ok v h|none=>.no
 | none=>.no
noncomputable def ZB2 (P:Program)(h:Heap)(e:Env)(t:TypeId)(x i:Operand):AR :=
 match opv h e x,opv h e i with
 | some p,some i=>match ZCJ P t p i with|some v=>.ok v h|none=>.no
 | _,_=>.no
noncomputable def ZGn (P:Program)(h:Heap)(e:Env)(t:TypeId)(x i:Operand):AR :=
 match opv h e x,opv h e i with
 | some p,some i=>match ZGf P t p i with|some v=>.ok v h|none=>.no
 | _,_=>.no
noncomputable def ZEG (P:Program)(h:Heap)(e:Env)(t:TypeId)(x k:Operand)(ok:Bool):AR :=
 match opv h e x,opv h e k with
 | some m,some k=>match ZEz P t m k ok h with|some v=>.ok v h|none=>.no
 | _,_=>.no
noncomputable def ZBk (P:Program)(h:Heap)(e:Env)(t:TypeId)(m k v:Operand):AR :=
 match opv h e m,opv h e k,opv h e v with
 | some m,some k,some v=>match ZBh P t m k v h with|some h'=>.ok (.tuple ⟨[]⟩) h'|none=>.no
 | _,_,_=>.no
noncomputable def ZQb (P:Program)(h:Heap)(e:Env)(t:TypeId)(m k:Operand):AR :=
 match opv h e m,opv h e k with
 | some m,some k=>ZH3 P t m k h
 | _,_=>.no
noncomputable def ZFC (h:Heap)(e:Env)(m s v:Operand):AR :=
 match opv h e m,opv h e s,opv h e v with
 | some m,some s,some v=>match ZFE m s v h with|some h'=>.ok (.tuple ⟨[]⟩) h'|none=>.no
 | _,_,_=>.no
noncomputable def ZGH (P:Program)(h:Heap)(e:Env)(x:Operand)(asserted:TypeId)(ok:Bool):AR :=
 match opv h e x with
 | some v=>match ZCp P v asserted ok with|some r=>.ok r h|none=>.no
 | none=>.no
noncomputable def ZEl (h:Heap)(e:Env)(x:Operand)(i:Nat):AR :=
 match opv h e x with
 | some (.tuple ⟨l⟩)=>match nth l i with|some v=>.ok v h|none=>.no
 | _=>.no
noncomputable def ZEo (P:Program)(o:Oper)(h:Heap)(e:Env)(c:Call):AR :=
 match c.callee with
 | .builtin b=>ZCC P o b c.args.toList c.argTypes.toList h e
 | _=>.no
noncomputable def aop (P:Program)(o:Oper)(h:Heap)(e:Env):AR :=
 match o.op with
 | .move x=>ZEt h e x
 | .assign x=>ZEt h e x
 | .pick c a b=>ZKw h e c a b
 | .alloc t=>ZJL P t h
 | .box t x=>pBox h e t x
 | .build t ps=>ZGk P h e t ps
 | .buildSlice t n ps=>ZCk P h e t n ps
 | .insert t m k v=>ZBk P h e t m k v
 | .load t x=>ZKm P h e t x
 | .store t x y=>ZLp P h e t x y
 | .nilCheck x=>pNil h e x
 | .binOp op t x y _=>pBin P o h e op t x y
 | .unOp op _ x=>pUn P o h e op x
 | .convert _ _ _=>ZL3 P o h e
 | .makeInterface t x=>ZI0 P h e t x
 | .makeFunc fn first captured=>ZOi h e fn first captured
 | .makeMap _ r=>pMap h r
 | .makeSlice t l c=>ZO8 P h e t l c
 | .slice t x lo hi mx=>ZDB P o h e t x lo hi mx
 | .fieldAddr t x f=>ZCi P h e t x f
 | .field t x f=>ZJK P h e t x f
 | .indexAddr t x i=>ZB2 P h e t x i
 | .index t x i=>ZGn P h e t x i
 | .lookup t x k ok=>ZEG P h e t x k ok
 | .mapUpdate t m k v=>ZBk P h e t m k v
 | .mapEntry t m k=>ZQb P h e t m k
 | .entryStore _ m s v=>ZFC h e m s v
 | .typeAssert x _ asserted ok=>ZGH P h e x asserted ok
 | .extract x i=>ZEl h e x i
 | .call c=>ZEo P o h e c
 | .range t x=>ZIk P h e t x
 | .next x isString=>ZLC h e x isString
 | _=>.no
section
variable {h h':Heap}{w:World}{e:Env}{a:Act}
theorem ZDz (hr:HR ι h w.heap)(he:EnvR ι e a.tmps){x:Operand}{v:Value}(hs:ZEt h e x=.ok v h'):h'=h/\VR ι v (a.eval x):=by
 unfold ZEt at hs
 split at hs
 ·rename_i v1 hv;cases hs;exact⟨rfl,ZAH hr he hv⟩
 ·cases hs
set_option maxHeartbeats 800000 in
theorem ZEJ (hr:HR ι h w.heap)(he:EnvR ι e a.tmps){o:Oper}{v:Value}(hs:aop P o h e=.ok v h'):OpS P ι h w (execOp a.eval o) v h':=by
 obtain⟨dst,op,ty,pos,after,guard⟩:=o;unfold aop at hs
 cases op with
 | move x=>obtain⟨rfl,hv⟩:=ZDz hr he hs;exact OpS.here hr rfl hv
 | assign x=>obtain⟨rfl,hv⟩:=ZDz hr he hs;exact OpS.here hr rfl hv
 | pick c x y =>
  simp only[ZKw] at hs
  split at hs
  ·rename_i hc
   obtain⟨rfl,hv⟩:=ZDz hr he hs;have:=ZAH hr he hc;refine OpS.here (v':=a.eval x) hr ?_ hv;generalize hz:a.eval c=z at this;cases this;simp[execOp,hz,asBool]
  ·rename_i hc
   obtain⟨rfl,hv⟩:=ZDz hr he hs;have:=ZAH hr he hc;refine OpS.here (v':=a.eval y) hr ?_ hv;generalize hz:a.eval c=z at this;cases this;simp[execOp,hz,asBool]
  ·cases hs
 | alloc t =>
  obtain⟨ι',r',w',g1,g2,g3,g4⟩:=ZKp (P:=P) hr hs;exact⟨ι',r',w',.inl (by simp only[execOp,Sem.run_bind,g1,Result.andThen_ok,Sem.run_pure]),g2,g3,g4⟩
 | box t x =>
  simp only[pBox] at hs
  split at hs
  ·rename_i v1 hv
   obtain⟨ι',r',g1,g2,g3,g4⟩:=ZJG (P:=P) hr (ZAH hr he hv) hs
   exact⟨ι',r',{ w with heap:=w.heap.push (.cells (a.eval x).cells t) },.inl (by simp only[execOp,Sem.run_bind,g1,Result.andThen_ok,Sem.run_pure]),g2,g3,g4⟩
  ·cases hs
 | build t ps =>
  simp only[ZGk] at hs
  split at hs
  ·rename_i l hl
   split at hs
   ·rename_i r hb
    simp only[AR.ok.injEq] at hs;obtain⟨rfl,rfl⟩:=hs;obtain⟨v',g1,g2⟩:=ZLo (P:=P) (ps':=ps.map fun p=>(p.1,a.eval p.2)) (by simpa using ZF1 hr he hl) hb w;exact OpS.here hr (by simp only[execOp,Sem.run_bind,g1,Result.andThen_ok,Sem.run_pure]) g2
   ·cases hs
  ·cases hs
 | buildSlice t n ps =>
  simp only[ZCk] at hs
  split at hs
  ·rename_i l hl
   obtain⟨ι',v',w',g1,g2,g3,g4⟩:=ZGD (P:=P) hr (ps':=ps.map fun p=>(p.1,a.eval p.2)) (by simpa using ZF1 hr he hl) hs;exact⟨ι',v',w',.inl (by simp only[execOp,Sem.run_bind,g1,Result.andThen_ok,Sem.run_pure]),g2,g3,g4⟩
  ·cases hs
 | insert t m k x =>
  simp only[ZBk] at hs
  split at hs
  ·rename_i m1 k1 x1 hm hk hx
   split at hs
   ·rename_i h1 hu
    simp only[AR.ok.injEq] at hs;obtain⟨rfl,rfl⟩:=hs;obtain⟨w',g1,g2,g3⟩:=ZD5 (P:=P) hr (ZAH hr he hm) (ZAH hr he hk) (ZAH hr he hx) hu;exact⟨ι,undef,w',.inr ⟨by simp only[execOp,Sem.run_bind,g1,Result.andThen_ok,Sem.run_pure],rfl⟩,.tup .nil,g2,g3⟩
   ·cases hs
  ·cases hs
 | load t x =>
  simp only[ZKm] at hs
  split at hs
  ·rename_i p hp
   split at hs
   ·rename_i r hl
    simp only[AR.ok.injEq] at hs;obtain⟨rfl,rfl⟩:=hs;obtain⟨v',g1,g2⟩:=ZHd (P:=P) hr (ZAH hr he hp) hl;exact OpS.here hr (by simp only[execOp,Sem.run_bind,g1,Result.andThen_ok,Sem.run_pure]) g2
   ·cases hs
  ·cases hs
 | store t x y =>
  simp only[ZLp] at hs
  split at hs
  ·rename_i p v1 hp hv
   split at hs
   ·rename_i h1 hl
    simp only[AR.ok.injEq] at hs;obtain⟨rfl,rfl⟩:=hs;obtain⟨w',g1,g2,g3⟩:=ZKl (P:=P) hr (ZAH hr he hp) (ZAH hr he hv) hl;exact⟨ι,undef,w',.inr ⟨by simp only[execOp,Sem.run_bind,g1,Result.andThen_ok,Sem.run_pure],rfl⟩,.tup .nil,g2,g3⟩
   ·cases hs
  ·cases hs
 | nilCheck x =>
  simp only[pNil] at hs
  split at hs
  ·rename_i ad hx
   simp only[AR.ok.injEq] at hs;obtain⟨rfl,rfl⟩:=hs;have hv:=ZAH hr he hx;refine OpS.here (v':=a.eval x) hr ?_ hv;generalize hz:a.eval x=z at hv;cases hv;simp[execOp,hz]
  ·cases hs
 | binOp op t x y ty2 =>
  simp only[pBin] at hs
  split at hs
  ·rename_i m n hx hy
   split at hs
   ·rename_i r hi
    simp only[AR.ok.injEq] at hs;obtain⟨rfl,rfl⟩:=hs;have hvx:=(ZAH hr he hx).flat_eq rfl;have hvy:=(ZAH hr he hy).flat_eq rfl;have hfl:flat r=true:=by
     unfold iop at hi
     split at hi <;> first|(cases hi;rfl)|(split at hi <;> cases hi;rfl)|cases hi
    refine OpS.here hr ?_ (VR.of_flat ι hfl);have:=ZQ0 (P:=P) hi t x y w;simp only[Sem.run_bind] at this;simp only[execOp,Sem.run_bind,hvx,hvy,this,Result.andThen_ok,Sem.run_pure]
   ·exact ZBz hr he hs
  ·rename_i a1 b1 _ hx hy
   split at hs
   ·rename_i r hi
    simp only[AR.ok.injEq] at hs;obtain⟨rfl,rfl⟩:=hs;have hfl:flat r=true:=by
     unfold ZF9 at hi
     split at hi
     ·split at hi
      ·split at hi <;> cases hi <;> rfl
      ·cases hi
     ·cases hi
    have:=ZJ7 (P:=P) (ZAH hr he hx) (ZAH hr he hy) hi x y w;refine OpS.here hr ?_ (VR.of_flat ι hfl);simp only[Sem.run_bind] at this;simp only[execOp,Sem.run_bind,this,Result.andThen_ok,Sem.run_pure]
   ·split at hs
    ·rename_i r hi
     simp only[AR.ok.injEq] at hs;obtain⟨rfl,rfl⟩:=hs;obtain⟨this,hfl⟩:=ZJq (P:=P) hr (ZAH hr he hx) (ZAH hr he hy) hi x y;refine OpS.here hr ?_ (VR.of_flat ι hfl);simp only[Sem.run_bind] at this;simp only[execOp,Sem.run_bind,this,Result.andThen_ok,Sem.run_pure]
    ·exact ZBz hr he hs
  ·cases hs
 | unOp op t x =>
  simp only[pUn] at hs
  split at hs
  ·rename_i b hx
   simp only[AR.ok.injEq] at hs;obtain⟨rfl,rfl⟩:=hs;have hvx:=(ZAH hr he hx).flat_eq rfl;refine OpS.here hr ?_ (.bool _);simp[execOp,hvx,Op.unary]
  ·exact ZBz hr he hs
 | convert s d x=>exact ZHY hr he hs
 | makeInterface t x =>
  simp only[ZI0] at hs
  split at hs
  ·rename_i v1 hv
   split at hs
   ·rename_i r hi
    simp only[AR.ok.injEq] at hs;obtain⟨rfl,rfl⟩:=hs;obtain⟨v',g1,g2⟩:=ZEr (P:=P) (ZAH hr he hv) hi w;exact OpS.here hr (by simp only[execOp,Sem.run_bind,g1,Result.andThen_ok,Sem.run_pure]) g2
   ·cases hs
  ·cases hs
 | makeFunc fn first captured =>
  simp only[ZOi] at hs
  split at hs
  ·rename_i f l1 l2 h1 h2
   simp only[AR.ok.injEq] at hs;obtain⟨rfl,rfl⟩:=hs;refine OpS.here hr ?_ (.fn f (a':=first.map a.eval) (b':=captured.map a.eval) (by simpa using ZDg hr he h1) (by simpa using ZDg hr he h2));simp only[execOp,Instr.makeFunc,Sem.run_bind,Result.andThen_ok,Sem.run_pure]
  ·cases hs
 | makeMap t r =>
  simp only[pMap] at hs
  split at hs
  ··simp only[AR.ok.injEq] at hs
    obtain⟨rfl,rfl⟩:=hs
    let bi:BI:=⟨w.heap.size,0,0⟩
    have:=hr.add (o:=.map [] 0) (o':=.map #[] 0) (bi:=bi) rfl (by simp only[OR];exact⟨trivial,.nil⟩)
    refine⟨_,.map (some w.heap.size),{ w with heap:=w.heap.push (.map #[] 0) },.inl ?_,?_,this.1,this.2⟩
    ·simp[execOp,Instr.makeMap]
    ·have h1:upd ι h.nx bi h.nx=some bi:=upd_same _ _ _
     exact VR.map h1
  ·cases hs
 | makeSlice t l c =>
  simp only[ZO8] at hs
  split at hs
  ·rename_i l1 c1 hl hc
   obtain⟨ι',v',w',g1,g2,g3,g4⟩:=ZG2 (P:=P) hr (ZAH hr he hl) (ZAH hr he hc) hs;exact⟨ι',v',w',.inl (by simp only[execOp,Sem.run_bind,g1,Result.andThen_ok,Sem.run_pure]),g2,g3,g4⟩
  ·cases hs
 | slice t x lo hi mx =>
  simp only[ZDB] at hs
  split at hs
  ·rename_i v1 lo1 hi1 mx1 hv hlo hhi hmx
   split at hs
   ·rename_i r hsl
    simp only[AR.ok.injEq] at hs;obtain⟨rfl,rfl⟩:=hs;obtain⟨v',g1,g2⟩:=ZLw (P:=P) (ZAH hr he hv) (ZGJ hr he hlo) (ZGJ hr he hhi) (ZGJ hr he hmx) hsl w;exact OpS.here hr (by simp only[execOp,Sem.run_bind,g1,Result.andThen_ok,Sem.run_pure]) g2
   ·exact ZBz hr he hs
  ·cases hs
 | fieldAddr t x f =>
  simp only[ZCi] at hs
  split at hs
  ·rename_i p hp
   split at hs
   ·rename_i r hl
    simp only[AR.ok.injEq] at hs;obtain⟨rfl,rfl⟩:=hs;obtain⟨v',g1,g2⟩:=ZGz (P:=P) (ZAH hr he hp) hl w;exact OpS.here hr (by simp only[execOp,Sem.run_bind,g1,Result.andThen_ok,Sem.run_pure]) g2
   ·cases hs
  ·cases hs
 | field t x f =>
  simp only[ZJK] at hs
  split at hs
  ·rename_i p hp
   split at hs
   ·rename_i r hl
    simp only[AR.ok.injEq] at hs;obtain⟨rfl,rfl⟩:=hs;obtain⟨v',g1,g2⟩:=ZKx (P:=P) (ZAH hr he hp) hl w;exact OpS.here hr (by simp only[execOp,Sem.run_bind,g1,Result.andThen_ok,Sem.run_pure]) g2
   ·cases hs
  ·cases hs
 | indexAddr t x i =>
  simp only[ZB2] at hs
  split at hs
  ·rename_i p i1 hp hi
   split at hs
   ·rename_i r hl
    simp only[AR.ok.injEq] at hs;obtain⟨rfl,rfl⟩:=hs;obtain⟨v',g1,g2⟩:=ZGx (P:=P) (ZAH hr he hp) (ZAH hr he hi) hl w;exact OpS.here hr (by simp only[execOp,Sem.run_bind,g1,Result.andThen_ok,Sem.run_pure]) g2
   ·cases hs
  ·cases hs
 | index t x i =>
  simp only[ZGn] at hs
  split at hs
  ·rename_i p i1 hp hi
   split at hs
   ·rename_i r hl
    simp only[AR.ok.injEq] at hs;obtain⟨rfl,rfl⟩:=hs;obtain⟨v',g1,g2⟩:=ZKX (P:=P) (ZAH hr he hp) (ZAH hr he hi) hl w;exact OpS.here hr (by simp only[execOp,Sem.run_bind,g1,Result.andThen_ok,Sem.run_pure]) g2
   ·cases hs
  ·cases hs
 | lookup t x k ok =>
  simp only[ZEG] at hs
  split at hs
  ·rename_i m1 k1 hm hk
   split at hs
   ·rename_i r hl
    simp only[AR.ok.injEq] at hs;obtain⟨rfl,rfl⟩:=hs;obtain⟨v',g1,g2⟩:=ZJg (P:=P) hr (ZAH hr he hm) (ZAH hr he hk) hl;exact OpS.here hr (by simp only[execOp,Sem.run_bind,g1,Result.andThen_ok,Sem.run_pure]) g2
   ·cases hs
  ·cases hs
 | mapUpdate t m k x =>
  simp only[ZBk] at hs
  split at hs
  ·rename_i m1 k1 x1 hm hk hx
   split at hs
   ·rename_i h1 hu
    simp only[AR.ok.injEq] at hs;obtain⟨rfl,rfl⟩:=hs;obtain⟨w',g1,g2,g3⟩:=ZD5 (P:=P) hr (ZAH hr he hm) (ZAH hr he hk) (ZAH hr he hx) hu;exact⟨ι,undef,w',.inr ⟨by simp only[execOp,Sem.run_bind,g1,Result.andThen_ok,Sem.run_pure],rfl⟩,.tup .nil,g2,g3⟩
   ·cases hs
  ·cases hs
 | mapEntry t m k =>
  simp only[ZQb] at hs
  split at hs
  ·rename_i m1 k1 hm hk
   obtain⟨v',w',g1,g2,g3,g4⟩:=ZHz (P:=P) hr (ZAH hr he hm) (ZAH hr he hk) hs;exact⟨ι,v',w',.inl (by simp only[execOp,Sem.run_bind,g1,Result.andThen_ok,Sem.run_pure]),g2,g3,g4⟩
  ·cases hs
 | entryStore t m s x =>
  simp only[ZFC] at hs
  split at hs
  ·rename_i m1 s1 x1 hm hs1 hx
   split at hs
   ·rename_i h1 hu
    simp only[AR.ok.injEq] at hs;obtain⟨rfl,rfl⟩:=hs;obtain⟨w',g1,g2,g3⟩:=ZGA (P:=P) (t:=t) hr (ZAH hr he hm) (ZAH hr he hs1) (ZAH hr he hx) hu;exact⟨ι,undef,w',.inr ⟨by simp only[execOp,Sem.run_bind,g1,Result.andThen_ok,Sem.run_pure],rfl⟩,.tup .nil,g2,g3⟩
   ·cases hs
  ·cases hs
 | typeAssert x t asserted ok =>
  simp only[ZGH] at hs
  split at hs
  ·rename_i v1 hv
   split at hs
   ·rename_i r hi
    simp only[AR.ok.injEq] at hs;obtain⟨rfl,rfl⟩:=hs;obtain⟨v',g1,g2⟩:=ZGR (P:=P) (xType:=t) (ZAH hr he hv) hi w;exact OpS.here hr (by simp only[execOp,Sem.run_bind,g1,Result.andThen_ok,Sem.run_pure]) g2
   ·cases hs
  ·cases hs
 | extract x i =>
  simp only[ZEl] at hs
  split at hs
  ·rename_i l hx
   split at hs
   ·rename_i r hl
    simp only[AR.ok.injEq] at hs;obtain⟨rfl,rfl⟩:=hs;rw[ZAv] at hl;have hv:=ZAH hr he hx;generalize hz:a.eval x=z at hv
    cases hv with
    | tup hl2 =>
     obtain⟨v',g1,g2⟩:=hl2.get i _ hl;refine OpS.here (v':=v') hr ?_ g2;have g1':∀(arr:Array Value),arr.toList[i]?=some v'->arr[i]?=some v':=fun arr h=>by simpa using h
     simp only[execOp,hz,Instr.extract,g1' _ g1,Sem.run_bind,Sem.run_pure,Result.andThen_ok]
   ·cases hs
  ·cases hs
 | call c =>
  simp only[ZEo] at hs
  split at hs
  ·rename_i b hc
   exact ZIc hr he rfl hc hs
  ·cases hs
 | range t x =>
  obtain⟨ι',v',w',g1,g2,g3,g4⟩:=ZLY (P:=P) hr he hs;exact⟨ι',v',w',.inl (by simp only[execOp,Sem.run_bind,g1,Result.andThen_ok,Sem.run_pure]),g2,g3,g4⟩
 | next x isString =>
  obtain⟨w',g1,g2,g3,g4⟩:=ZM4 (P:=P) hr he (ty:=ty) hs;exact⟨ι,v,w',.inl (by simp only[execOp,Sem.run_bind,g1,Result.andThen_ok,Sem.run_pure]),VR.of_flat ι g2,g3,g4⟩
 | _=>cases hs
end
variable (P:Program)(V:Nat->Nat->Bool)
inductive ZDK where
 | normal
 | exit (id:Nat)
 | goto (l:Nat)
 | ret
 | pan (v:Value)
inductive ADef where
 | coll (r:Nat)
 | fn (f:FuncId) (args cap:List Value)
structure Fr where
 fn:FuncId
 nt:Nat
 rd:Option Nat
inductive CR where
 | ok (x:ZDK) (e:Env) (ds:List ADef) (h:Heap)
 | no
inductive VS where
 | ret (v:Value) (h:Heap)
 | pan (v:Value) (h:Heap)
 | no
structure Ev where
 code:Fr->Code->Env->List ADef->Heap->CR
 call:FuncId->List Value->Heap->VS
 n:Nat
noncomputable def setL (d:Nat)(v:Value)(l:List (Nat×Value)):List (Nat×Value) :=
 @List.rec (Nat×Value) (fun _=>List (Nat×Value)) [(d,v)] (fun p l ih=>@Bool.casesOn (fun _=>List (Nat×Value)) (Nat.beq p.1 d) (p::ih) ((d,v)::l)) l
noncomputable def putE (fn:FuncId)(d:Nat)(v:Value)(e:Env):Env :=
 @Bool.casesOn (fun _=>Env) (V fn d) ⟨(d,v)::e.te,e.va⟩ ⟨e.te,setL d v e.va⟩
noncomputable def put (fr:Fr)(o:Oper)(v:Value)(e:Env):Option Env :=
 match o.dst with
 | none=>some e
 | some d=>@Bool.casesOn (fun _=>Option Env) (Nat.blt d fr.nt) none (some (putE V fr.fn d v e))
noncomputable def gd (ops:List Oper)(o:Oper)(e:Env):Option Bool :=
 match o.guard with
 | none=>some true
 | some (j,want) =>
  match nth ops j with
  | some oj=>match oj.dst with
   | some d=>match lk d e with
    | some (.bool b)=>some (b == want)
    | some _=>some false
    | none=>none
   | none=>some false
  | none=>some false
noncomputable def ZAp (g:FuncId):Bool :=
 match P.funcs[g]? with
 | some fn => fn.body.isSome && !(fn.name == "runtime.NumGoroutine")
 | none=>false
inductive Tgt where
 | fn (g:FuncId) (args:List Value)
 | yield (l:Nat) (args:List Value)
 | no
noncomputable def ZDX (h:Heap)(e:Env)(c:Call):Tgt :=
 match c.callee with
 | .value f =>
  match opv h e f,opvl h e c.args.toList with
  | some (.func (.func g) ⟨first⟩ ⟨cap⟩),some args=>@Bool.casesOn (fun _=>Tgt) (ZAp P g) .no (.fn g (first++(args++cap)))
  | some (.func (.yield l) ⟨[]⟩ ⟨[]⟩),some args=>.yield l args
  | _,_=>.no
 | _=>.no
def ZCR:Callee->Bool
 | .builtin _=>true
 | _=>false
noncomputable def zipP (fr:Fr):List Tmp->List Value->Env->Option Env
 | [],[],e=>some e
 | p::ps,a::asq,e=>@Bool.casesOn (fun _=>Option Env) (Nat.blt p fr.nt) none (zipP fr ps asq (putE V fr.fn p a e))
 | _,_,_=>none
def ZNQ:ZDK->Option (Option Code)
 | .normal=>some none
 | .ret=>some (some .ret)
 | .exit id=>some (some (.exit id))
 | .goto l=>some (some (.goto l))
 | .pan _=>none
noncomputable def eiOk (fn:FuncId)(e:Env):Bool:=e.te.isEmpty && e.va.all fun p=>V fn p.1
noncomputable def ZJN (ev:Ev)(l:Nat)(args:List Value)(h:Heap):VS :=
 match h.get l with
 | some (.loop .ready pend fn nt env params assign body defers) =>
  match (@Bool.casesOn (fun _=>Option Env) (eiOk V fn env) none (zipP V ⟨fn,nt,some l⟩ params.toList args env)) with
  | some e0 =>
   match ev.code ⟨fn,nt,some l⟩ assign e0 [] h with
   | .ok .normal e1 [] h1 =>
    match h1.get l with
    | some (.loop .ready pend1 fn1 nt1 env1 params1 assign1 body1 defers1) =>
     match ev.code ⟨fn,nt,some l⟩ body e1 [] (h1.set l (.loop .busy pend1 fn1 nt1 env1 params1 assign1 body1 defers1)) with
     | .ok x _ _ h2 =>
      match ZNQ x,h2.get l with
      | some j,some (.loop _ _ fn2 nt2 env2 params2 assign2 body2 defers2) =>
       .ret (.bool j.isNone) (h2.set l (.loop (if j.isNone then .ready else .done) j fn2 nt2 env2 params2 assign2 body2 defers2))
      | _,_=>.no
     | .no=>.no
    | _=>.no
   | _=>.no
  | none=>.no
 | _=>.no
noncomputable def fin (fr:Fr)(o:Oper)(v:Value)(e:Env)(ds:List ADef)(h:Heap):CR :=
 match put V fr o v e with
 | some e'=>.ok .normal e' ds h
 | none=>.no
noncomputable def finV (fr:Fr)(o:Oper)(r:VS)(e:Env)(ds:List ADef):CR :=
 match r with
 | .ret v h=>fin V fr o v e ds h
 | .pan v h=>.ok (.pan v) e ds h
 | .no=>.no
noncomputable def finA (fr:Fr)(o:Oper)(r:AR)(e:Env)(ds:List ADef):CR :=
 match r with
 | .ok v h=>fin V fr o v e ds h
 | .no=>.no
noncomputable def ZNl (ev:Ev)(fr:Fr)(o:Oper)(c:Call)(e:Env)(ds:List ADef)(h:Heap):CR :=
 @Bool.casesOn (fun _=>CR) (ZCR c.callee)
  (match ZDX P h e c with
   | .fn g args=>finV V fr o (ev.call g args h) e ds
   | .yield l args=>finV V fr o (ZJN V ev l args h) e ds
   | .no=>finA V fr o (ZL3 P o h e) e ds)
  (finA V fr o (aop P o h e) e ds)
noncomputable def ZJv (fr:Fr)(o:Oper)(c:Call)(e:Env)(ds:List ADef)(h:Heap):CR :=
 match fr.rd,c.callee with
 | none,.value f =>
  match opv h e f,opvl h e c.args.toList with
  | some (.func (.func g) ⟨first⟩ ⟨cap⟩),some args=>@Bool.casesOn (fun _=>CR) (ZAp P g) .no (fin V fr o (.tuple ⟨[]⟩) e (.fn g (first++args) cap::ds) h)
  | _,_=>.no
 | _,_=>.no
noncomputable def ZKN (x:Operand)(e:Env)(ds:List ADef)(h:Heap):CR :=
 match opv h e x with
 | some (.iface t v)=>.ok (.pan (.iface t v)) e ds h
 | _=>.no
noncomputable def evDo (ev:Ev)(fr:Fr)(o:Oper)(e:Env)(ds:List ADef)(h:Heap):CR :=
 match o.op with
 | .call c=>ZNl P V ev fr o c e ds h
 | .defer c=>ZJv P V fr o c e ds h
 | .panic x=>ZKN x e ds h
 | _=>finA V fr o (aop P o h e) e ds
noncomputable def evOp (ev:Ev)(fr:Fr)(ops:List Oper)(o:Oper)(e:Env)(ds:List ADef)(h:Heap):CR :=
 match gd ops o e with
 | some true=>evDo P V ev fr o e ds h
 | some false=>fin V fr o (.tuple ⟨[]⟩) e ds h
 | none=>.no
noncomputable def ZVb (ev:Ev)(fr:Fr)(ops:List Oper)(l:List Oper):Env->List ADef->Heap->CR :=
 @List.rec Oper (fun _=>Env->List ADef->Heap->CR) (fun e ds h=>.ok .normal e ds h)
  (fun o _ ih e ds h=>match evOp P V ev fr ops o e ds h with
   | .ok .normal e' ds' h'=>ih e' ds' h'
   | r=>r) l
inductive QK where
 | pure|alloc|eff
def ZD0:Op->QK
 | .alloc _|.box ..|.buildSlice ..|.makeSlice ..=>.alloc
 | .makeMap _ none=>.alloc
 | .move _|.pick ..|.build ..|.load ..|.nilCheck _|.binOp ..|.unOp ..|.convert ..|.makeInterface ..|.makeFunc ..|.slice ..|.fieldAddr ..|.field ..|.indexAddr ..|.index ..|.lookup ..|.typeAssert ..|.extract ..=>.pure
 | .call c=>match c.callee with
  | .builtin b=>match b with
   | .len|.cap|.min|.max=>.pure
   | _=>.eff
  | _=>.eff
 | _=>.eff
noncomputable def ZRQ (acc:List Nat)(o:Oper):Nat :=
 o.after.toList.foldl (fun s e=>if Region.binds .any e then Nat.lor (Nat.lor s (Nat.shiftLeft 1 e.on)) ((nth acc e.on).getD 0) else s) 0
noncomputable def ZID (l:List Oper):List Nat->List Nat :=
 @List.rec Oper (fun _=>List Nat->List Nat) (fun acc=>acc) (fun o _ ih acc=>ih (acc++[ZRQ acc o])) l
noncomputable def ZKW (ops:List Oper):List Nat:=ZID ops []
structure Ix where
 i:Nat
 o:Oper
 m:Nat
noncomputable def zip3:Nat->List Oper->List Nat->List Ix
 | n,o::os,m::ms=>⟨n,o,m⟩::zip3 (n+1) os ms
 | _,_,_=>[]
structure ZKD where
 qs:List Ix
 ef:Option Ix
def ZDV (x:Ix):Bool:=match ZD0 x.o.op with|.eff=>true|_=>false
noncomputable def ZEZ (l:List Ix):(es:List Ix)->(done:Nat)->List ZKD
 | [],done=>[⟨l.filter fun x=>!ZDV x && Nat.beq (Nat.land x.m done) done && l.all fun y=>!ZDV y || Nat.testBit done y.i || !Nat.testBit x.m y.i,none⟩]
 | x::es,done =>
  ⟨l.filter (fun z=>!ZDV z && Nat.beq (Nat.land z.m done) done && l.all fun y=>!ZDV y || Nat.testBit done y.i || !Nat.testBit z.m y.i),some x⟩::ZEZ l es (Nat.lor done (Nat.shiftLeft 1 x.i))
noncomputable def ZGg (l:List Ix):List ZKD:=ZEZ l (l.filter ZDV) 0
inductive NK where
 | ptr
 | sl (l c:Nat)
 | mp
def NK.mk:NK->Nat->Value
 | .ptr,b=>.pointer (some ⟨b,0,none⟩)
 | .sl l c,b=>.slice (some ⟨b,0,none⟩) l c
 | .mp,b=>.map (some b)
noncomputable def ZEq (o:Oper)(h:Heap)(e:Env):Option (NK×AO) :=
 match o.op with
 | .alloc t=>match ZA9 P t with
  | some z=>some (.ptr,.cells z.cells.toList t false)
  | none=>none
 | .box t x=>match opv h e x with
  | some v=>some (.ptr,.cells v.cells.toList t false)
  | none=>none
 | .buildSlice t n ps=>match opvs h e ps.toList with
  | some l=>match ZF3 P t n l with
   | some (cs,el)=>some (.sl n n,.cells cs el false)
   | none=>none
  | none=>none
 | .makeSlice t l c=>match opv h e l,opv h e c with
  | some l,some c=>match ZHg P t l c with
   | some (vs,el,n,m)=>some (.sl n m,.cells vs el false)
   | none=>none
  | _,_=>none
 | .makeMap _ none=>some (.mp,.map [] 0)
 | _=>none
structure Done where
 x:Ix
 v:Value
 b:Option (Nat×NK×AO)
noncomputable def ZD8 (e:Env)(l:List Tmp):List (Nat×Value) :=
 @List.rec Tmp (fun _=>List (Nat×Value)) [] (fun t _ ih=>@Option.rec Value (fun _=>List (Nat×Value)) ih (fun v=>(t,v)::ih) (lk t e)) l
noncomputable def ZFL (e:Env)(l:List Tmp):Env:=⟨ZD8 e l,[]⟩
def hz (bg:Nat)(h:Heap):Heap:=⟨h.t,bg,h.gl⟩
noncomputable def ZQ7 (fr:Fr)(ops:List Oper)(x:Ix)(e vw:Env)(h hq:Heap):Option (Done×Env×Heap) :=
 match gd ops x.o vw with
 | some false=>match put V fr x.o (.tuple ⟨[]⟩) e with
  | some e'=>some (⟨x,.tuple ⟨[]⟩,none⟩,e',h)
  | none=>none
 | some true =>
  match ZD0 x.o.op with
  | .pure=>match aop P x.o hq vw with
   | .ok v _=>match put V fr x.o v e with
    | some e'=>some (⟨x,v,none⟩,e',h)
    | none=>none
   | .no=>none
  | .alloc=>match ZEq P x.o hq vw with
   | some (nk,ao)=>match put V fr x.o (nk.mk h.nx) e with
    | some e'=>some (⟨x,nk.mk h.nx,some (h.nx,nk,ao)⟩,e',⟨h.t,Nat.succ h.nx,h.gl⟩)
    | none=>none
   | none=>none
  | .eff=>none
 | none=>none
noncomputable def ZMU (bg:Nat)(fr:Fr)(ops:Array Oper)(x:Ix)(e:Env)(h:Heap):Option (Done×Env×Heap) :=
 ZQ7 P V fr ops.toList x e (ZFL e (x.o.looksAt ops)) h (hz bg h)
noncomputable def quiets (bg:Nat)(fr:Fr)(ops:Array Oper)(l:List Ix):List Done->Env->Heap->Option (List Done×Env×Heap) :=
 @List.rec Ix (fun _=>List Done->Env->Heap->Option (List Done×Env×Heap)) (fun ds e h=>some (ds,e,h))
  (fun x _ ih ds e h=>match ZMU P V bg fr ops x e h with
   | some (d,e',h')=>ih (d::ds) e' h'
   | none=>none) l
mutual
def veq:Value->Value->Bool
 | .bool a,.bool b=>a == b
 | .int j a,.int k b=>decide (j=k) && eqI a b
 | .string ⟨⟨a⟩⟩,.string ⟨⟨b⟩⟩=>decide (a=b)
 | .pointer none,.pointer none=>true
 | .pointer (some a),.pointer (some b)=>decide (a=b)
 | .slice none l c,.slice none l' c'=>Nat.beq l l' && Nat.beq c c'
 | .slice (some a) l c,.slice (some b) l' c'=>decide (a=b) && Nat.beq l l' && Nat.beq c c'
 | .map none,.map none=>true
 | .map (some a),.map (some b)=>Nat.beq a b
 | .func f ⟨a⟩ ⟨b⟩,.func g ⟨a'⟩ ⟨b'⟩=>decide (f=g) && veqL a a' && veqL b b'
 | .nilFunc,.nilFunc=>true
 | .iface t v,.iface u w=>Nat.beq t u && veq v w
 | .nilIface,.nilIface=>true
 | .agg ⟨a⟩,.agg ⟨b⟩=>veqL a b
 | .tuple ⟨a⟩,.tuple ⟨b⟩=>veqL a b
 | _,_=>false
def veqL:List Value->List Value->Bool
 | [],[]=>true
 | v::l,w::m=>veq v w && veqL l m
 | _,_=>false
end
noncomputable def aoeq:AO->AO->Bool
 | .cells vs t op,.cells ws u oq=>veqL vs ws && Nat.beq t u && (op == oq)
 | .map [] 0,.map [] 0=>true
 | _,_=>false
noncomputable def view (fn:FuncId)(e:Env)(l:List Tmp):Env :=
 @List.rec Tmp (fun _=>Env) ⟨[],[]⟩ (fun t _ ih=>match lk t e with|some v=>putE V fn t v ih|none=>ih) l
noncomputable def ZTh (ops:List Oper)(h:Heap)(d:Done)(e:Env):Bool :=
 match gd ops d.x.o e with
 | some false=>match d.b,d.v with
  | none,.tuple ⟨[]⟩=>true
  | _,_=>false
 | some true =>
  match ZD0 d.x.o.op,d.b with
  | .pure,none=>match aop P d.x.o h e with
   | .ok v _=>veq v d.v
   | .no=>false
  | .alloc,some (b,nk,ao)=>match ZEq P d.x.o h e with
   | some (nk',ao')=>veq (nk'.mk b) d.v && veq (nk.mk b) d.v && aoeq ao' ao
   | none=>false
  | _,_=>false
 | none=>false
noncomputable def still (bg:Nat)(ops:Array Oper)(h:Heap)(e:Env)(d:Done):Bool :=
 (match d.x.o.dst with
  | some t=>match lk t e with
   | some v=>veq v d.v
   | none=>false
  | none=>true) && ZTh P ops.toList (hz bg h) d (ZFL e (d.x.o.looksAt ops))
noncomputable def ZA8 (l:List Done)(h:Heap):Heap :=
 l.foldr (fun d h=>match d.b with|some (b,_,ao)=>h.set b ao|none=>h) h
noncomputable def ZAd (x:Ix)(d:Done):Bool:=Nat.testBit x.m d.x.i
noncomputable def scrub (ops:List Oper)(e:Env):Env:=⟨[],e.va.filter fun p=>ops.all fun o=>match o.dst with|some d=>!Nat.beq d p.1|none=>true⟩
noncomputable def ZLN (fn:FuncId)(o:Oper)(e1 e:Env):Option Env :=
 match o.dst with
 | none=>some e
 | some d=>match lk d e1 with
  | some v=>some (putE V fn d v e)
  | none=>none
noncomputable def ZTP (ev:Ev)(fr:Fr)(ops:Array Oper)(phs:List ZKD):List Done->Env->List ADef->Heap->CR :=
 @List.rec ZKD (fun _=>List Done->Env->List ADef->Heap->CR) (fun _ _ _ _=>.no)
  (fun ph _ ih dn e ds h =>
   match quiets P V ev.n fr ops ph.qs dn e h with
   | some (dn',e,h) =>
    @Bool.casesOn (fun _=>CR) (Nat.ble h.nx ev.n && dn.all (still P ev.n ops h e)) .no
     (match ph.ef with
      | none=>.ok .normal e ds (ZA8 dn' h)
      | some x =>
       match evOp P V ev fr ops.toList x.o (view V fr.fn e (x.o.looksAt ops)) ds (ZA8 (dn'.filter (ZAd x)) h) with
       | .ok .normal e1 ds h=>match ZLN V fr.fn x.o e1 e with
        | some e=>ih (dn'.filter fun d=>!ZAd x d) e ds h
        | none=>.no
       | .ok (.pan v) _ ds h=>.ok (.pan v) (scrub ops.toList e) ds h
       | _=>.no)
   | none=>.no) phs
def ZOI (ops:Array Oper)(o:Oper):List Tmp:=o.looksAt ops++o.dst.toList
noncomputable def ZDv (ops:Array Oper)(l:List Ix):Bool :=
 l.all fun k=>match k.o.dst with
  | none=>true
  | some d=>l.all fun j=>(Nat.beq j.i k.i && (ZDV k || !(k.o.looksAt ops).contains d)) || !(ZOI ops j.o).contains d || Nat.testBit j.m k.i || (ZDV k && Nat.testBit k.m j.i)
noncomputable def ZKh:List Ix->Nat->Option Nat
 | [],T=>some T
 | x::l,T=>if Nat.testBit T x.i || ZDV x then none else ZKh l (Nat.lor T (Nat.shiftLeft 1 x.i))
noncomputable def ZIQ (l:List Ix):List ZKD->Nat->Bool
 | [],_=>false
 | ph::phs,T =>
  match ZKh ph.qs T with
  | some T=>match ph.ef with
   | none=>l.all fun y=>Nat.testBit T y.i
   | some x=>!Nat.testBit T x.i && ZDV x && (l.all fun y=>Nat.testBit T y.i || Nat.beq y.i x.i || Nat.testBit y.m x.i) && ZIQ l phs (Nat.lor T (Nat.shiftLeft 1 x.i))
  | none=>false
noncomputable def ZB7 (l:List Ix):Bool:=l.all fun x=>x.o.after.toList.all fun e=>!Region.binds .any e || Nat.blt e.on x.i
noncomputable def qsOk (ops:Array Oper):List Ix->Bool
 | []=>true
 | x::l=>(match x.o.dst with|some d=>!(x.o.looksAt ops).contains d|none=>true) && (l.all fun y=>match y.o.dst with|some d=>!(ZOI ops x.o).contains d|none=>true) && qsOk ops l
noncomputable def ixs (ops:List Oper):List Ix:=zip3 0 ops (ZKW ops)
noncomputable def ZJF (ops:Array Oper):Bool :=
 Region.noSelect ops && ZB7 (ixs ops.toList) && ZDv ops (ixs ops.toList) && ZIQ (ixs ops.toList) (ZGg (ixs ops.toList)) 0 && (ZGg (ixs ops.toList)).all fun ph=>qsOk ops ph.qs
noncomputable def ZQp (ev:Ev)(fr:Fr)(f:Operand)(ps:Array Tmp)(assign body:Code)(e:Env)(ds:List ADef)(h:Heap):CR :=
 let start (r:Nat) (ds:List ADef) (h:Heap):CR :=
  (match opv h e f with
   | some (.func (.func g) ⟨first⟩ ⟨cap⟩) =>
    @Bool.casesOn (fun _=>CR) (ZAp P g) .no
    (match ev.call g (first++(.func (.yield h.nx) ⟨[]⟩ ⟨[]⟩::cap)) (h.add (.loop .ready none fr.fn fr.nt ⟨[],e.va⟩ ps assign body r)) with
    | .ret _ h' =>
     match h'.get h.nx with
     | some (.loop st pend fn nt env params assign body defers) =>
      match st with
      | .busy=>.no
      | _ =>
       match pend with
       | none=>.ok .normal e ds (h'.set h.nx (.loop .exhausted pend fn nt env params assign body defers))
       | some c=>ev.code fr c e ds (h'.set h.nx (.loop .exhausted pend fn nt env params assign body defers))
     | _=>.no
    | .pan v h'=>.ok (.pan v) e ds h'
    | .no=>.no)
   | _=>.no)
 match fr.rd with
 | none=>start h.nx (.coll h.nx::ds) (h.add .defd)
 | some l=>match h.get l with
  | some (.loop _ _ _ _ _ _ _ _ r)=>start r ds h
  | _=>.no
noncomputable def ZTK (ev:Ev)(fr:Fr)(b:Code)(m:Nat):Env->List ADef->Heap->CR :=
 @Nat.rec (fun _=>Env->List ADef->Heap->CR) (fun _ _ _=>.no)
  (fun _ ih e ds h=>match ev.code fr b e ds h with
   | .ok .normal e ds h=>ih e ds h
   | r=>r) m
noncomputable def ZVF (ev:Ev)(fr:Fr)(c:Code)(e:Env)(ds:List ADef)(h:Heap):CR :=
 match c with
 | .skip=>.ok .normal e ds h
 | .label _=>.ok .normal e ds h
 | .region _ ops false=>ZVb P V ev fr ops.toList ops.toList ⟨[],e.va⟩ ds h
 | .region _ ops true=>@Bool.casesOn (fun _=>CR) (ZJF ops) .no (ZTP P V ev fr ops (ZGg (ixs ops.toList)) [] ⟨[],e.va⟩ ds h)
 | .seq a b=>match ev.code fr a e ds h with
  | .ok .normal e ds h=>ev.code fr b e ds h
  | r=>r
 | .cond c x y=>match opv h e c with
  | some (.bool true)=>ev.code fr x e ds h
  | some (.bool false)=>ev.code fr y e ds h
  | _=>.no
 | .block id b=>match ev.code fr b e ds h with
  | .ok (.exit j) e ds h=>@Bool.casesOn (fun _=>CR) (Nat.beq j id) (.ok (.exit j) e ds h) (.ok .normal e ds h)
  | r=>r
 | .loop b=>ZTK ev fr b ev.n e ds h
 | .rangeFunc f ps asq b=>ZQp P ev fr f ps asq b e ds h
 | .exit id=>.ok (.exit id) e ds h
 | .goto l=>.ok (.goto l) e ds h
 | .ret=>.ok .ret e ds h
 | _=>.no
inductive RC where
 | none
 | some (v:Value)
 | done
noncomputable def ZUR (fr:Fr)(o:Oper)(e:Env)(rc:RC):Option (Env×RC) :=
 match rc with
 | .some v=>match put V fr o v e with
  | some e=>some (e,.done)
  | none=>none
 | rc=>match put V fr o .nilIface e with
  | some e=>some (e,rc)
  | none=>none
def ZDi:Op->Bool
 | .call c=>match c.callee with
  | .builtin .recover=>true
  | _=>false
 | _=>false
noncomputable def ZH1 (fr:Fr)(ops:List Oper)(l:List Oper):Env->RC->Heap->Option (Env×RC×Heap) :=
 @List.rec Oper (fun _=>Env->RC->Heap->Option (Env×RC×Heap)) (fun e rc h=>some (e,rc,h))
  (fun o _ ih e rc h =>
   match gd ops o e with
   | some true =>
    @Bool.casesOn (fun _=>Option (Env×RC×Heap)) (ZDi o.op)
     (match finA V fr o (aop P o h e) e [] with
      | .ok .normal e [] h=>ih e rc h
      | _=>none)
     (match ZUR V fr o e rc with
      | some (e,rc)=>ih e rc h
      | none=>none)
   | some false=>match put V fr o (.tuple ⟨[]⟩) e with
    | some e=>ih e rc h
    | none=>none
   | none=>none) l
noncomputable def evS (ev:Ev)(fr:Fr):Code->Env->RC->Heap->Option (ZDK×Env×RC×Heap)
 | .seq a b,e,rc,h=>match evS ev fr a e rc h with
  | some (.normal,e,rc,h)=>evS ev fr b e rc h
  | r=>r
 | .cond c x y,e,rc,h=>match opv h e c with
  | some (.bool true)=>evS ev fr x e rc h
  | some (.bool false)=>evS ev fr y e rc h
  | _=>none
 | .region i ops false,e,rc,h =>
  @Bool.casesOn (fun _=>Option (ZDK×Env×RC×Heap)) (ops.toList.any fun o=>ZDi o.op)
   (match ev.code fr (.region i ops false) e [] h with
    | .ok x e [] h=>some (x,e,rc,h)
    | _=>none)
   (match ZH1 P V fr ops.toList ops.toList ⟨[],e.va⟩ rc h with
    | some (e,rc,h)=>some (.normal,e,rc,h)
    | none=>none)
 | c,e,rc,h=>match ev.code fr c e [] h with
  | .ok x e [] h=>some (x,e,rc,h)
  | _=>none
noncomputable def ZLU (fr:Fr)(i:Nat):List Value->Env->Env
 | [],e=>e
 | v::l,e=>ZLU fr (i+1) l (putE V fr.fn i v e)
noncomputable def ZO5 (h:Heap)(e:Env)(r:ResultVar):Option Value :=
 match r with
 | .tmp t=>lk t e
 | .cell a t=>match lk a e with
  | some p=>ZFI P t p h
  | none=>none
noncomputable def resL (h:Heap)(e:Env):List ResultVar->Option (List Value)
 | []=>some []
 | r::l=>match ZO5 P h e r,resL h e l with
  | some v,some vs=>some (v::vs)
  | _,_=>none
def ZHX:List Value->Value
 | [v]=>v
 | l=>.tuple ⟨l⟩
noncomputable def ZDD (ev:Ev)(fn:Func)(e:Env):List ADef->RC->Heap->VS
 | [],rc,h=>match rc with
  | .some v=>.pan v h
  | _=>match resL P h e fn.results.toList with
   | some l=>.ret (ZHX l) h
   | none=>.no
 | .coll r::ds,rc,h=>match h.get r with
  | some .defd=>ZDD ev fn e ds rc (h.del r)
  | _=>.no
 | .fn f args cap::ds,rc,h =>
  match P.funcs[f]? with
  | some g=>match g.body with
   | some c =>
    @Bool.casesOn (fun _=>VS) (ZAp P f && Nat.ble (args++cap).length g.ntmps) .no
    (match evS P V ev ⟨f,g.ntmps,none⟩ c (ZLU V ⟨f,g.ntmps,none⟩ 0 (args++cap) ⟨[],[]⟩) rc h with
     | some (.normal,e1,rc',h')=>match resL P h' e1 g.results.toList with
      | some _=>ZDD ev fn e ds (match rc' with|.done=>.none|r=>r) h'
      | none=>.no
     | some (.ret,e1,rc',h')=>match resL P h' e1 g.results.toList with
      | some _=>ZDD ev fn e ds (match rc' with|.done=>.none|r=>r) h'
      | none=>.no
     | _=>.no)
   | none=>.no
  | none=>.no
noncomputable def ZNc (ev:Ev)(g:FuncId)(args:List Value)(h:Heap):VS :=
 match P.funcs[g]? with
 | some fn=>match fn.body with
  | some c =>
   @Bool.casesOn (fun _=>VS) (Nat.ble args.length fn.ntmps) .no
   (match ev.code ⟨g,fn.ntmps,none⟩ c (ZLU V ⟨g,fn.ntmps,none⟩ 0 args ⟨[],[]⟩) [] h with
    | .ok .normal e ds h=>ZDD P V ev fn e ds .none h
    | .ok .ret e ds h=>ZDD P V ev fn e ds .none h
    | .ok (.pan v) e ds h=>ZDD P V ev fn e ds (.some v) h
    | _=>.no)
  | none=>.no
 | none=>.no
noncomputable def ev (n:Nat):Ev:=@Nat.rec (fun _=>Ev) ⟨fun _ _ _ _ _=>.no,fun _ _ _=>.no,0⟩ (fun n ih=>⟨ZVF P V ih,ZNc P V ih,n⟩) n
variable {P:Program}{V:Nat->Nat->Bool} {ι:Iota}
def EI (V:Nat->Nat->Bool)(fn:FuncId)(e:Env):Prop:=(∀p∈e.te,V fn p.1=false)/\(∀p∈e.va,V fn p.1=true)
theorem ZRL {t:Nat}{l:List (Nat×Value)}{v:Value}(h:lkL t l=some v):(t,v)∈l:=by
 induction l with
 | nil=>simp[ZCW] at h
 | cons p l ih =>
  rw[ZBE] at h
  split at h
  ·rename_i e;cases h;subst e;exact List.mem_cons_self
  ·exact List.mem_cons_of_mem _ (ih h)
theorem ZNh {t:Nat}{l:List (Nat×Value)}(h:∀p∈l,p.1≠t):lkL t l=none:=by
 cases hv:lkL t l with
 | none=>rfl
 | some v=>exact absurd rfl (h _ (ZRL hv))
theorem ZN5 (d:Nat)(v:Value):setL d v []=[(d,v)]:=rfl
theorem ZLG (d:Nat)(v:Value)(p:Nat×Value)(l:List (Nat×Value)):setL d v (p::l)=if p.1=d then (d,v)::l else p::setL d v l:=by
 show @Bool.casesOn (fun _=>List (Nat×Value)) (Nat.beq p.1 d) (p::setL d v l) ((d,v)::l)=_
 cases h:Nat.beq p.1 d
 ·have:p.1≠d:=by intro e;subst e;simp at h
  simp[this]
 ·have:p.1=d:=Nat.eq_of_beq_eq_true h
  simp[this]
theorem ZSI (d:Nat)(v:Value)(t:Nat):∀l:List (Nat×Value),lkL t (setL d v l)=if d=t then some v else lkL t l:=by
 intro l
 induction l with
 | nil=>rw[ZN5,ZBE,ZCW]
 | cons p l ih =>
  rw[ZLG]
  by_cases h:p.1=d
  ·rw[if_pos h,ZBE,ZBE]
   by_cases h2:d=t
   ·simp[h2]
   ·simp[h2,h]
  ·rw[if_neg h,ZBE,ZBE,ih]
   by_cases h2:p.1=t
   ·have:¬d=t:=fun e=>h (by rw[h2,e])
    simp[h2,this]
   ·simp[h2]
theorem ZSP {d:Nat}{v:Value}{q:Nat×Value}:∀{l:List (Nat×Value)},q∈setL d v l->q=(d,v)\/q∈l:=by
 intro l
 induction l with
 | nil=>intro h;rw[ZN5] at h;simp at h;exact .inl h
 | cons p l ih =>
  intro h;rw[ZLG] at h
  split at h
  ·rcases List.mem_cons.1 h with h|h
   ·exact .inl h
   ·exact .inr (List.mem_cons_of_mem _ h)
  ·rcases List.mem_cons.1 h with h|h
   ·exact .inr (by rw[h];exact List.mem_cons_self)
   ·rcases ih h with h|h
    ·exact .inl h
    ·exact .inr (List.mem_cons_of_mem _ h)
theorem ZBy {fn:FuncId}{e:Env}(hi:EI V fn e)(d:Nat)(v:Value)(t:Nat):lk t (putE V fn d v e)=if d=t then some v else lk t e:=by
 unfold putE;cases hV:V fn d
 ·simp only[ZF6,ZBE]
  by_cases h:d=t
  ·simp[h]
  ·simp[h]
 ·simp only[ZF6,ZSI]
  by_cases h:d=t
  ·subst h
   have:lkL d e.te=none:=ZNh fun p hp he=>by have:=hi.1 p hp;rw[he,hV] at this;cases this
   simp[this]
  ·simp[h]
theorem EI.putE {fn:FuncId}{e:Env}(hi:EI V fn e)(d:Nat)(v:Value):EI V fn (putE V fn d v e):=by
 unfold Dx.putE;cases hV:V fn d
 ·exact⟨fun p hp=>by
   rcases List.mem_cons.1 hp with h|h
   ·rw[h];exact hV
   ·exact hi.1 p h,hi.2⟩
 ·refine⟨hi.1,fun p hp=>?_⟩
  rcases ZSP hp with h|h
  ·rw[h];exact hV
  ·exact hi.2 p h
theorem EI.clear {fn:FuncId}{e:Env}(hi:EI V fn e):EI V fn ⟨[],e.va⟩:=⟨(fun p hp=>nomatch hp),hi.2⟩
theorem ZNr {fn:FuncId}{e:Env}(hi:EI V fn e){t:Nat}{v:Value}(h:lk t ⟨[],e.va⟩=some v):lk t e=some v:=by
 rw[ZF6] at h ⊢;simp only[ZCW] at h;have hm:=ZRL h;have hv:=hi.2 _ hm;have:lkL t e.te=none:=ZNh fun p hp he=>by have:=hi.1 p hp;rw[he,hv] at this;cases this
 rw[this];exact h
inductive DR (ι:Iota):List ADef->List Deferred->Prop where
 | nil:DR ι [] []
 | coll {r:Nat} {bi:BI} {ds:List ADef} {l:List Deferred}:ι r=some bi->DR ι ds l->DR ι (.coll r::ds) ({ target:=.collected bi.blk,args:=#[] }::l)
 | fn (f:FuncId) {args cap:List Value} {args' cap':Array Value} {ds:List ADef} {l:List Deferred}:VRL ι args args'.toList->VRL ι cap cap'.toList->DR ι ds l →
   DR ι (.fn f args cap::ds) ({ target:=.fn (.func f) cap',args:=args' }::l)
theorem DR.mono {ι':Iota}(hs:Sub ι ι'){ds:List ADef}{l:List Deferred}(h:DR ι ds l):DR ι' ds l:=by
 induction h with
 | nil=>exact .nil
 | coll h _ ih=>exact .coll (hs _ _ h) ih
 | fn f a b _ ih=>exact .fn f (a.mono hs) (b.mono hs) ih
structure FR (V:Nat->Nat->Bool)(fr:Fr) (ι:Iota)(e:Env)(ds:List ADef)(a:Act):Prop where
 env:EnvR ι e a.tmps
 ei:EI V fr.fn e
 sz:a.tmps.size=fr.nt
 df:DR ι ds a.defers
theorem FR.mono {ι':Iota}{fr:Fr}{e:Env}{ds:List ADef}{a:Act}(h:FR V fr ι e ds a)(hs:Sub ι ι'):FR V fr ι' e ds a:=⟨h.env.mono hs,h.ei,h.sz,h.df.mono hs⟩
theorem FR.clear {fr:Fr}{e:Env}{ds:List ADef}{a:Act}(h:FR V fr ι e ds a):FR V fr ι ⟨[],e.va⟩ ds a :=
 ⟨fun t v hv=>h.env t v (ZNr h.ei hv),h.ei.clear,h.sz,h.df⟩
theorem FR.putE {fr:Fr}{e:Env}{ds:List ADef}{a:Act}(h:FR V fr ι e ds a){d:Nat}(hd:d<fr.nt){v v':Value}(hv:VR ι v v'):FR V fr ι (putE V fr.fn d v e) ds { a with tmps:=a.tmps.setIfInBounds d v' }:=by
 refine⟨fun t x hx=>?_,h.ei.putE d v,by simp[h.sz],h.df⟩;rw[ZBy h.ei] at hx
 by_cases e1:d=t
 ·subst e1
  simp at hx;subst hx;exact⟨v',by simp[h.sz,hd],hv⟩
 ·simp[e1] at hx
  obtain⟨x',h1,h2⟩:=h.env t x hx;exact⟨x',by simp only;rw[Array.getElem?_setIfInBounds_ne e1];exact h1,h2⟩
theorem FR.put {fr:Fr}{e e':Env}{ds:List ADef}{a:Act}(h:FR V fr ι e ds a){o:Oper}{v v':Value}(hv:VR ι v v')(hp:put V fr o v e=some e'):FR V fr ι e' ds (a.put o.dst v'):=by
 unfold Dx.put at hp
 split at hp
 ·rename_i hd;cases hp;rw[hd];exact h
 ·rename_i d hd
  cases hb:Nat.blt d fr.nt
  ·rw[hb] at hp;cases hp
  ·rw[hb] at hp;cases hp
   rw[hd];exact h.putE (Nat.le_of_ble_eq_true hb) hv
theorem ZCP {e:Env}{a:Act}(he:EnvR ι e a.tmps){ops:Array Oper}{o:Oper}{b:Bool}(hg:gd ops.toList o e=some b):Region.wanted o (yielded ops a.tmps)=b:=by
 unfold gd at hg;unfold Region.wanted
 split at hg
 ·rename_i hn;cases hg;rw[hn]
 ·rename_i j want hj
  rw[hj];simp only;rw[ZAv] at hg
  split at hg
  ·rename_i oj hoj
   have hoj':ops[j]?=some oj:=by simpa using hoj
   split at hg
   ·rename_i d hd
    split at hg
    ·rename_i q hq
     cases hg;obtain⟨v',h1,h2⟩:=he d _ hq;cases h2;unfold yielded;simp only[hoj',Option.bind_some,hd,h1];cases q <;> cases want <;> rfl
    ·rename_i v hv hq
     cases hg;obtain⟨v',h1,h2⟩:=he d _ hq;have:yielded ops a.tmps j=none:=by
      unfold yielded;simp only[hoj',Option.bind_some,hd,h1];cases h2 <;> first|rfl|(exact absurd rfl (hv _))
     rw[this];rfl
    ·cases hg
   ·rename_i hd
    cases hg;have:yielded ops a.tmps j=none:=by unfold yielded;simp[hoj',hd]
    rw[this];rfl
  ·rename_i hoj
   cases hg;have hoj':ops[j]?=none:=by simpa using hoj
   have:yielded ops a.tmps j=none:=by unfold yielded;simp[hoj']
   rw[this];rfl
theorem ZBI {fr:Fr}{e:Env}{ds:List ADef}{a:Act}(h:FR V fr ι e ds a){ops:Array Oper}{o:Oper}{b:Bool}(hg:gd ops.toList o e=some b):Region.wanted o (yielded ops a.tmps)=b:=ZCP h.env hg
def FenR (ι:Iota)(rd:Option Nat)(F:Fence):Prop :=
 match rd with
 | none=>F=Fence.wide
 | some l=>∃bi,ι l=some bi/\F=Fence.wide.inRound bi.blk
theorem FenR.mono {ι':Iota}(hs:Sub ι ι'){rd:Option Nat}{F:Fence}(h:FenR ι rd F):FenR ι' rd F:=by
 cases rd with
 | none=>exact h
 | some l=>obtain⟨bi,h1,h2⟩:=h;exact⟨bi,hs _ _ h1,h2⟩
theorem FenR.fn {rd:Option Nat}{F:Fence}(h:FenR ι rd F)(f:FuncId):F.fn f:=by
 cases rd with
 | none=>rw[h];trivial
 | some l=>obtain⟨bi,_,rfl⟩:=h;trivial
theorem FenR.depth {rd:Option Nat}{F:Fence}(h:FenR ι rd F):F.depth=none:=by
 cases rd with
 | none=>rw[h];rfl
 | some l=>obtain⟨bi,_,rfl⟩:=h;rfl
theorem FenR.calls {rd:Option Nat}{F:Fence}(h:FenR ι rd F){n:Nat}{f:FuncId}{args:Array Value}{w:World}{R:Ending->World->Prop}(hc:Calls P f args w R):CallsIn F n P f args w R:=by
 cases rd with
 | none=>rw[h];exact callsIn_wide.2 hc
 | some l=>obtain⟨bi,_,rfl⟩:=h;exact (callsIn_wide (n:=n)).2 hc
theorem FenR.round {rd:Option Nat}{F:Fence}(h:FenR ι rd F):F.round=none ↔ rd=none:=by
 cases rd with
 | none=>rw[h];simp[Fence.wide]
 | some l=>obtain⟨bi,_,rfl⟩:=h;simp[Fence.inRound]
inductive XR (ι:Iota):ZDK->Exit->Prop where
 | normal:XR ι .normal .normal
 | exit (id:Nat):XR ι (.exit id) (.exit id)
 | goto (l:Nat):XR ι (.goto l) (.goto l)
 | ret:XR ι .ret .ret
 | pan {v v':Value}:VR ι v v'->XR ι (.pan v) (.panic [{ v:=v',recovered:=false }])
def ZJZ (V:Nat->Nat->Bool)(fr:Fr) (ι:Iota)(h:Heap)(w:World)(x:ZDK)(e':Env)(ds':List ADef)(h':Heap):Exit->Act->World->Prop:=fun ex a' w' =>
 ∃ι',Adv ι h w ι' h' w'/\HR ι' h' w'.heap/\FR V fr ι' e' ds' a'/\XR ι' x ex
def ZFA (ι:Iota)(h:Heap)(w:World):VS->Ending->World->Prop
 | .ret v h'=>fun e w'=>∃ι' v',e=.returned v'/\VR ι' v v'/\HR ι' h' w'.heap/\Adv ι h w ι' h' w'
 | .pan v h'=>fun e w'=>∃ι' v',e=.panicked [{ v:=v',recovered:=false }]/\VR ι' v v'/\HR ι' h' w'.heap/\Adv ι h w ι' h' w'
 | .no=>fun _ _=>False
structure EvOK (P:Program)(V:Nat->Nat->Bool)(ev:Ev):Prop where
 code:∀{fr:Fr} {c:Code} {e:Env} {ds:List ADef} {h:Heap} {x:ZDK} {e':Env} {ds':List ADef} {h':Heap},ev.code fr c e ds h=.ok x e' ds' h' →
  ∀{ι:Iota} {w:World} {a:Act} {F:Fence},HR ι h w.heap->FR V fr ι e ds a->FenR ι fr.rd F->c.wpIn F 0 P (ZJZ V fr ι h w x e' ds' h') a w
 call:∀{g:FuncId} {args:List Value} {h:Heap} {r:VS},ev.call g args h=r->r≠.no →
  ∀{ι:Iota} {w:World} {args':Array Value},HR ι h w.heap->VRL ι args args'.toList->Calls P g args' w (ZFA ι h w r)
variable {P:Program}{V:Nat->Nat->Bool} {ι:Iota}
theorem ZJZ.trans {fr:Fr}{h h1 h':Heap} {ι1:Iota}{w w1:World}{x:ZDK}{e':Env}{ds':List ADef}(ha:Adv ι h w ι1 h1 w1){ex:Exit}{a':Act}{w':World}
  (hp:ZJZ V fr ι1 h1 w1 x e' ds' h' ex a' w'):ZJZ V fr ι h w x e' ds' h' ex a' w':=by
 obtain⟨ι',a1,a2,a3,a4⟩:=hp;exact⟨ι',ha.trans a1,a2,a3,a4⟩
theorem ZC7 {g:FuncId}(hb:ZAp P g=true)(args:Array Value)(w:World):(callFunc g args).run P w=.ok (.enter g args) w:=by
 unfold ZAp at hb
 split at hb
 ·rename_i fn hf
  simp only[Bool.and_eq_true,Bool.not_eq_true'] at hb;have h1:fn.body.isNone=false:=by
   cases hq:fn.body with
   | none=>rw[hq] at hb;cases hb.1
   | some c=>rfl
  simp only[callFunc,Sem.run_bind,run_program,Result.andThen_ok,hf,hb.2,Bool.false_eq_true,if_false,h1]
  rfl
 ·cases hb
theorem VRL.arr {l:List Value}{a:Array Value}(h:VRL ι l a.toList):∃l',a=⟨l'⟩/\VRL ι l l':=⟨a.toList,rfl,h⟩
theorem ZDu {h:Heap}{w:World}{e:Env}{a:Act}(hr:HR ι h w.heap)(he:EnvR ι e a.tmps){c:Call}{g:FuncId}{args:List Value}(hc:ZDX P h e c=.fn g args)(ty:TypeId) :
  ∃args':Array Value,VRL ι args args'.toList/\(do let d <-resolve a.eval c ty;invoke d.target d.args:Sem Next).run P w=.ok (.enter g args') w:=by
 unfold ZDX at hc
 split at hc
 ·rename_i f hf
  split at hc
  ·rename_i g1 first cap args1 h1 h2
   cases hb:ZAp P g1
   ·rw[hb] at hc;cases hc
   ·rw[hb] at hc
    simp only[Tgt.fn.injEq] at hc;obtain⟨rfl,rfl⟩:=hc;have hv:=ZAH hr he h1;have hl:=ZDg hr he h2;generalize hz:a.eval f=z at hv
    cases hv with
    | fn _ hfirst hcap =>
     rename_i first' cap';refine⟨first'++c.args.map a.eval++cap',?_,?_⟩
     ·have:(first'++c.args.map a.eval++cap').toList=first'.toList++(c.args.toList.map a.eval++cap'.toList):=by simp
      rw[this];exact hfirst.append (hl.append hcap)
     ·simp only[resolve,hf,hz,Deferred.ofValue,Sem.run_bind,Sem.run_pure,Result.andThen_ok,invoke]
      exact ZC7 hb _ w
  ·cases hc
  ·cases hc
 ·cases hc
theorem ZEy {h:Heap}{w:World}{e:Env}{a:Act}(hr:HR ι h w.heap)(he:EnvR ι e a.tmps){c:Call}{l:Nat}{args:List Value}(hc:ZDX P h e c=.yield l args)(ty:TypeId) :
  ∃(bi:BI) (args':Array Value),ι l=some bi/\VRL ι args args'.toList/\(do let d <-resolve a.eval c ty;invoke d.target d.args:Sem Next).run P w=(Instr.yield bi.blk args').run P w:=by
 unfold ZDX at hc
 split at hc
 ·rename_i f hf
  split at hc
  ·rename_i g1 first cap args1 h1 h2
   cases hb:ZAp P g1
   ·rw[hb] at hc;cases hc
   ·rw[hb] at hc;cases hc
  ·rename_i l1 args1 h1 h2
   simp only[Tgt.yield.injEq] at hc;obtain⟨rfl,rfl⟩:=hc;have hv:=ZAH hr he h1;have hl:=ZDg hr he h2;generalize hz:a.eval f=z at hv
   cases hv with
   | yield hb =>
    rename_i bi;refine⟨bi,c.args.map a.eval,hb,by simpa using hl,?_⟩;simp only[resolve,hf,hz,Deferred.ofValue,Sem.run_bind,Sem.run_pure,Result.andThen_ok,invoke];simp
  ·cases hc
 ·cases hc
theorem HR.loopAt {h:Heap}{w:World}(hr:HR ι h w.heap){b:Nat}{bi:BI}{st:LoopState}{pend:Option Code}{fn:FuncId}{nt:Nat}{env:Env}{ps:Array Tmp}{asq bd:Code}{r:Nat}
  (hg:h.get b=some (.loop st pend fn nt env ps asq bd r)) (hi:ι b=some bi) :
  ∃l:Loop,w.heap[bi.blk]?=some (.loop l)/\l.state=st/\l.pending=pend/\l.tmps.size=nt/\EnvR ι env l.tmps/\l.params=ps/\l.assign=asq/\l.body=bd/\∃bi',ι r=some bi'/\l.defers=bi'.blk:=by
 obtain⟨bi',o',i1,hw,ho⟩:=hr.obj b _ hg;rw[hi] at i1;cases i1;cases o' <;> simp only[OR] at ho
 exact⟨_,hw,ho⟩
theorem ZBx {w:World}{r:Nat}{l:Loop}(h:w.heap[r]?=some (.loop l)):(Instr.getLoop r).run P w=.ok l w:=by simp[Instr.getLoop,getObj,Sem.run,h]
theorem ZCs {w:World}{r:Nat}{l:Loop}(h:w.heap[r]?=some (.loop l))(o:Obj):(setObj r o).run P w=.ok () { w with heap:=w.heap.setIfInBounds r o }:=by simp[setObj,Sem.run,h]
theorem ZIl {fr:Fr}:∀{ps:List Tmp}{asq:List Value}{as':List Value}{e e':Env}{ds:List ADef}{a:Act},FR V fr ι e ds a->VRL ι asq as'->zipP V fr ps asq e=some e' →
  FR V fr ι e' ds { a with tmps:=(ps.zip as').foldl (fun t (p,v)=>t.setIfInBounds p v) a.tmps }/\ps.length=as'.length:=by
 intro ps
 induction ps with
 | nil =>
  intro asq as' e e' ds a hf hv hz
  cases asq with
  | nil=>cases hv;simp only[zipP,Option.some.injEq] at hz;subst hz;exact⟨hf,rfl⟩
  | cons=>simp[zipP] at hz
 | cons p ps ih =>
  intro asq as' e e' ds a hf hv hz
  cases asq with
  | nil=>simp[zipP] at hz
  | cons x asq =>
   cases hv with
   | cons hx ht =>
    rename_i x' l';simp only[zipP] at hz;cases hb:Nat.blt p fr.nt
    ·rw[hb] at hz;cases hz
    ·rw[hb] at hz
     have h1:=hf.putE (d:=p) (Nat.le_of_ble_eq_true hb) hx;obtain⟨h2,h3⟩:=ih h1 ht hz;exact⟨h2,by simp[h3]⟩
theorem FR.env_loop {fr:Fr}{e:Env}{tmps:Array Value}(he:EnvR ι e tmps)(hi:EI V fr.fn e)(hs:tmps.size=fr.nt):FR V fr ι e [] { tmps:=tmps,defers:=[] }:=⟨he,hi,hs,.nil⟩
theorem ZHU {l:Nat}{R:Ending->World->Prop}{x:ZDK}{ex:Exit}{j:Option Code}{a:Act}{w:World}(hx:XR ι x ex)(hj:ZNQ x=some j)
  (h:∃v w',(Instr.endRound l j).run P w=.ok v w'/\R (.returned v) w'):roundPost P l R ex a w:=by
 cases hx <;> simp only[ZNQ,Option.some.injEq] at hj <;> first|(subst hj;exact h)|cases hj
end Go.Dx
