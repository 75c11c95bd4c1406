/- WA: chapter 12 with no program in sight: strict orders; lists in order, each thing once; strings, records and keys in their order. -/
import Derived.RowKit
import Derived.Lib.AtoiAll
import Derived.Lib.ItoaNum
set_option linter.unusedVariables false
set_option linter.unusedSimpArgs false
namespace Go.Dw
structure ZCL {α:Type}(lt:α->α->Prop):Prop where
 irr:∀a,¬lt a a
 tr:∀{a b c},lt a b->lt b c->lt a c
 tri:∀a b,lt a b\/a=b\/lt b a
section
variable {α:Type}{lt:α->α->Prop}
theorem ZH2:ZCL lt->∀{E F:List α},E.Pairwise lt->F.Pairwise lt->(∀e,e∈E ↔ e∈F)->E=F
 | _,[],[],_,_,_=>rfl
 | _,[],b::F,_,_,h=>absurd ((h b).2 List.mem_cons_self) List.not_mem_nil
 | _,a::E,[],_,_,h=>absurd ((h a).1 List.mem_cons_self) List.not_mem_nil
 | hS,a::E,b::F,h1,h2,h=>by
  rw[List.pairwise_cons] at h1 h2;have e:a=b:=by
   have q1:=(h a).1 List.mem_cons_self;have q2:=(h b).2 List.mem_cons_self
   rcases List.mem_cons.1 q1 with g|g
   ·exact g
   ·rcases List.mem_cons.1 q2 with g2|g2
    ·exact g2.symm
    ·exact absurd (hS.tr (h1.1 b g2) (h2.1 a g)) (hS.irr a)
  subst e
  congr 1
  refine ZH2 hS h1.2 h2.2 fun e=>⟨fun he=>?_,fun he=>?_⟩
  ·rcases List.mem_cons.1 ((h e).1 (List.mem_cons_of_mem _ he)) with g|g
   ·exact absurd (g ▸ h1.1 e he) (hS.irr _)
   ·exact g
  ·rcases List.mem_cons.1 ((h e).2 (List.mem_cons_of_mem _ he)) with g|g
   ·exact absurd (g ▸ h2.1 e he) (hS.irr _)
   ·exact g
variable [DecidableEq α] [DecidableRel lt]
def insU (lt:α->α->Prop) [DecidableEq α] [DecidableRel lt](x:α):List α->List α
 | []=>[x]
 | y::l=>if lt y x then y::insU lt x l else if y=x then y::l else x::y::l
theorem ZIq {x e:α}:∀{l:List α},e∈insU lt x l ↔ e=x\/e∈l
 | []=>by simp[insU]
 | y::l=>by
  rw[insU]
  split
  ·rw[List.mem_cons,ZIq,List.mem_cons]
   constructor
   ·rintro (h|h|h)
    ·exact .inr (.inl h)
    ·exact .inl h
    ·exact .inr (.inr h)
   ·rintro (h|h|h)
    ·exact .inr (.inl h)
    ·exact .inl h
    ·exact .inr (.inr h)
  ·split
   ·rename_i h1 h2
    subst h2;rw[List.mem_cons]
    constructor
    ·exact fun h=>.inr h
    ·rintro (h|h)
     ·exact .inl h
     ·exact h
   ·rw[List.mem_cons]
theorem ZOc (hS:ZCL lt){x:α}:∀{l:List α},l.Pairwise lt->(insU lt x l).Pairwise lt
 | [],_=>by simp[insU]
 | y::l,h=>by
  rw[List.pairwise_cons] at h;rw[insU]
  split
  ·rename_i h1
   rw[List.pairwise_cons];refine⟨fun e he=>?_,ZOc hS h.2⟩
   rcases ZIq.1 he with g|g
   ·rw[g];exact h1
   ·exact h.1 e g
  ·split
   ·exact List.pairwise_cons.2 h
   ·rename_i h1 h2
    have h3:lt x y:=by
     rcases hS.tri x y with g|g|g
     ·exact g
     ·exact absurd g.symm h2
     ·exact absurd g h1
    rw[List.pairwise_cons];refine⟨fun e he=>?_,List.pairwise_cons.2 h⟩
    rcases List.mem_cons.1 he with g|g
    ·rw[g];exact h3
    ·exact hS.tr h3 (h.1 e g)
def mrgU (lt:α->α->Prop) [DecidableEq α] [DecidableRel lt](l:List α):List α:=l.foldl (fun s x=>insU lt x s) []
theorem ZLB (hS:ZCL lt):∀{l s:List α},s.Pairwise lt->(l.foldl (fun s x=>insU lt x s) s).Pairwise lt/\∀e,e∈l.foldl (fun s x=>insU lt x s) s ↔ e∈l\/e∈s
 | [],s,h=>⟨h,fun e=>by simp⟩
 | x::l,s,h=>by
  obtain⟨h1,h2⟩:=ZLB hS (l:=l) (ZOc hS (x:=x) h);refine⟨h1,fun e=>?_⟩;rw[List.foldl_cons,h2,ZIq,List.mem_cons]
  constructor
  ·rintro (g|g|g)
   ·exact .inl (.inr g)
   ·exact .inl (.inl g)
   ·exact .inr g
  ·rintro ((g|g)|g)
   ·exact .inr (.inl g)
   ·exact .inl g
   ·exact .inr (.inr g)
theorem ZPm (hS:ZCL lt)(l:List α):(mrgU lt l).Pairwise lt:=(ZLB hS .nil).1
theorem ZMk (hS:ZCL lt){l:List α}{e:α}:e∈mrgU lt l ↔ e∈l:=by
 unfold mrgU;rw[(ZLB hS (l:=l) (s:=[]) .nil).2 e];exact⟨fun h=>h.elim id fun h=>absurd h List.not_mem_nil,.inl⟩
theorem ZIb (hS:ZCL lt)(l:List α):(mrgU lt l).length<=l.length:=by
 have key:∀(l s:List α),(l.foldl (fun s x=>insU lt x s) s).length<=s.length+l.length:=by
  intro l
  induction l with
  | nil=>intro s;exact Nat.le_refl _
  | cons x l ih =>
   intro s;have h1:=ih (insU lt x s)
   have h2:∀s:List α,(insU lt x s).length<=s.length+1:=fun s=>by
    induction s with
    | nil=>exact Nat.le_refl _
    | cons y s ih2 =>
     rw[insU]
     split
     ·simp only[List.length_cons];omega
     ·split <;> simp only[List.length_cons] <;> omega
   have h3:=h2 s;rw[List.foldl_cons,List.length_cons];omega
 have:=key l []
 simpa [mrgU] using this
end
def lexP {α β:Type}(r:α->α->Prop)(s:β->β->Prop)(x y:α×β):Prop:=r x.1 y.1\/(x.1=y.1/\s x.2 y.2)
theorem ZBK {α β:Type}{r:α->α->Prop}{s:β->β->Prop}(hr:ZCL r)(hs:ZCL s):ZCL (lexP r s) where
 irr:=fun a h=>by
  rcases h with h|⟨-,h⟩
  ·exact hr.irr _ h
  ·exact hs.irr _ h
 tr:=fun {a b c} h1 h2=>by
  rcases h1 with h1|⟨e1,h1⟩ <;> rcases h2 with h2|⟨e2,h2⟩
  ·exact .inl (hr.tr h1 h2)
  ·exact .inl (e2 ▸ h1)
  ·exact .inl (e1 ▸ h2)
  ·exact .inr ⟨e1.trans e2,hs.tr h1 h2⟩
 tri:=fun a b=>by
  rcases hr.tri a.1 b.1 with h|h|h
  ·exact .inl (.inl h)
  ·rcases hs.tri a.2 b.2 with g|g|g
   ·exact .inl (.inr ⟨h,g⟩)
   ·exact .inr (.inl (Prod.ext h g))
   ·exact .inr (.inr (.inr ⟨h.symm,g⟩))
  ·exact .inr (.inr (.inl h))
abbrev ltI (a b:Int):Prop:=a<b
instance:DecidableRel ltI:=fun a b=>inferInstanceAs (Decidable (a<b))
theorem ZBR:ZCL ltI where
 irr:=fun a=>Int.lt_irrefl a
 tr:=fun h1 h2=>Int.lt_trans h1 h2
 tri:=fun a b=>by omega
abbrev ltB (a b:List UInt8):Prop:=a<b
instance:DecidableRel ltB:=fun a b=>inferInstanceAs (Decidable (a<b))
theorem ZH3:ZCL ltB where
 irr:=fun a=>List.lt_irrefl a
 tr:=fun h1 h2=>List.lt_trans h1 h2
 tri:=fun a b=>by
  by_cases h:a<b
  ·exact .inl h
  ·by_cases g:b<a
   ·exact .inr (.inr g)
   ·exact .inr (.inl (List.le_antisymm (List.not_lt.1 g) (List.not_lt.1 h)))
structure WkR where
 archive:List UInt8
 number:Int
 day:Int
 kind:Int
 a:List UInt8
 b:List UInt8
 deriving DecidableEq
abbrev Key:=List UInt8×Int
def WkR.key (x:WkR):Key:=(x.archive,x.number)
abbrev ZSc:=List UInt8×Int×Int×Int×List UInt8×List UInt8
def WkR.tup (x:WkR):ZSc:=(x.archive,x.number,x.day,x.kind,x.a,x.b)
theorem WkR.tup_inj {x y:WkR}(h:x.tup=y.tup):x=y:=by
 cases x;cases y;simp only[WkR.tup,Prod.mk.injEq] at h;obtain⟨rfl,rfl,rfl,rfl,rfl,rfl⟩:=h
 rfl
def ltT:ZSc->ZSc->Prop:=lexP ltB (lexP ltI (lexP ltI (lexP ltI (lexP ltB ltB))))
def ltW (x y:WkR):Prop:=ltT x.tup y.tup
def cmpI {α:Type}(lt:α->α->Prop) [DecidableRel lt](a b:α):Int:=if lt a b then -1 else if lt b a then 1 else 0
theorem ZSl {α:Type}{lt:α->α->Prop} [DecidableRel lt]{a b:α}:cmpI lt a b<0 ↔ lt a b:=by
 unfold cmpI
 split
 ·simp[*]
 ·split <;> simp[*]
theorem ZOf {α:Type}{lt:α->α->Prop} [DecidableRel lt](hS:ZCL lt){a b:α}:cmpI lt a b=0 ↔ a=b:=by
 unfold cmpI
 split
 ·rename_i h
  simp only[show ¬(-1:Int)=0 by decide,false_iff];rintro rfl;exact hS.irr _ h
 ·split
  ·rename_i h
   simp only[show ¬(1:Int)=0 by decide,false_iff];rintro rfl;exact hS.irr _ h
  ·rename_i h1 h2
   simp only[true_iff]
   rcases hS.tri a b with h|h|h
   ·exact absurd h h1
   ·exact h
   ·exact absurd h h2
def ZBb:List Int->Int
 | []=>0
 | n::l=>if n≠0 then n else ZBb l
theorem nz6 (z1 z2 z3 z4 z5 z6:Int):(if z1≠0 then z1 else if z2≠0 then z2 else if z3≠0 then z3 else if z4≠0 then z4 else if z5≠0 then z5 else z6)=ZBb [z1,z2,z3,z4,z5,z6]:=by
 simp only[ZBb]
 repeat' split
 all_goals first|rfl|omega
end Go.Dw
namespace Go.Dw
open Go
def isD (c:UInt8):Bool:=decide (48<=c.toNat/\c.toNat<=57)
def valG (n:Nat)(l:List UInt8):Nat:=l.foldl (fun n c=>10*n+(c.toNat-48)) n
theorem ZNr (n:Nat)(l:List UInt8)(c:UInt8):valG n (l++[c])=10*valG n l+(c.toNat-48):=by
 unfold valG;rw[List.foldl_append];rfl
theorem ZHC {u:Nat}(h:u<10):(UInt8.ofNat (48+u)).toNat=48+u:=by
 rw[UInt8.toNat_ofNat'];omega
theorem ZPB (u:Nat):(Lib.decDigits u).all isD=true/\valG 0 (Lib.decDigits u)=u/\Lib.decDigits u≠[]/\(1<=u->(Lib.decDigits u).head?≠some 48)/\∀k,1<=k->u<10 ^ k->(Lib.decDigits u).length<=k:=by
 induction u using Nat.strongRecOn with
 | ind u ih =>
  rw[Lib.decDigits]
  by_cases h:u<10
  ·rw[dif_pos h]
   have e:=ZHC h;refine⟨?_,?_,by simp,fun h1=>?_,fun k hk _=>hk⟩
   ·simp only[List.all_cons,List.all_nil,Bool.and_true]
    exact decide_eq_true (by omega)
   ·show 10*0+((UInt8.ofNat (48+u)).toNat-48)=u
    omega
   ·intro hq
    simp only[List.head?_cons,Option.some.injEq] at hq;have:=congrArg UInt8.toNat hq;rw[e] at this;have h48:(48:UInt8).toNat=48:=rfl;omega
  ·rw[dif_neg h]
   obtain⟨i1,i2,i3,i4,i5⟩:=ih (u / 10) (by omega);have e:=ZHC (show u % 10<10 by omega);refine⟨?_,?_,by simp,fun _=>?_,fun k hk hu=>?_⟩
   ·rw[List.all_append,i1]
    simp only[List.all_cons,List.all_nil,Bool.and_true,Bool.true_and];exact decide_eq_true (by omega)
   ·rw[ZNr,i2,e];omega
   ·have:=i4 (by omega)
    cases hq:Lib.decDigits (u / 10) with
    | nil=>exact absurd hq i3
    | cons y r=>rw[hq] at this;simpa using this
   ·rw[List.length_append]
    cases k with
    | zero=>omega
    | succ k =>
     rw[Nat.pow_succ] at hu;have hk0:1<=k:=by
      cases k with
      | zero=>simp at hu;omega
      | succ k=>omega
     have:=i5 k hk0 (by omega);simp only[List.length_cons,List.length_nil];omega
section
variable {α:Type} [Inhabited α] [DecidableEq α]
def anew (S:List α)(i:Nat):Bool:=decide (i=0\/S.getD i default≠S.getD (i-1) default)
end
end Go.Dw
namespace Go.Dw
open Go
abbrev Str:=List UInt8
theorem ZEd {α:Type} [DecidableEq α]:∀{l m:List α},l.Nodup->(∀x∈l,x∈m)->l.length<=m.length
 | [],_,_,_=>Nat.zero_le _
 | a::l,m,hn,hs=>by
  rw[List.nodup_cons] at hn;have ha:=hs a List.mem_cons_self
  have:=ZEd (l:=l) (m:=m.erase a) hn.2 (fun x hx=>by
   rw[List.mem_erase_of_ne (fun e=>hn.1 (by rw[<-e];exact hx))];exact hs x (List.mem_cons_of_mem _ hx))
  rw[List.length_erase_of_mem ha] at this;have hp:0<m.length:=List.length_pos_of_mem ha;simp only[List.length_cons];omega
end Go.Dw
