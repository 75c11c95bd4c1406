/- NA: chapter 05 with no program in sight: notes, and those that stand. -/
import Derived.RowKit
import Derived.Lib.Fields
import Derived.Test.YtphonfljfmedgaaGreatDoorAG3
import Derived.Test.YtphonfljfmedgaaGreatDoorAG4
set_option linter.unusedVariables false
set_option linter.unusedSimpArgs false
namespace Go.Dw
structure Nt where
 who:List UInt8
 number:Int
 rev:Int
 kind:Int
 frm:Int
 til:Int
 lo:Int
 hi:Int
deriving DecidableEq,Inhabited
def ZA8 (x:Nt):Int :=
 if ZFg x.who=false then 6
 else if x.kind<1\/3<x.kind then 2
 else if (x.number<1\/999<x.number)\/(x.rev<0\/99<x.rev)\/(x.frm<0\/199999<x.frm)\/(x.til<0\/199999<x.til)\/(x.lo<0\/400000<x.lo)\/(x.hi<0\/400000<x.hi) then 7
 else if x.til<x.frm\/x.hi<x.lo\/(x.kind=1/\x.frm<x.til)\/(x.kind≠1/\0<x.hi) then 2 else 0
structure Nt.Ok (x:Nt):Prop where
 name:ZFg x.who=true
 kind:1<=x.kind/\x.kind<=3
 number:1<=x.number/\x.number<=999
 rev:0<=x.rev/\x.rev<=99
 frm:0<=x.frm/\x.frm<=x.til
 til:x.til<=199999
 lo:0<=x.lo/\x.lo<=x.hi
 hi:x.hi<=400000
 cut:x.kind=1->x.frm=x.til
theorem ZGE {x:Nt}(h:ZA8 x=0):x.Ok:=by
 unfold ZA8 at h
 split at h
 ·exact absurd h (by decide)
 rename_i h1
 split at h
 ·exact absurd h (by decide)
 split at h
 ·exact absurd h (by decide)
 split at h
 ·exact absurd h (by decide)
 exact⟨by simpa using h1,by omega,by omega,by omega,by omega,by omega,by omega,by omega,by omega⟩
abbrev ZSY:=Int×Int×Int×List UInt8×Int×Int×Int×Int
def Nt.tup (x:Nt):ZSY:=(x.frm,x.til,x.kind,x.who,x.number,x.rev,x.lo,x.hi)
theorem Nt.tup_inj {x y:Nt}(h:x.tup=y.tup):x=y:=by
 obtain⟨a1,a2,a3,a4,a5,a6,a7,a8⟩:=x;obtain⟨b1,b2,b3,b4,b5,b6,b7,b8⟩:=y;simp only[Nt.tup,Prod.mk.injEq] at h;obtain⟨rfl,rfl,rfl,rfl,rfl,rfl,rfl,rfl⟩:=h
 rfl
def ltNT:ZSY->ZSY->Prop:=lexP ltI (lexP ltI (lexP ltI (lexP ltB (lexP ltI (lexP ltI (lexP ltI ltI))))))
theorem ZEy:ZCL ltNT:=ZBK ZBR (ZBK ZBR (ZBK ZBR (ZBK ZH3 (ZBK ZBR (ZBK ZBR (ZBK ZBR ZBR))))))
def ltN (x y:Nt):Prop:=ltNT x.tup y.tup
theorem ZB1:ZCL ltN where
 irr:=fun a=>ZEy.irr _
 tr:=fun h1 h2=>ZEy.tr h1 h2
 tri:=fun a b=>by
  rcases ZEy.tri a.tup b.tup with h|h|h
  ·exact .inl h
  ·exact .inr (.inl (Nt.tup_inj h))
  ·exact .inr (.inr h)
noncomputable instance ltNdec:DecidableRel ltN:=fun _ _=>Classical.propDecidable _
def Nt.key (x:Nt):Key:=(x.who,x.number)
def ZF6 (l:List Nt)(x:Nt):Prop:=∀y∈l,y.key=x.key->y.rev<x.rev\/y=x
noncomputable instance (l:List Nt):DecidablePred (ZF6 l):=fun _=>Classical.propDecidable _
noncomputable def ZAO (l:List Nt):List Nt:=mrgU ltN (l.filter fun x=>decide (ZF6 l x))
theorem ZBa {l:List Nt}{x:Nt}:x∈ZAO l ↔ x∈l/\ZF6 l x:=by
 unfold ZAO;rw[ZMk ZB1,List.mem_filter,decide_eq_true_iff]
theorem ZCy (l:List Nt):(ZAO l).Pairwise ltN:=ZPm ZB1 _
theorem ZCu (l:List Nt):(ZAO l).length<=l.length:=Nat.le_trans (ZIb ZB1 _) (List.length_filter_le _ _)
theorem ZHU {l l':List Nt}(h:∀x,x∈l ↔ x∈l'):ZAO l=ZAO l':=by
 refine ZH2 ZB1 (ZCy l) (ZCy l') fun e=>?_;rw[ZBa,ZBa,h]
 constructor
 ·exact fun ⟨h1,h2⟩=>⟨h1,fun y hy=>h2 y ((h y).2 hy)⟩
 ·exact fun ⟨h1,h2⟩=>⟨h1,fun y hy=>h2 y ((h y).1 hy)⟩
theorem ZKz (l:List Nt):ZAO (ZAO l)=ZAO l:=by
 refine ZH2 ZB1 (ZCy _) (ZCy l) fun e=>?_;rw[ZBa]
 constructor
 ·exact fun ⟨h1,_⟩=>h1
 ·exact fun h1=>⟨h1,fun y hy=>(ZBa.1 h1).2 y (ZBa.1 hy).1⟩
abbrev I3:=Int×Int×Int
structure Rl where
 name:List UInt8
 gauge:Int
 base:Int
 frames:Int
 ylo:Int
 yhi:Int
 keep:Int
 marks:List I3
 syms:List (Int×Int)
 lens:List I3
def ZDD (g:Int):Int:=if g=8 then 80 else if g=16 then 40 else if g=35 then 16 else 0
def ZR2 (g:Int):Int:=if g=8 then 3810 else if g=16 then 7620 else if g=35 then 19000 else 0
def ZCA (r:Rl):Int :=
 if ZFg r.name=false then 6
 else if ZDD r.gauge=0\/(r.base<1\/3<r.base) then 2
 else if (r.frames<1\/200000<r.frames)\/(r.keep<0\/50<r.keep)\/(r.ylo<1890\/2100<r.ylo)\/(r.yhi<1890\/2100<r.yhi) then 7
 else if r.yhi<r.ylo then 2 else 0
def ZBu (fr:Int):Int->List I3->Int
 | _,[]=>0
 | b,m::l=>if (m.1<0\/fr-1<m.1)\/(m.2.1<0\/99<m.2.1)\/(m.2.2<0\/9999<m.2.2) then 7 else if m.1<=b then 2 else ZBu fr m.1 l
def ZCh:List (Int×Int)->Int
 | []=>0
 | x::l=>if (x.1<0\/99<x.1)\/(x.2<0\/19<x.2) then 7 else ZCh l
def ZDn (fr:Int):List I3->Int
 | []=>0
 | x::l=>if (x.1<1\/fr<x.1)\/(x.2.1<1\/400000000<x.2.1)\/(x.2.2<0\/400000000<x.2.2) then 7 else ZDn fr l
def ZBc (r:Rl):Int :=
 if ZCA r≠0 then ZCA r
 else if 60<r.marks.length then 3
 else if ZBu r.frames (-1) r.marks≠0 then ZBu r.frames (-1) r.marks
 else if 20<r.syms.length then 3
 else if ZCh r.syms≠0 then ZCh r.syms
 else if 20<r.lens.length then 3
 else ZDn r.frames r.lens
structure Rl.Ok (r:Rl):Prop where
 name:ZFg r.name=true
 gauge:r.gauge=8\/r.gauge=16\/r.gauge=35
 base:1<=r.base/\r.base<=3
 frames:1<=r.frames/\r.frames<=200000
 keep:0<=r.keep/\r.keep<=50
 ylo:1890<=r.ylo/\r.ylo<=2100
 yhi:1890<=r.yhi/\r.yhi<=2100
 mlen:r.marks.length<=60
 slen:r.syms.length<=20
 llen:r.lens.length<=20
 marks:∀m∈r.marks,(0<=m.1/\m.1<r.frames)/\(0<=m.2.1/\m.2.1<=99)/\(0<=m.2.2/\m.2.2<=9999)
 up:r.marks.Pairwise fun a b=>a.1<b.1
 syms:∀x∈r.syms,(0<=x.1/\x.1<=99)/\(0<=x.2/\x.2<=19)
 lens:∀x∈r.lens,(1<=x.1/\x.1<=r.frames)/\(1<=x.2.1/\x.2.1<=400000000)/\(0<=x.2.2/\x.2.2<=400000000)
theorem ZMD {fr:Int}:∀{l:List I3}{b:Int},ZBu fr b l=0->(∀m∈l,(0<=m.1/\m.1<fr)/\(0<=m.2.1/\m.2.1<=99)/\(0<=m.2.2/\m.2.2<=9999))/\(∀m∈l,b<m.1)/\l.Pairwise fun a b=>a.1<b.1
 | [],_,_=>⟨fun _ h=>(nomatch h),fun _ h=>(nomatch h),.nil⟩
 | m::l,b,h=>by
  unfold ZBu at h
  split at h
  ·exact absurd h (by decide)
  rename_i h1
  split at h
  ·exact absurd h (by decide)
  rename_i h2;obtain⟨i1,i2,i3⟩:=ZMD h;refine⟨fun x hx=>?_,fun x hx=>?_,List.pairwise_cons.2 ⟨i2,i3⟩⟩
  ·rcases List.mem_cons.1 hx with rfl|hx
   ·omega
   ·exact i1 x hx
  ·rcases List.mem_cons.1 hx with rfl|hx
   ·omega
   ·have:=i2 x hx;omega
theorem ZPs:∀{l:List (Int×Int)},ZCh l=0->∀x∈l,(0<=x.1/\x.1<=99)/\(0<=x.2/\x.2<=19)
 | [],_,_,h=>nomatch h
 | y::l,h,x,hx=>by
  unfold ZCh at h
  split at h
  ·exact absurd h (by decide)
  rename_i h1
  rcases List.mem_cons.1 hx with rfl|hx
  ·omega
  ·exact ZPs h x hx
theorem ZPG {fr:Int}:∀{l:List I3},ZDn fr l=0->∀x∈l,(1<=x.1/\x.1<=fr)/\(1<=x.2.1/\x.2.1<=400000000)/\(0<=x.2.2/\x.2.2<=400000000)
 | [],_,_,h=>nomatch h
 | y::l,h,x,hx=>by
  unfold ZDn at h
  split at h
  ·exact absurd h (by decide)
  rename_i h1
  rcases List.mem_cons.1 hx with rfl|hx
  ·omega
  ·exact ZPG h x hx
theorem ZId {r:Rl}(h:ZBc r=0):r.Ok:=by
 unfold ZBc at h
 by_cases h1:ZCA r=0
 rotate_left
 ·rw[if_pos h1] at h;exact absurd h h1
 rw[if_neg (fun q=>q h1)] at h
 split at h
 ·exact absurd h (by decide)
 rename_i h2
 by_cases h3:ZBu r.frames (-1) r.marks=0
 rotate_left
 ·rw[if_pos h3] at h;exact absurd h h3
 rw[if_neg (fun q=>q h3)] at h
 split at h
 ·exact absurd h (by decide)
 rename_i h4
 by_cases h5:ZCh r.syms=0
 rotate_left
 ·rw[if_pos h5] at h;exact absurd h h5
 rw[if_neg (fun q=>q h5)] at h
 split at h
 ·exact absurd h (by decide)
 rename_i h6;obtain⟨m1,-,m3⟩:=ZMD h3;unfold ZCA at h1
 split at h1
 ·exact absurd h1 (by decide)
 rename_i q1
 split at h1
 ·exact absurd h1 (by decide)
 rename_i q2
 split at h1
 ·exact absurd h1 (by decide)
 split at h1
 ·exact absurd h1 (by decide)
 refine⟨by simpa using q1,?_,by omega,by omega,by omega,by omega,by omega,by omega,by omega,by omega,m1,m3,ZPs h5,ZPG h⟩;have:ZDD r.gauge≠0:=fun e=>q2 (.inl e);unfold ZDD at this
 split at this
 ·exact .inl ‹_›
 split at this
 ·exact .inr (.inl ‹_›)
 split at this
 ·exact .inr (.inr ‹_›)
 ·exact absurd rfl this
def ZGK (S:List Nt)(kind:Int)(f:Nat):Bool:=S.any fun x=>decide (x.kind=kind/\x.frm<=(f:Int)/\(f:Int)<=x.til)
def ZDE (S:List Nt)(kind:Int)(n:Nat):List Bool:=(List.range n).map (ZGK S kind)
theorem ZDa (S:List Nt)(kind:Int)(n:Nat):(ZDE S kind n).length=n:=by simp[ZDE]
theorem ZEQ (S:List Nt)(kind:Int)(n f:Nat):(ZDE S kind n)[f]?=if f<n then some (ZGK S kind f) else none:=by
 unfold ZDE;rw[List.getElem?_map]
 split
 ·rename_i h;rw[List.getElem?_range h];rfl
 ·rename_i h;rw[List.getElem?_eq_none (by simpa using h)];rfl
theorem ZH4 (S:List Nt)(x:Nt)(kind:Int)(f:Nat):ZGK (S++[x]) kind f=(ZGK S kind f || decide (x.kind=kind/\x.frm<=(f:Int)/\(f:Int)<=x.til)):=by
 unfold ZGK;rw[List.any_append];simp
theorem ZOd {S:List Nt}{x:Nt}{kind:Int}(n:Nat)(hk:¬x.kind=kind):ZDE (S++[x]) kind n=ZDE S kind n:=by
 unfold ZDE;refine List.map_congr_left fun f _=>?_;rw[ZH4,decide_eq_false (fun q=>hk q.1),Bool.or_false]
theorem ZOW {S:List Nt}{x:Nt}{kind:Int}{n a b:Nat}{g:Bool->Value}(hk:x.kind=kind)(ha:x.frm=a)(hb:x.til=b)(hab:a<=b)(hbn:b<n) :
  ((ZDE S kind n).map g).take a++(List.replicate (b+1-a) (g true)++((ZDE S kind n).map g).drop (a+(b+1-a)))=(ZDE (S++[x]) kind n).map g:=by
 refine List.ext_getElem? fun f=>?_;rw[List.getElem?_map,ZEQ,ZH4];have hl:((ZDE S kind n).map g).length=n:=by rw[List.length_map,ZDa]
 have hd:(x.kind=kind/\x.frm<=(f:Int)/\(f:Int)<=x.til) ↔ a<=f/\f<=b:=by
  rw[ha,hb];constructor
  ·rintro⟨-,h1,h2⟩;omega
  ·rintro⟨h1,h2⟩;exact⟨hk,by omega,by omega⟩
 rw[decide_eq_decide.2 hd]
 by_cases h1:f<a
 ·rw[List.getElem?_append_left (by rw[List.length_take,hl];omega),List.getElem?_take,if_pos h1,List.getElem?_map,ZEQ,decide_eq_false (by omega),Bool.or_false]
 ·rw[List.getElem?_append_right (by rw[List.length_take,hl];omega),List.length_take,hl,Nat.min_eq_left (by omega)]
  by_cases h2:f<=b
  ·rw[List.getElem?_append_left (by rw[List.length_replicate];omega),List.getElem?_replicate,if_pos (by omega),if_pos (by omega),decide_eq_true (by omega),Bool.or_true];rfl
  ·rw[List.getElem?_append_right (by rw[List.length_replicate];omega),List.length_replicate,List.getElem?_drop,List.getElem?_map,ZEQ,decide_eq_false (by omega),Bool.or_false]
   rw[show a+(b+1-a)+(f-a-(b+1-a))=f by omega]
def picN (ld:List Bool)(f:Nat):Nat:=(ld.take f).countP fun b=>!b
def picL (ld:List Bool):List Value:=(List.range (ld.length+1)).map fun f=>(.int .i64 (picN ld f:Nat))
theorem ZKR {ld:List Bool}{f:Nat}(h:f<ld.length):picN ld (f+1)=picN ld f+if ld[f]=true then 0 else 1:=by
 unfold picN;rw[List.take_add_one,List.getElem?_eq_getElem h,Option.toList_some,List.countP_append];cases ld[f] <;> simp
theorem ZTO (ld:List Bool)(f:Nat):picN ld f<=f:=by
 unfold picN;exact Nat.le_trans List.countP_le_length (by rw[List.length_take];omega)
theorem ZEb (ld:List Bool)(f:Nat):picN ld f<=ld.length:=by
 unfold picN;exact Nat.le_trans List.countP_le_length (by rw[List.length_take];omega)
theorem ZGQ {ld:List Bool}{f:Nat}(h:f<=ld.length):(picL ld)[f]?=some (.int .i64 (picN ld f:Nat)):=by
 unfold picL;rw[List.getElem?_map,List.getElem?_range (by omega)];rfl
theorem ZTJ {ld:List Bool}{f:Nat}(h:f<ld.length):decide ((picN ld f:Int)=(picN ld (f+1):Int))=ld[f]:=by
 rw[ZKR h]
 cases ld[f] with
 | true=>simp
 | false =>
  refine decide_eq_false fun q=>?_;rw[if_neg (by decide)] at q;omega
def picP (ld:List Bool)(k:Nat):List Value:=(List.range (ld.length+1)).map fun f=>if f<=k then (.int .i64 (picN ld f:Nat)) else .int .i64 0
theorem ZDl (ld:List Bool)(k:Nat):(picP ld k).length=ld.length+1:=by simp[picP]
theorem ZGX {ld:List Bool}{k f:Nat}(h:f<=ld.length):(picP ld k)[f]?=some (if f<=k then (.int .i64 (picN ld f:Nat)) else .int .i64 0):=by
 unfold picP;rw[List.getElem?_map,List.getElem?_range (by omega)];rfl
theorem ZRr (ld:List Bool):picP ld ld.length=picL ld:=by
 unfold picP picL;refine List.map_congr_left fun f hf=>?_;rw[List.mem_range] at hf;rw[if_pos (by omega)]
theorem ZOZ (ld:List Bool):picP ld 0=List.replicate (ld.length+1) (.int .i64 0):=by
 refine List.ext_getElem? fun f=>?_;rw[List.getElem?_replicate]
 split
 ·rw[ZGX (by omega)]
  split
  ·rename_i h;obtain rfl:f=0:=by omega
   rfl
  ·rfl
 ·rw[List.getElem?_eq_none (by rw[ZDl];omega)]
theorem ZQC {ld:List Bool}{k:Nat}(h:k<ld.length):(picP ld k).set (k+1) (.int .i64 (picN ld (k+1):Nat))=picP ld (k+1):=by
 refine List.ext_getElem? fun f=>?_
 by_cases e:f<=ld.length
 ·rw[ZGX e]
  by_cases e2:f=k+1
  ·subst e2
   rw[List.getElem?_set_self (by rw[ZDl];omega),if_pos (Nat.le_refl _)]
  ·rw[List.getElem?_set_ne (fun q=>e2 q.symm),ZGX e]
   by_cases e3:f<=k
   ·rw[if_pos e3,if_pos (by omega)]
   ·rw[if_neg e3,if_neg (by omega)]
 ·rw[List.getElem?_eq_none (by rw[List.length_set,ZDl];omega),List.getElem?_eq_none (by rw[ZDl];omega)]
structure Pc where
 frm:Int
 til:Int
 leader:Bool
deriving DecidableEq,Inhabited
def ldg (l:List Bool)(f:Nat):Bool:=l.getD f false
theorem ZN9 {l:List Bool}{f:Nat}(h:f<l.length):l[f]=ldg l f:=by unfold ldg;rw[List.getD_eq_getElem?_getD,List.getElem?_eq_getElem h];rfl
def ZHj (ld sp:List Bool)(p:Pc)(f:Nat):Bool:=(ldg ld f != p.leader) || (!ldg ld f && ldg sp f)
def ZB7 (ld sp:List Bool)(s:List Pc×Pc)(f:Nat):List Pc×Pc:=if ZHj ld sp s.2 f=true then (s.1++[s.2],⟨f,f,ldg ld f⟩) else (s.1,⟨s.2.frm,f,s.2.leader⟩)
def pcAt (ld sp:List Bool):Nat->List Pc×Pc
 | 0=>([],⟨0,0,ldg ld 0⟩)
 | k+1=>ZB7 ld sp (pcAt ld sp k) (k+1)
def ZBd (ld sp:List Bool)(n:Nat):List Pc:=(pcAt ld sp (n-1)).1++[(pcAt ld sp (n-1)).2]
theorem ZJ4 (ld sp:List Bool)(k:Nat):∀j,∃post,(pcAt ld sp (k+j)).1=(pcAt ld sp k).1++post
 | 0=>⟨[],by simp⟩
 | j+1=>by
  obtain⟨post,h⟩:=ZJ4 ld sp k j
  show ∃post,(ZB7 ld sp (pcAt ld sp (k+j)) (k+j+1)).1=_
  unfold ZB7
  split
  ·exact⟨post++[(pcAt ld sp (k+j)).2],by rw[h,List.append_assoc]⟩
  ·exact⟨post,h⟩
theorem ZNt {ld sp:List Bool}{k n:Nat}(hk:k+1<n)(h:ZHj ld sp (pcAt ld sp k).2 (k+1)=true):∃post,ZBd ld sp n=(pcAt ld sp k).1++(pcAt ld sp k).2::post:=by
 have h1:(pcAt ld sp (k+1)).1=(pcAt ld sp k).1++[(pcAt ld sp k).2]:=by
  show (ZB7 ld sp (pcAt ld sp k) (k+1)).1=_
  unfold ZB7;rw[if_pos h]
 obtain⟨post,h2⟩:=ZJ4 ld sp (k+1) (n-1-(k+1));rw[show k+1+(n-1-(k+1))=n-1 by omega,h1] at h2;refine⟨post++[(pcAt ld sp (n-1)).2],?_⟩;unfold ZBd;rw[h2];simp
theorem ZGO (ld sp:List Bool):∀k,(∀p∈(pcAt ld sp k).1,(0<=p.frm/\p.frm<(pcAt ld sp k).2.frm))/\(pcAt ld sp k).1.Pairwise (fun a b=>a.frm<b.frm)/\0<=(pcAt ld sp k).2.frm/\(pcAt ld sp k).2.frm<=k/\(pcAt ld sp k).1.length<=k
 | 0=>⟨fun _ h=>(nomatch h),.nil,Int.le_refl _,Int.le_refl _,Nat.le_refl _⟩
 | k+1=>by
  obtain⟨h1,h2,h3,h4,h5⟩:=ZGO ld sp k
  show (∀p∈(ZB7 ld sp (pcAt ld sp k) (k+1)).1,(0<=p.frm/\p.frm<(ZB7 ld sp (pcAt ld sp k) (k+1)).2.frm))/\(ZB7 ld sp (pcAt ld sp k) (k+1)).1.Pairwise (fun a b=>a.frm<b.frm)/\0<=(ZB7 ld sp (pcAt ld sp k) (k+1)).2.frm/\(ZB7 ld sp (pcAt ld sp k) (k+1)).2.frm<=((k+1:Nat):Int)/\(ZB7 ld sp (pcAt ld sp k) (k+1)).1.length<=k+1
  unfold ZB7
  split
  ·refine⟨fun p hp=>?_,List.pairwise_append.2 ⟨h2,by simp,fun a ha b hb=>?_⟩,by simp;omega,Int.le_refl _,by simp;omega⟩
   ·simp only
    rcases List.mem_append.1 hp with q|q
    ·have:=h1 p q;omega
    ·rw[List.mem_singleton] at q;subst q;omega
   ·rw[List.mem_singleton] at hb;subst hb;exact (h1 a ha).2
  ·exact⟨h1,h2,h3,by simp only;omega,by simp only;omega⟩
theorem ZOB (ld sp:List Bool)(n:Nat):(ZBd ld sp n).Pairwise (fun a b=>a.frm<b.frm):=by
 obtain⟨h1,h2,h3,h4,-⟩:=ZGO ld sp (n-1);unfold ZBd;refine List.pairwise_append.2 ⟨h2,by simp,fun a ha b hb=>?_⟩;rw[List.mem_singleton] at hb;subst hb;exact (h1 a ha).2
theorem ZNA (ld sp:List Bool){n:Nat}(hn:0<n):∀p∈ZBd ld sp n,0<=p.frm/\p.frm<n:=fun p hp=>by
 obtain⟨h1,h2,h3,h4,-⟩:=ZGO ld sp (n-1);unfold ZBd at hp
 rcases List.mem_append.1 hp with q|q
 ·have:=h1 p q;omega
 ·rw[List.mem_singleton] at q;subst q;omega
theorem ZNl (ld sp:List Bool){n:Nat}(hn:0<n):(ZBd ld sp n).length<=n:=by
 obtain⟨-,-,-,-,h5⟩:=ZGO ld sp (n-1);unfold ZBd;simp;omega
structure Sk where
 who:List UInt8
 number:Int
 first:List UInt8
 fnumber:Int
deriving DecidableEq,Inhabited
structure Gp where
 frame:Int
 kind:Int
 lo:Int
 hi:Int
deriving DecidableEq,Inhabited
structure TdS where
 by':Option Nt
 lo:Int
 hi:Int
 l:List Sk
def ZDd (frame:Int)(s:TdS)(x:Nt):TdS :=
 if x.kind=1/\x.frm=frame then
  match s.by' with
  | none=>⟨some x,x.lo,x.hi,s.l⟩
  | some y=>if max s.lo x.lo<=min s.hi x.hi then ⟨some y,max s.lo x.lo,min s.hi x.hi,s.l⟩ else ⟨some y,s.lo,s.hi,s.l++[⟨x.who,x.number,y.who,y.number⟩]⟩
 else s
def ZAf (S:List Nt)(frame:Int):TdS:=S.foldl (ZDd frame) ⟨none,0,0,[]⟩
def ZDS (S:List Nt)(frame:Int):(Int×Int)×List Sk:=((match (ZAf S frame).by' with|none=>((ZAf S frame).lo,400000)|some _=>((ZAf S frame).lo,(ZAf S frame).hi)),(ZAf S frame).l)
theorem ZNW (S:List Nt)(x:Nt)(frame:Int):ZAf (S++[x]) frame=ZDd frame (ZAf S frame) x:=by unfold ZAf;rw[List.foldl_append];rfl
def Bd (lo hi:Int):Prop:=0<=lo/\lo<=400000/\0<=hi/\hi<=400000
theorem ZUb {frame:Int}{s:TdS}{x:Nt}(hs:Bd s.lo s.hi)(hx:Bd x.lo x.hi):Bd (ZDd frame s x).lo (ZDd frame s x).hi:=by
 unfold Bd at *;unfold ZDd
 split
 ·split
  ·exact hx
  ·split
   ·simp only;omega
   ·exact hs
 ·exact hs
theorem ZQ7 {S:List Nt}(frame:Int)(h:∀x∈S,Bd x.lo x.hi):Bd (ZAf S frame).lo (ZAf S frame).hi:=by
 have key:∀(S:List Nt) (s:TdS),(∀x∈S,Bd x.lo x.hi)->Bd s.lo s.hi->Bd (S.foldl (ZDd frame) s).lo (S.foldl (ZDd frame) s).hi:=by
  intro S
  induction S with
  | nil=>intro s _ hs;exact hs
  | cons x S ih=>intro s h hs;exact ih _ (fun y hy=>h y (List.mem_cons_of_mem _ hy)) (ZUb hs (h x List.mem_cons_self))
 exact key S _ h (by unfold Bd;simp)
theorem ZHB (S:List Nt)(frame:Int):(ZAf S frame).l.length<=S.length:=by
 have key:∀(S:List Nt) (s:TdS),(S.foldl (ZDd frame) s).l.length<=s.l.length+S.length:=by
  intro S
  induction S with
  | nil=>intro s;exact Nat.le_refl _
  | cons x S ih =>
   intro s;refine Nat.le_trans (ih _) ?_;have:(ZDd frame s x).l.length<=s.l.length+1:=by
    unfold ZDd
    split
    ·split
     ·exact Nat.le_succ _
     ·split
      ·exact Nat.le_succ _
      ·simp
    ·exact Nat.le_succ _
   rw[List.length_cons];omega
 have:=key S ⟨none,0,0,[]⟩
 simpa [ZAf] using this
theorem ZPD {S:List Nt}(frame:Int)(h:∀x∈S,Bd x.lo x.hi):Bd (ZDS S frame).1.1 (ZDS S frame).1.2:=by
 have:=ZQ7 frame h;unfold ZDS;unfold Bd at *;simp only
 split
 ·simp only;omega
 ·exact this
def ZB6 (S:List Nt)(s:List Gp×List Sk)(p:Pc):List Gp×List Sk :=
 if p.leader=true then s
 else if s.1=[] then ([⟨p.frm,1,0,400000⟩],s.2)
 else (s.1++[⟨p.frm,2,(ZDS S p.frm).1.1,(ZDS S p.frm).1.2⟩],s.2++(ZDS S p.frm).2)
def ZCH (S:List Nt)(L:List Pc):List Gp×List Sk:=L.foldl (ZB6 S) ([],[])
theorem ZHa (S:List Nt)(L:List Pc)(p:Pc):ZCH S (L++[p])=ZB6 S (ZCH S L) p:=by unfold ZCH;rw[List.foldl_append];rfl
def ZHA (S:List Nt)(L:List Pc)(n:Int):List Gp×List Sk:=((ZCH S L).1++[⟨n,if (ZCH S L).1=[] then 1 else 3,0,400000⟩],(ZCH S L).2)
def Gp.Bd (x:Gp):Prop:=Dw.Bd x.lo x.hi
theorem ZKb {S:List Nt}(h:∀x∈S,Bd x.lo x.hi)(L:List Pc):(∀g∈(ZCH S L).1,g.Bd)/\(ZCH S L).1.length<=L.length/\(ZCH S L).2.length<=L.length*S.length:=by
 have key:∀(L:List Pc) (s:List Gp×List Sk),(∀g∈s.1,g.Bd)->(∀g∈(L.foldl (ZB6 S) s).1,g.Bd)/\(L.foldl (ZB6 S) s).1.length<=s.1.length+L.length/\(L.foldl (ZB6 S) s).2.length<=s.2.length+L.length*S.length:=by
  intro L
  induction L with
  | nil=>intro s hs;exact⟨hs,Nat.le_refl _,by simp⟩
  | cons p L ih =>
   intro s hs;have h1:(∀g∈(ZB6 S s p).1,g.Bd)/\(ZB6 S s p).1.length<=s.1.length+1/\(ZB6 S s p).2.length<=s.2.length+S.length:=by
    unfold ZB6
    split
    ·exact⟨hs,Nat.le_succ _,Nat.le_add_right _ _⟩
    ·split
     ·refine⟨fun g hg=>?_,by simp,Nat.le_add_right _ _⟩
      rw[List.mem_singleton] at hg;subst hg;unfold Gp.Bd Dw.Bd;simp
     ·refine⟨fun g hg=>?_,by simp,?_⟩
      ·rcases List.mem_append.1 hg with q|q
       ·exact hs g q
       ·rw[List.mem_singleton] at q;subst q
        exact ZPD p.frm h
      ·rw[List.length_append]
       have:=ZHB S p.frm;unfold ZDS;simp only;omega
   obtain⟨i1,i2,i3⟩:=ih _ h1.1;refine⟨i1,by rw[List.length_cons];show _<=_;exact Nat.le_trans i2 (by omega),Nat.le_trans i3 ?_⟩;rw[List.length_cons,Nat.succ_mul];omega
 have:=key L ([],[]) (fun _ h=>nomatch h)
 simpa [ZCH] using this
theorem ZKC (S:List Nt):∀(L:List Pc),L.Pairwise (fun a b=>a.frm<b.frm)->(ZCH S L).1.Pairwise (fun a b=>a.frame<b.frame)/\∀g∈(ZCH S L).1,∃p∈L,g.frame=p.frm:=by
 intro L;rw[<-List.reverse_reverse L]
 induction L.reverse with
 | nil=>intro _;exact⟨.nil,fun _ h=>nomatch h⟩
 | cons p K ih =>
  rw[List.reverse_cons,ZHa];intro h;rw[List.pairwise_append] at h;obtain⟨h1,-,h3⟩:=h;obtain⟨i1,i2⟩:=ih h1
  have hlt:∀g∈(ZCH S K.reverse).1,g.frame<p.frm:=fun g hg=>by
   obtain⟨q,hq,e⟩:=i2 g hg;rw[e];exact h3 q hq p (by simp)
  unfold ZB6
  split
  ·exact⟨i1,fun g hg=>by obtain⟨q,hq,e⟩:=i2 g hg;exact⟨q,by simp[hq],e⟩⟩
  ·split
   ·refine⟨by simp,fun g hg=>?_⟩
    rw[List.mem_singleton] at hg;subst hg;exact⟨p,by simp,rfl⟩
   ·refine⟨List.pairwise_append.2 ⟨i1,by simp,fun a ha b hb=>?_⟩,fun g hg=>?_⟩
    ·rw[List.mem_singleton] at hb;subst hb;exact hlt a ha
    ·rcases List.mem_append.1 hg with q|q
     ·obtain⟨z,hz,e⟩:=i2 g q;exact⟨z,by simp[hz],e⟩
     ·rw[List.mem_singleton] at q;subst q;exact⟨p,by simp,rfl⟩
def sumG (f:Gp->Int)(p:Gp->Bool)(l:List Gp):Int:=l.foldl (fun a x=>if p x=true then a+f x else a) 0
theorem ZFG (f:Gp->Int)(p:Gp->Bool)(l:List Gp)(x:Gp):sumG f p (l++[x])=if p x=true then sumG f p l+f x else sumG f p l:=by unfold sumG;rw[List.foldl_append];rfl
theorem ZG0 {f:Gp->Int}(p:Gp->Bool){l:List Gp}(h:∀x∈l,0<=f x/\f x<=400000):0<=sumG f p l/\sumG f p l<=400000*l.length:=by
 have key:∀(l:List Gp) (a:Int) (n:Nat),(∀x∈l,0<=f x/\f x<=400000)->(0<=a/\a<=400000*n)->0<=l.foldl (fun a x=>if p x=true then a+f x else a) a/\l.foldl (fun a x=>if p x=true then a+f x else a) a<=400000*((n+l.length:Nat):Int):=by
  intro l
  induction l with
  | nil=>intro a n _ h;simpa using h
  | cons x l ih =>
   intro a n h ha;have hx:=h x List.mem_cons_self
   have:=ih (if p x=true then a+f x else a) (n+1) (fun y hy=>h y (List.mem_cons_of_mem _ hy)) (by split <;> constructor <;> omega)
   rw[List.length_cons,show n+(l.length+1)=n+1+l.length by omega];exact this
 have:=key l 0 0 h ⟨Int.le_refl _,by simp⟩
 simpa [sumG] using this
def ZD4 (G:List Gp)(lo hi:Int)(p:Gp->Bool):(Int×Int)×Bool :=
 ((max (sumG Gp.lo p G) (lo-sumG Gp.hi (fun x=>!p x) G),min (sumG Gp.hi p G) (hi-sumG Gp.lo (fun x=>!p x) G)),
  decide (max (sumG Gp.lo p G) (lo-sumG Gp.hi (fun x=>!p x) G)<=min (sumG Gp.hi p G) (hi-sumG Gp.lo (fun x=>!p x) G)))
theorem ZQR {l:List Gp}(h:∀x∈l,x.Bd):∀x∈l,0<=x.lo/\x.lo<=400000:=fun x hx=>by have:=h x hx;unfold Gp.Bd Bd at this;omega
theorem ZQ6 {l:List Gp}(h:∀x∈l,x.Bd):∀x∈l,0<=x.hi/\x.hi<=400000:=fun x hx=>by have:=h x hx;unfold Gp.Bd Bd at this;omega
def Sb (x:Int×Int):Prop:=(-1000000000000<=x.1/\x.1<=1000000000000) /\ -1000000000000<=x.2/\x.2<=1000000000000
theorem ZOe {G:List Gp}{lo hi:Int}(p:Gp->Bool)(h:∀x∈G,x.Bd)(hl:G.length<=200001)(h1:-10000000000<=lo/\lo<=10000000000)(h2:-10000000000<=hi/\hi<=10000000000):Sb (ZD4 G lo hi p).1:=by
 have a1:=ZG0 p (ZQR h);have a2:=ZG0 (fun x=>!p x) (ZQR h);have a3:=ZG0 p (ZQ6 h);have a4:=ZG0 (fun x=>!p x) (ZQ6 h);unfold Sb ZD4;simp only;omega
structure Gr where
 gaps:List Gp
 lo:Int
 hi:Int
deriving Inhabited
def betw (a m:I3)(x:Gp):Bool:=decide (a.1<x.frame/\x.frame<=m.1)
structure GrS where
 all:List Gr
 rest:List Gp
 wrong:List Int
 left:Int
def misN (ld:List Bool)(foot:Int)(a m:I3):Int:=(m.2.2-a.2.2)*foot-((picN ld (m.1.toNat+1):Int)-(picN ld (a.1.toNat+1):Int))
def ZCn (ld:List Bool)(foot:Int)(M:List I3)(l:List Gp)(s:GrS)(i:Nat):GrS :=
 if i=0 then s
 else if (M.getD (i-1) default).2.1≠(M.getD i default).2.1\/ldg ld (M.getD (i-1) default).1.toNat=true\/ldg ld (M.getD i default).1.toNat=true then s
 else if (ZD4 (l.filter (betw (M.getD (i-1) default) (M.getD i default))) (misN ld foot (M.getD (i-1) default) (M.getD i default)) (misN ld foot (M.getD (i-1) default) (M.getD i default)) (betw (M.getD (i-1) default) (M.getD i default))).2=false then
  ⟨s.all,s.rest,s.wrong++[(i:Int)],s.left⟩
 else ⟨s.all++[⟨l.filter (betw (M.getD (i-1) default) (M.getD i default)),misN ld foot (M.getD (i-1) default) (M.getD i default),misN ld foot (M.getD (i-1) default) (M.getD i default)⟩],s.rest.filter (fun x=>!betw (M.getD (i-1) default) (M.getD i default) x),s.wrong,s.left+misN ld foot (M.getD (i-1) default) (M.getD i default)⟩
def grAt (ld:List Bool)(foot:Int)(M:List I3)(l:List Gp):Nat->GrS
 | 0=>⟨[],l,[],(picN ld ld.length:Int)⟩
 | k+1=>ZCn ld foot M l (grAt ld foot M l k) k
def ZC9 (ld:List Bool)(foot:Int)(M:List I3)(l:List Gp)(wlo whi:Int):List Gr×List Int :=
 ((grAt ld foot M l M.length).all++[⟨(grAt ld foot M l M.length).rest,wlo-(grAt ld foot M l M.length).left,whi-(grAt ld foot M l M.length).left⟩],(grAt ld foot M l M.length).wrong)
theorem ZR4 {ld:List Bool}{foot:Int}{a m:I3}(hl:ld.length<=200000)(hf:0<=foot/\foot<=80)(ha:0<=a.2.2/\a.2.2<=9999)(hm:0<=m.2.2/\m.2.2<=9999):-799920<=(m.2.2-a.2.2)*foot/\(m.2.2-a.2.2)*foot<=799920 /\ -1000000<=misN ld foot a m/\misN ld foot a m<=1000000:=by
 have h1:=ZEb ld (m.1.toNat+1);have h2:=ZEb ld (a.1.toNat+1)
 have key:∀x:Int,-9999<=x->x<=9999 -> -799920<=x*foot/\x*foot<=799920:=fun x q1 q2=>by
  constructor
  ·have:-9999*foot<=x*foot:=Int.mul_le_mul_of_nonneg_right q1 hf.1
   omega
  ·have:x*foot<=9999*foot:=Int.mul_le_mul_of_nonneg_right q2 hf.1
   omega
 have:=key (m.2.2-a.2.2) (by omega) (by omega);unfold misN;omega
structure GrOK (l:List Gp)(k:Nat)(s:GrS):Prop where
 all:∀g∈s.all,(∀x∈g.gaps,x∈l)/\g.gaps.length<=l.length/\(-1000000<=g.lo/\g.lo<=1000000) /\ -1000000<=g.hi/\g.hi<=1000000
 rest:(∀x∈s.rest,x∈l)/\s.rest.length<=l.length
 left:-1000000*(k:Int)<=s.left/\s.left<=200000+1000000*(k:Int)
 alen:s.all.length<=k
 wlen:s.wrong.length<=k
theorem ZTX {ld:List Bool}{foot:Int}{M:List I3}{l:List Gp}(hl:ld.length<=200000)(hf:0<=foot/\foot<=80)(hM:∀m∈M,0<=m.2.2/\m.2.2<=9999):∀k≤M.length,GrOK l k (grAt ld foot M l k)
 | 0,_=>⟨fun _ h=>(nomatch h),⟨fun _ h=>h,Nat.le_refl _⟩,by
  have:=ZEb ld ld.length
  show -1000000*((0:Nat):Int)<=(picN ld ld.length:Int)/\(picN ld ld.length:Int)<=200000+1000000*((0:Nat):Int)
  omega,Nat.le_refl _,Nat.le_refl _⟩
 | k+1,hk=>by
  obtain⟨h1,h2,h3,h4,h5⟩:=ZTX hl hf hM (l:=l) k (by omega)
  have hget:∀i<M.length,0<=(M.getD i default).2.2/\(M.getD i default).2.2<=9999:=fun i hi=>by
   rw[List.getD_eq_getElem?_getD,List.getElem?_eq_getElem hi];exact hM _ (List.getElem_mem hi)
  obtain⟨-,-,b1,b2⟩:=ZR4 (ld:=ld) (foot:=foot) hl hf (hget (k-1) (by omega)) (hget k (by omega))
  show GrOK l (k+1) (ZCn ld foot M l (grAt ld foot M l k) k)
  generalize grAt ld foot M l k=s at *;have hsame:∀w,w.length<=k+1->GrOK l (k+1) ⟨s.all,s.rest,w,s.left⟩:=fun w hw=>⟨h1,h2,by show -1000000*((k+1:Nat):Int)<=s.left/\s.left<=200000+1000000*((k+1:Nat):Int);omega,Nat.le_succ_of_le h4,hw⟩;unfold ZCn
  split
  ·exact hsame s.wrong (Nat.le_succ_of_le h5)
  split
  ·exact hsame s.wrong (Nat.le_succ_of_le h5)
  split
  ·exact hsame _ (by simp;omega)
  refine⟨fun g hg=>?_,⟨fun x hx=>h2.1 x (List.mem_filter.1 hx).1,Nat.le_trans (List.length_filter_le _ _) h2.2⟩,by
   generalize misN ld foot (M.getD (k-1) default) (M.getD k default)=q at *
   show -1000000*((k+1:Nat):Int)<=s.left+q/\s.left+q<=200000+1000000*((k+1:Nat):Int)
   omega,by simp;omega,Nat.le_succ_of_le h5⟩
  rcases List.mem_append.1 hg with q|q
  ·exact h1 g q
  ·rw[List.mem_singleton] at q;subst q
   exact⟨fun x hx=>(List.mem_filter.1 hx).1,List.length_filter_le _ _,⟨b1,b2⟩,b1,b2⟩
def ZNH (g:Gr):Bool:=(ZD4 g.gaps g.lo g.hi (fun _=>true)).2
def ZSy (p s:Int×Int):Int×Int:=(p.1+s.1,p.2+s.2)
def befF (f:Int)(x:Gp):Bool:=decide (x.frame<=f)
def ZA6 (ld:List Bool)(l:List Gr)(f:Int):Int×Int:=l.foldl (fun p g=>ZSy p (ZD4 g.gaps g.lo g.hi (befF f)).1) ((picN ld f.toNat:Int),(picN ld f.toNat:Int))
theorem ZHI (ld:List Bool)(l:List Gr)(g:Gr)(f:Int):ZA6 ld (l++[g]) f=ZSy (ZA6 ld l f) (ZD4 g.gaps g.lo g.hi (befF f)).1:=by unfold ZA6;rw[List.foldl_append];rfl
def Gr.Bd (g:Gr):Prop:=(∀x∈g.gaps,x.Bd)/\g.gaps.length<=200001/\(-10000000000<=g.lo/\g.lo<=10000000000) /\ -10000000000<=g.hi/\g.hi<=10000000000
theorem ZOC {ld:List Bool}{f:Int}(hl:ld.length<=200000):∀{l:List Gr},(∀g∈l,g.Bd)->(-1000000000000*(l.length:Int)<=(ZA6 ld l f).1/\(ZA6 ld l f).1<=200000+1000000000000*(l.length:Int)) /\ -1000000000000*(l.length:Int)<=(ZA6 ld l f).2/\(ZA6 ld l f).2<=200000+1000000000000*(l.length:Int):=by
 intro l;rw[<-List.reverse_reverse l]
 induction l.reverse with
 | nil =>
  intro _;have:=ZEb ld f.toNat;unfold ZA6;simp only[List.reverse_nil,List.foldl_nil,List.length_nil];omega
 | cons g K ih =>
  intro h;rw[List.reverse_cons] at h ⊢;have h1:=ih fun x hx=>h x (List.mem_append_left _ hx);have hg:=h g (by simp);have h2:=ZOe (befF f) hg.1 hg.2.1 hg.2.2.1 hg.2.2.2;unfold Sb at h2;rw[ZHI];unfold ZSy;simp only[List.length_append,List.length_singleton];generalize (ZD4 g.gaps g.lo g.hi (befF f)).1=s at *;generalize ZA6 ld K.reverse f=p at *;simp only[List.length_reverse] at *;omega
theorem ZOj {S:List Nt}{L:List Pc}{n:Int}(h:∀x∈S,Bd x.lo x.hi):(∀g∈(ZHA S L n).1,g.Bd)/\0<(ZHA S L n).1.length/\(ZHA S L n).1.length<=L.length+1/\(ZHA S L n).2.length<=L.length*S.length:=by
 obtain⟨h1,h2,h3⟩:=ZKb h L;unfold ZHA;simp only[List.length_append,List.length_singleton];refine⟨fun g hg=>?_,by omega,by omega,h3⟩
 rcases List.mem_append.1 hg with q|q
 ·exact h1 g q
 ·rw[List.mem_singleton] at q;subst q
  unfold Gp.Bd Dw.Bd;simp
theorem ZN6 {ld:List Bool}{foot:Int}{M:List I3}{l:List Gp}{wlo whi:Int}(hl:ld.length<=200000)(hf:0<=foot/\foot<=80)(hM:∀m∈M,0<=m.2.2/\m.2.2<=9999)(hm:M.length<=60)(hb:∀x∈l,x.Bd)(hn:l.length<=200001)(hw:0<=wlo/\wlo<=400000)(hh:0<=whi/\whi<=400000):(∀g∈(ZC9 ld foot M l wlo whi).1,g.Bd)/\0<(ZC9 ld foot M l wlo whi).1.length/\(ZC9 ld foot M l wlo whi).1.length<=61/\(ZC9 ld foot M l wlo whi).2.length<=60:=by
 obtain⟨h1,h2,h3,h4,h5⟩:=ZTX hl hf hM (l:=l) M.length (Nat.le_refl _);unfold ZC9;simp only[List.length_append,List.length_singleton];have hc:((M.length:Nat):Int)<=60:=by omega
 refine⟨fun g hg=>?_,by omega,by omega,by omega⟩
 rcases List.mem_append.1 hg with q|q
 ·have:=h1 g q
  exact⟨fun x hx=>hb x (this.1 x hx),by omega,by omega,by omega⟩
 ·rw[List.mem_singleton] at q;subst q
  exact⟨fun x hx=>hb x (h2.1 x hx),Nat.le_trans h2.2 hn,by show _<=wlo-_/\wlo-_<=_;omega,by show _<=whi-_/\whi-_<=_;omega⟩
theorem ZRZ {S:List Nt}{L:List Pc}{n:Int}(h:L.Pairwise (fun a b=>a.frm<b.frm))(hn:∀p∈L,p.frm<n):(ZHA S L n).1.Pairwise (fun a b=>a.frame<b.frame):=by
 obtain⟨h1,h2⟩:=ZKC S L h;unfold ZHA;refine List.pairwise_append.2 ⟨h1,by simp,fun a ha b hb=>?_⟩;rw[List.mem_singleton] at hb;subst hb;obtain⟨p,hp,e⟩:=h2 a ha;rw[e];exact hn p hp
theorem ZO0 {ld:List Bool}{foot:Int}{M:List I3}{l:List Gp}(hM:M.Pairwise fun a b=>a.1<b.1):∀k≤M.length,((grAt ld foot M l k).all.flatMap Gr.gaps++(grAt ld foot M l k).rest).Perm l/\∃q:Gp->Bool,(grAt ld foot M l k).rest=l.filter q/\∀x:Gp,(k=0\/(M.getD (k-1) default).1<x.frame)->q x=true
 | 0,_=>⟨List.Perm.refl _,fun _=>true,(List.filter_eq_self.2 fun _ _=>rfl).symm,fun _ _=>rfl⟩
 | k+1,hk=>by
  obtain⟨h1,q,h2,h3⟩:=ZO0 (ld:=ld) (foot:=foot) (l:=l) hM k (by omega)
  show ((ZCn ld foot M l (grAt ld foot M l k) k).all.flatMap Gr.gaps++(ZCn ld foot M l (grAt ld foot M l k) k).rest).Perm l/\∃q:Gp->Bool,(ZCn ld foot M l (grAt ld foot M l k) k).rest=l.filter q/\∀x:Gp,(k+1=0\/(M.getD (k+1-1) default).1<x.frame)->q x=true
  generalize grAt ld foot M l k=s at *
  have hup:∀x:Gp,(M.getD k default).1<x.frame->(k=0\/(M.getD (k-1) default).1<x.frame):=fun x hx=>by
   by_cases hk0:k=0
   ·exact .inl hk0
   refine .inr (Int.lt_trans ?_ hx);rw[List.getD_eq_getElem?_getD,List.getD_eq_getElem?_getD,List.getElem?_eq_getElem (show k-1<M.length by omega),List.getElem?_eq_getElem (show k<M.length by omega)];exact List.pairwise_iff_getElem.1 hM (k-1) k (by omega) (by omega) (by omega)
  have hsame:∀w left,((⟨s.all,s.rest,w,left⟩:GrS).all.flatMap Gr.gaps++(⟨s.all,s.rest,w,left⟩:GrS).rest).Perm l/\∃q:Gp->Bool,(⟨s.all,s.rest,w,left⟩:GrS).rest=l.filter q/\∀x:Gp,(k+1=0\/(M.getD (k+1-1) default).1<x.frame)->q x=true :=
   fun w left=>⟨h1,q,h2,fun x hx=>h3 x (hup x (hx.resolve_left (by omega)))⟩
  unfold ZCn
  split
  ·exact hsame s.wrong s.left
  rename_i hk0
  split
  ·exact hsame s.wrong s.left
  split
  ·exact hsame _ _
  generalize hb:betw (M.getD (k-1) default) (M.getD k default)=p
  have hpq:∀x,p x=true->q x=true:=fun x hx=>by
   rw[<-hb] at hx;unfold betw at hx;exact h3 x (.inr (of_decide_eq_true hx).1)
  have hpk:∀x:Gp,(M.getD k default).1<x.frame->p x=false:=fun x hx=>by
   rw[<-hb];unfold betw;exact decide_eq_false fun h=>by omega
  refine⟨?_,fun x=>q x && !p x,?_,fun x hx=>?_⟩
  ·simp only[List.flatMap_append,List.flatMap_singleton]
   have e:l.filter p=s.rest.filter p:=by
    rw[h2,List.filter_filter];refine List.filter_congr fun x _=>?_
    cases hp:p x with
    | false=>rfl
    | true=>rw[hpq x hp];rfl
   rw[e,List.append_assoc];exact (List.Perm.append_left _ (List.filter_append_perm p s.rest)).trans h1
  ·show s.rest.filter (fun x=>!p x)=_
   rw[h2,List.filter_filter];exact List.filter_congr fun x _=>Bool.and_comm _ _
  ·have hx':=hx.resolve_left (by omega)
   show (q x && !p x)=true
   rw[h3 x (hup x hx'),hpk x hx'];rfl
theorem ZK8 {ld:List Bool}{foot:Int}{M:List I3}{l:List Gp}{wlo whi:Int}(hM:M.Pairwise fun a b=>a.1<b.1):((ZC9 ld foot M l wlo whi).1.flatMap Gr.gaps).Perm l:=by
 unfold ZC9;simp only[List.flatMap_append,List.flatMap_singleton];exact (ZO0 hM M.length (Nat.le_refl _)).1
def isF (f:Int)(x:Gp):Bool:=decide (x.frame=f)
def ZFM (g:Gr)(x:Gp):Gp:=⟨x.frame,x.kind,(ZD4 g.gaps g.lo g.hi (isF x.frame)).1.1,(ZD4 g.gaps g.lo g.hi (isF x.frame)).1.2⟩
def ZCd (l:List Gr):List Gp:=l.flatMap fun g=>g.gaps.map (ZFM g)
theorem ZEP (l:List Gr):(ZCd l).map Gp.frame=(l.flatMap Gr.gaps).map Gp.frame:=by
 unfold ZCd
 induction l with
 | nil=>rfl
 | cons g l ih =>
  rw[List.flatMap_cons,List.flatMap_cons,List.map_append,List.map_append,ih,List.map_map]
  rfl
abbrev ZS7:=Int×Int×Int×Int
def Gp.tup (x:Gp):ZS7:=(x.frame,x.kind,x.lo,x.hi)
theorem Gp.tup_inj {x y:Gp}(h:x.tup=y.tup):x=y:=by
 obtain⟨a1,a2,a3,a4⟩:=x;obtain⟨b1,b2,b3,b4⟩:=y;simp only[Gp.tup,Prod.mk.injEq] at h;obtain⟨rfl,rfl,rfl,rfl⟩:=h
 rfl
def ltGT:ZS7->ZS7->Prop:=lexP ltI (lexP ltI (lexP ltI ltI))
theorem ZDw:ZCL ltGT:=ZBK ZBR (ZBK ZBR (ZBK ZBR ZBR))
def ltG (x y:Gp):Prop:=ltGT x.tup y.tup
theorem ZCw:ZCL ltG where
 irr:=fun a=>ZDw.irr _
 tr:=fun h1 h2=>ZDw.tr h1 h2
 tri:=fun a b=>by
  rcases ZDw.tri a.tup b.tup with h|h|h
  ·exact .inl h
  ·exact .inr (.inl (Gp.tup_inj h))
  ·exact .inr (.inr h)
noncomputable instance ltGdec:DecidableRel ltG:=fun _ _=>Classical.propDecidable _
theorem ZNa (l:List Gr)(g:Gr):ZCd (l++[g])=ZCd l++g.gaps.map (ZFM g):=by unfold ZCd;rw[List.flatMap_append,List.flatMap_singleton]
theorem ZQ3 {l:List Gr}{k:Nat}(hk:k<l.length):(ZCd (l.take k)).length+l[k].gaps.length<=(ZCd l).length:=by
 have e:l=l.take k++l[k]::l.drop (k+1):=by rw[List.getElem_cons_drop,List.take_append_drop]
 have h:ZCd l=ZCd (l.take k)++(l[k].gaps.map (ZFM l[k])++ZCd (l.drop (k+1))):=by
  conv=>lhs;rw[e]
  unfold ZCd;rw[List.flatMap_append,List.flatMap_cons]
 rw[h,List.length_append,List.length_append,List.length_map];omega
noncomputable def ZLe (l:List Gp):List Gp:=mrgU ltG l
theorem ZHR (l:List Gp)(x:Gp):x∈ZLe l ↔ x∈l:=ZMk ZCw
theorem ZMV (l:List Gp):(ZLe l).Pairwise ltG:=ZPm ZCw _
theorem ZNs {l:List Gp}(h:l.Nodup):(ZLe l).length=l.length :=
 Nat.le_antisymm (ZIb ZCw l) (ZEd h fun x hx=>(ZHR l x).2 hx)
theorem ZES {l:List Gp}(h:(l.map Gp.frame).Nodup):l.Nodup:=by
 rw[List.Nodup,List.pairwise_map] at h;exact h.imp fun q e=>q (by rw[e])
theorem ZNX {l:List Gp}(h:(l.map Gp.frame).Nodup){x y:Gp}(hx:x∈l)(hy:y∈l)(e:x.frame=y.frame):x=y:=by
 rw[List.Nodup,List.pairwise_map] at h;obtain⟨i,hi,rfl⟩:=List.getElem_of_mem hx;obtain⟨j,hj,rfl⟩:=List.getElem_of_mem hy
 rcases Nat.lt_trichotomy i j with q|q|q
 ·exact absurd e (List.pairwise_iff_getElem.1 h i j hi hj q)
 ·subst q;rfl
 ·exact absurd e.symm (List.pairwise_iff_getElem.1 h j i hj hi q)
theorem ZOM {l:List Gp}(h:(l.map Gp.frame).Nodup){x y:Gp}(hx:x∈l)(hy:y∈l):x.frame-y.frame<0 ↔ ltG x y:=by
 constructor
 ·intro q
  exact .inl (show x.frame<y.frame by omega)
 ·rintro (q|⟨q,q2⟩)
  ·have:x.frame<y.frame:=q
   omega
  ·have:=ZNX h hx hy q
   subst this;exact absurd (.inr ⟨q,q2⟩) (ZDw.irr x.tup)
theorem ZLR {l:List Gp}{gs:List Gr}(hp:(gs.flatMap Gr.gaps).Perm l)(hu:l.Pairwise fun a b=>a.frame<b.frame):((ZCd gs).map Gp.frame).Nodup:=by
 rw[ZEP];refine ((hp.map Gp.frame).nodup_iff).2 ?_;rw[List.Nodup,List.pairwise_map];exact hu.imp fun q e=>by omega
theorem ZJh {l:List Gp}{gs:List Gr}(hp:(gs.flatMap Gr.gaps).Perm l):(ZCd gs).length=l.length:=by
 have:=congrArg List.length (ZEP gs);rw[List.length_map,List.length_map,hp.length_eq] at this;exact this
def ada:List UInt8:=[97,100,97]
def ben:List UInt8:=[98,101,110]
def nt (who:List UInt8)(number kind frm til lo hi:Int):Nt:={ who:=who,number:=number,rev:=0,kind:=kind,frm:=frm,til:=til,lo:=lo,hi:=hi }
def ZBQ:List Nt:=[nt ada 1 3 0 49 0 0,nt ada 2 1 150 150 20 40,nt ada 3 1 500 500 0 300,nt ada 4 2 520 525 0 0,nt ben 1 1 150 150 28 60,nt ben 2 2 524 530 0 0,nt ben 3 1 900 900 5 10]
def ZC8:List Nt:=[nt ada 1 3 0 49 0 0,nt ada 2 1 150 150 20 40,nt ben 1 1 150 150 28 60,nt ada 3 1 500 500 0 300,nt ada 4 2 520 525 0 0,nt ben 2 2 524 530 0 0,nt ben 3 1 900 900 5 10]
theorem ZOO:ZC8.Pairwise ltN:=by
 simp[ZC8,List.pairwise_cons,ltN,ltNT,lexP,Nt.tup,nt]
 decide
theorem ZJe:ZAO ZBQ=ZC8:=by
 have hd:∀x∈ZBQ,∀y∈ZBQ,y.key=x.key->y=x:=by decide
 refine ZH2 ZB1 (ZCy _) ZOO fun e=>?_;rw[ZBa];have hp:ZBQ.Perm ZC8:=by decide
 refine⟨fun h=>hp.mem_iff.1 h.1,fun h=>?_⟩;have h1:=hp.mem_iff.2 h;exact⟨h1,fun y hy hk=>.inr (hd e h1 y hy hk)⟩
def ld0:List Bool:=ZDE ZC8 3 1000
def sp0:List Bool:=ZDE ZC8 1 1000
theorem ZGP {S:List Nt}{kind:Int}{n f:Nat}(h:f<n):ldg (ZDE S kind n) f=ZGK S kind f:=by
 unfold ldg;rw[List.getD_eq_getElem?_getD,ZEQ,if_pos h];rfl
def ZRd (s:List Pc×Pc)(f:Nat):List Pc×Pc:=if ((ZGK ZC8 3 f != s.2.leader) || (!ZGK ZC8 3 f && ZGK ZC8 1 f))=true then (s.1++[s.2],⟨f,f,ZGK ZC8 3 f⟩) else (s.1,⟨s.2.frm,f,s.2.leader⟩)
theorem ZSu {k:Nat}(h:k+1<1000):pcAt ld0 sp0 (k+1)=ZRd (pcAt ld0 sp0 k) (k+1):=by
 show ZB7 ld0 sp0 (pcAt ld0 sp0 k) (k+1)=_
 unfold ZB7 ZHj ZRd ld0 sp0;rw[ZGP h,ZGP h]
theorem ZPC (k:Nat):∀j,k+j<1000->pcAt ld0 sp0 (k+j)=(List.range' (k+1) j).foldl ZRd (pcAt ld0 sp0 k)
 | 0,_=>rfl
 | j+1,h=>by
  show pcAt ld0 sp0 (k+j+1)=_
  rw[ZSu (by omega),ZPC k j (by omega),List.range'_concat,List.foldl_append,Nat.one_mul];rw[show k+1+j=k+j+1 by omega]
  rfl
theorem pcs {k j:Nat}{s s':List Pc×Pc}(h:pcAt ld0 sp0 k=s)(hk:k+j<1000)(e:(List.range' (k+1) j).foldl ZRd s=s'):pcAt ld0 sp0 (k+j)=s':=by rw[ZPC k j hk,h,e]
theorem pcs0:pcAt ld0 sp0 0=([],⟨0,0,true⟩):=by
 show ([],(⟨0,0,ldg ld0 0⟩:Pc))=_
 unfold ld0;rw[ZGP (by decide)]
 decide
theorem pcs1:pcAt ld0 sp0 (0+100)=([⟨0,49,true⟩],⟨50,100,false⟩):=pcs pcs0 (by decide) (by decide +kernel)
theorem pcs2:pcAt ld0 sp0 (100+100)=([⟨0,49,true⟩,⟨50,149,false⟩],⟨150,200,false⟩):=pcs pcs1 (by decide) (by decide +kernel)
theorem pcs3:pcAt ld0 sp0 (200+100)=([⟨0,49,true⟩,⟨50,149,false⟩],⟨150,300,false⟩):=pcs pcs2 (by decide) (by decide +kernel)
theorem pcs4:pcAt ld0 sp0 (300+100)=([⟨0,49,true⟩,⟨50,149,false⟩],⟨150,400,false⟩):=pcs pcs3 (by decide) (by decide +kernel)
theorem pcs5:pcAt ld0 sp0 (400+100)=([⟨0,49,true⟩,⟨50,149,false⟩,⟨150,499,false⟩],⟨500,500,false⟩):=pcs pcs4 (by decide) (by decide +kernel)
theorem pcs6:pcAt ld0 sp0 (500+100)=([⟨0,49,true⟩,⟨50,149,false⟩,⟨150,499,false⟩],⟨500,600,false⟩):=pcs pcs5 (by decide) (by decide +kernel)
theorem pcs7:pcAt ld0 sp0 (600+100)=([⟨0,49,true⟩,⟨50,149,false⟩,⟨150,499,false⟩],⟨500,700,false⟩):=pcs pcs6 (by decide) (by decide +kernel)
theorem pcs8:pcAt ld0 sp0 (700+100)=([⟨0,49,true⟩,⟨50,149,false⟩,⟨150,499,false⟩],⟨500,800,false⟩):=pcs pcs7 (by decide) (by decide +kernel)
theorem pcs9:pcAt ld0 sp0 (800+100)=([⟨0,49,true⟩,⟨50,149,false⟩,⟨150,499,false⟩,⟨500,899,false⟩],⟨900,900,false⟩):=pcs pcs8 (by decide) (by decide +kernel)
theorem ZU9:pcAt ld0 sp0 (900+99)=([⟨0,49,true⟩,⟨50,149,false⟩,⟨150,499,false⟩,⟨500,899,false⟩],⟨900,999,false⟩):=pcs pcs9 (by decide) (by decide +kernel)
theorem pc0:ZBd ld0 sp0 1000=[⟨0,49,true⟩,⟨50,149,false⟩,⟨150,499,false⟩,⟨500,899,false⟩,⟨900,999,false⟩]:=by
 unfold ZBd;rw[show (1000-1:Nat)=900+99 from rfl,ZU9];rfl
theorem gp0:ZHA ZC8 (ZBd ld0 sp0 1000) 1000=([⟨50,1,0,400000⟩,⟨150,2,28,40⟩,⟨500,2,0,300⟩,⟨900,2,5,10⟩,⟨1000,3,0,400000⟩],[]):=by rw[pc0];decide +kernel
def ZCZ:List I3:=[(100,4,10),(200,4,18),(700,4,60)]
def ZRn:Rl:={ name:=[110,97,110,97,45,50],gauge:=35,base:=1,frames:=1000,ylo:=1925,yhi:=1940,keep:=3,marks:=ZCZ,syms:=[(4,12),(7,10)],lens:=[(100,1891000,1000),(200,3780000,2500)] }
def ZJW:Rl:={ ZRn with marks:=[(10,4,100),(42,4,102),(130,4,108),(200,7,30),(215,7,31)] }
def gps0:List Gp:=[⟨50,1,0,400000⟩,⟨150,2,28,40⟩,⟨500,2,0,300⟩,⟨900,2,5,10⟩,⟨1000,3,0,400000⟩]
def grs0:List Gr:=[⟨[⟨150,2,28,40⟩],28,28⟩,⟨[⟨500,2,0,300⟩],172,172⟩,⟨[⟨50,1,0,400000⟩,⟨900,2,5,10⟩,⟨1000,3,0,400000⟩],50,80⟩]
theorem pn0 (f:Nat)(h:f<=1000)(v:Nat)(e:(List.range f).countP (fun i=>!ZGK ZC8 3 i)=v):picN ld0 f=v:=by
 rw[<-e];unfold picN ld0 ZDE;rw[<-List.map_take,List.countP_map,List.take_range,Nat.min_eq_left h]
 rfl
theorem ZUj:picN ld0 101=51:=pn0 101 (by decide) _ (by decide +kernel)
theorem ZTs:picN ld0 201=151:=pn0 201 (by decide) _ (by decide +kernel)
theorem ZUn:picN ld0 701=651:=pn0 701 (by decide) _ (by decide +kernel)
theorem ZVB:picN ld0 950=900:=pn0 950 (by decide) _ (by decide +kernel)
theorem pn50:picN ld0 50=0:=pn0 50 (by decide) _ (by decide +kernel)
theorem ZU2:picN ld0 150=100:=pn0 150 (by decide) _ (by decide +kernel)
theorem ZUs:picN ld0 500=450:=pn0 500 (by decide) _ (by decide +kernel)
theorem ZUq:picN ld0 900=850:=pn0 900 (by decide) _ (by decide +kernel)
theorem ZTt:picN ld0 1000=950:=pn0 1000 (by decide) _ (by decide +kernel)
theorem err0:ZBc ZRn=0:=by decide +kernel
theorem ZUx:misN ld0 16 (100,4,10) (200,4,18)=28:=by
 unfold misN;rw[show ((200,4,18):I3).1.toNat+1=201 from rfl,show ((100,4,10):I3).1.toNat+1=101 from rfl,ZTs,ZUj];rfl
theorem ZUu:misN ld0 16 (200,4,18) (700,4,60)=172:=by
 unfold misN;rw[show ((700,4,60):I3).1.toNat+1=701 from rfl,show ((200,4,18):I3).1.toNat+1=201 from rfl,ZUn,ZTs];rfl
theorem lg0 {f:Nat}(h:f<1000):ldg ld0 f=ZGK ZC8 3 f:=ZGP h
theorem gr0:grAt ld0 16 ZCZ gps0 1=⟨[],gps0,[],950⟩:=by
 show ZCn ld0 16 ZCZ gps0 (grAt ld0 16 ZCZ gps0 0) 0=_
 unfold ZCn;rw[if_pos rfl]
 show (⟨[],gps0,[],(picN ld0 ld0.length:Int)⟩:GrS)=_
 rw[show ld0.length=1000 from ZDa _ _ _,ZTt];rfl
theorem gr1:grAt ld0 16 ZCZ gps0 2=⟨[⟨[⟨150,2,28,40⟩],28,28⟩],[⟨50,1,0,400000⟩,⟨500,2,0,300⟩,⟨900,2,5,10⟩,⟨1000,3,0,400000⟩],[],978⟩:=by
 show ZCn ld0 16 ZCZ gps0 (grAt ld0 16 ZCZ gps0 1) 1=_
 rw[gr0];unfold ZCn;rw[show ZCZ.getD (1-1) default=(100,4,10) from rfl,show ZCZ.getD 1 default=(200,4,18) from rfl,ZUx];rw[if_neg (by decide),if_neg (by rw[show ((100,4,10):I3).1.toNat=100 from rfl,show ((200,4,18):I3).1.toNat=200 from rfl,lg0 (by decide),lg0 (by decide)];decide +kernel),if_neg (by decide +kernel)]
 rfl
theorem gr2:grAt ld0 16 ZCZ gps0 3=⟨[⟨[⟨150,2,28,40⟩],28,28⟩,⟨[⟨500,2,0,300⟩],172,172⟩],[⟨50,1,0,400000⟩,⟨900,2,5,10⟩,⟨1000,3,0,400000⟩],[],1150⟩:=by
 show ZCn ld0 16 ZCZ gps0 (grAt ld0 16 ZCZ gps0 2) 2=_
 rw[gr1];unfold ZCn;rw[show ZCZ.getD (2-1) default=(200,4,18) from rfl,show ZCZ.getD 2 default=(700,4,60) from rfl,ZUu];rw[if_neg (by decide),if_neg (by rw[show ((700,4,60):I3).1.toNat=700 from rfl,show ((200,4,18):I3).1.toNat=200 from rfl,lg0 (by decide),lg0 (by decide)];decide +kernel),if_neg (by decide +kernel)]
 rfl
theorem grp0:ZC9 ld0 16 ZCZ gps0 1200 1230=(grs0,[]):=by
 unfold ZC9;rw[show ZCZ.length=3 from rfl,gr2];rfl
theorem nw0:grs0.all ZNH=true:=by decide +kernel
def out0:List Gp:=[⟨50,1,0,75⟩,⟨150,2,28,28⟩,⟨500,2,172,172⟩,⟨900,2,5,10⟩,⟨1000,3,0,75⟩]
theorem ZS8:out0.Pairwise ltG:=by
 simp[out0,List.pairwise_cons,ltG,ltGT,lexP,Gp.tup]
theorem srt0:ZLe (ZCd grs0)=out0:=by
 have e:ZCd grs0=[⟨150,2,28,28⟩,⟨500,2,172,172⟩,⟨50,1,0,75⟩,⟨900,2,5,10⟩,⟨1000,3,0,75⟩]:=by decide +kernel
 have hp:(ZCd grs0).Perm out0:=by rw[e];decide
 exact ZH2 ZCw (ZMV _) ZS8 fun x=>by rw[ZHR];exact hp.mem_iff
theorem ZTl:ZA6 ld0 grs0 950=(1105,1180):=by
 unfold ZA6;rw[show (950:Int).toNat=950 from rfl,ZVB];decide +kernel
theorem ZUl:ZA6 ld0 grs0 50=(0,75):=by
 unfold ZA6;rw[show (50:Int).toNat=50 from rfl,pn50];decide +kernel
theorem ZUA:ZA6 ld0 grs0 150=(128,203):=by
 unfold ZA6;rw[show (150:Int).toNat=150 from rfl,ZU2];decide +kernel
theorem ZUJ:ZA6 ld0 grs0 500=(650,725):=by
 unfold ZA6;rw[show (500:Int).toNat=500 from rfl,ZUs];decide +kernel
theorem ZTe:ZA6 ld0 grs0 900=(1055,1130):=by
 unfold ZA6;rw[show (900:Int).toNat=900 from rfl,ZUq];decide +kernel
def fnd0 (pre:List Pc):List (Int×Int):=if 2<=pre.length then [(75,149)] else []
theorem ZKt {pre post:List Pc}{x:Pc}(h:ZBd ld0 sp0 1000=pre++x::post) :
  (x=⟨0,49,true⟩/\fnd0 pre=[]/\fnd0 (pre++[x])=[])\/(x=⟨50,149,false⟩/\fnd0 pre=[]/\fnd0 (pre++[x])=[(75,149)]) ∨
  (x.leader=false/\fnd0 pre=[(75,149)]/\fnd0 (pre++[x])=[(75,149)]/\(0<=x.frm/\x.frm<1000)/\(0<=x.til/\x.til<1000)/\∃a b,ZA6 ld0 grs0 x.frm=(a,b)/\(0<=a/\a<=2000)/\(0<=b/\b<=2000)/\min x.til (x.frm+100-a)<max x.frm (x.frm+100-b)):=by
 rw[pc0] at h
 match pre,h with
 | [],h=>simp at h;obtain⟨rfl,-⟩:=h;exact .inl ⟨rfl,rfl,rfl⟩
 | [_],h=>simp at h;obtain⟨-,rfl,-⟩:=h;exact .inr (.inl ⟨rfl,rfl,rfl⟩)
 | [_,_],h=>simp at h;obtain⟨-,-,rfl,-⟩:=h;exact .inr (.inr ⟨rfl,rfl,rfl,by decide,by decide,_,_,ZUA,by decide,by decide,by decide⟩)
 | [_,_,_],h=>simp at h;obtain⟨-,-,-,rfl,-⟩:=h;exact .inr (.inr ⟨rfl,rfl,rfl,by decide,by decide,_,_,ZUJ,by decide,by decide,by decide⟩)
 | [_,_,_,_],h=>simp at h;obtain⟨-,-,-,-,rfl,-⟩:=h;exact .inr (.inr ⟨rfl,rfl,rfl,by decide,by decide,_,_,ZTe,by decide,by decide,by decide⟩)
 | _::_::_::_::_::_,h=>simp at h
theorem ZQ9:fnd0 (ZBd ld0 sp0 1000)=[(75,149)]:=by rw[pc0];rfl
end Go.Dw
namespace Go.Dw
open Go
abbrev Wd:=List UInt8
theorem ZJs:∀(l:List UInt8)(n:Nat),l.all isD=true->(n+1)*10 ^ l.length<=1000000000000000000->Lib.parseUint10 n l=.ok (valG n l)
 | [],n,_,_=>rfl
 | c::l,n,h,hb=>by
  simp only[List.all_cons,Bool.and_eq_true] at h;have h3:=of_decide_eq_true h.1;have h4:(n+1)*10 ^ (c::l).length=(10*n+10)*10 ^ l.length:=by
   rw[List.length_cons,Nat.pow_succ,Nat.mul_comm (10 ^ l.length) 10,<-Nat.mul_assoc,Nat.add_mul,Nat.mul_comm n 10]
  have h5:(10*n+(c.toNat-48)+1)*10 ^ l.length<=(10*n+10)*10 ^ l.length:=Nat.mul_le_mul_right _ (by omega);have h6:10*n+10<=(10*n+10)*10 ^ l.length:=Nat.le_mul_of_pos_right _ (Nat.pow_pos (by decide));have e:n*10+(c.toNat-48)=10*n+(c.toNat-48):=by omega
  have ih:=ZJs l (n*10+(c.toNat-48)) h.2 (by rw[e];omega);rw[Lib.parseUint10,if_pos h3,if_neg (by omega),if_neg (by omega),ih]
  show Lib.NumEnd.ok _=Lib.NumEnd.ok (valG (10*n+(c.toNat-48)) l)
  rw[e]
def ZCm (w:Wd):Prop:=w≠[]/\(∀b∈w,Lib.isSp b=false)/\∀b∈w,b.toNat<128
theorem ZIj {b:UInt8}(h:33<=b.toNat):Lib.isSp b=false:=by
 have key:∀n:Fin 256,33<=n.val->Lib.isSp (UInt8.ofNat n.val)=false:=by decide +kernel
 have:=key ⟨b.toNat,b.toNat_lt⟩ h
 simpa using this
theorem ZRa {w:Wd}(h1:w≠[])(h:w.all isD=true):ZCm w:=by
 refine⟨h1,fun b hb=>?_,fun b hb=>?_⟩
 ·have:=of_decide_eq_true (List.all_eq_true.1 h b hb)
  exact ZIj (by omega)
 ·have:=of_decide_eq_true (List.all_eq_true.1 h b hb)
  omega
theorem ZA1 {n:Int}(h0:0<=n)(h1:n<1000000000):ZCm (Lib.itoa n)/\(Lib.itoa n).length<=9/\Lib.atoiAll (Lib.itoa n)=.ok n:=by
 have e:Lib.itoa n=Lib.decDigits n.toNat:=by unfold Lib.itoa;rw[if_neg (by omega)]
 obtain⟨p1,p2,p3,-,p5⟩:=ZPB n.toNat;have hl:=p5 9 (by decide) (by omega);rw[e];refine⟨ZRa p3 p1,hl,?_⟩;generalize Lib.decDigits n.toNat=l at *;have hp:(10:Nat) ^ l.length<=10 ^ 9:=Nat.pow_le_pow_right (by decide) hl;have hpar:=ZJs l 0 p1 (by simp at hp ⊢;omega)
 cases l with
 | nil=>exact absurd rfl p3
 | cons c r =>
  simp only[List.all_cons,Bool.and_eq_true] at p1;have hcd:=of_decide_eq_true p1.1;unfold Lib.atoiAll;simp only;rw[if_neg (show ¬(c.toNat=43\/c.toNat=45) by omega)];unfold Lib.parseMag;rw[if_neg (by simp),hpar];simp only;rw[if_neg (by omega),if_neg (by omega),if_neg (by omega),p2,Int.toNat_of_nonneg h0]
theorem ZDt:∀(w cur r:Wd)(c:UInt8),(∀b∈w,Lib.isSp b=false)->Lib.isSp c=true->cur++w≠[]->Lib.fieldsGo cur (w++c::r)=(cur++w)::Lib.fieldsGo [] r
 | [],cur,r,c,_,hc,hn=>by
  rw[List.append_nil] at hn ⊢;exact Lib.fieldsGo_end cur c r hc hn
 | b::w,cur,r,c,hw,hc,hn=>by
  rw[List.cons_append,Lib.fieldsGo_more _ _ _ (hw b List.mem_cons_self),ZDt w (cur++[b]) r c (fun x hx=>hw x (List.mem_cons_of_mem _ hx)) hc (by simp),List.append_assoc,List.singleton_append]
def ZBX:List Wd->Wd
 | []=>[]
 | [w]=>w
 | w::w'::l=>w++32::ZBX (w'::l)
theorem ZGj:∀(ws:List Wd)(r:Wd),ws≠[]->(∀w∈ws,ZCm w)->Lib.fieldsGo [] (ZBX ws++10::r)=ws++Lib.fieldsGo [] r
 | [],_,h,_=>absurd rfl h
 | [w],r,_,h=>by
  have:=h w List.mem_cons_self;exact ZDt w [] r 10 this.2.1 (by decide) (by simpa using this.1)
 | w::w'::l,r,_,h=>by
  have hw:=h w List.mem_cons_self
  show Lib.fieldsGo [] ((w++32::ZBX (w'::l))++10::r)=_
  rw[List.append_assoc,List.cons_append,ZDt w [] _ 32 hw.2.1 (by decide) (by simpa using hw.1),List.nil_append,ZGj (w'::l) r (by simp) fun x hx=>h x (List.mem_cons_of_mem _ hx)]
  rfl
def ZCX (ws:List Wd):Wd:=ZBX ws++[10]
theorem ZF5:∀(ls:List (List Wd)),(∀ws∈ls,ws≠[]/\∀w∈ws,ZCm w)->Lib.fields (ls.flatMap ZCX)=ls.flatten
 | [],_=>rfl
 | ws::ls,h=>by
  obtain⟨h1,h2⟩:=h ws List.mem_cons_self;have ih:=ZF5 ls fun x hx=>h x (List.mem_cons_of_mem _ hx);unfold Lib.fields at ih ⊢;rw[List.flatMap_cons,List.flatten_cons];unfold ZCX at ih ⊢;rw[List.append_assoc,List.singleton_append,ZGj ws _ h1 h2,ih]
theorem ZHW:∀{ws:List Wd},(∀w∈ws,ZCm w)->∀b∈ZBX ws,b.toNat<128
 | [],_,b,hb=>nomatch hb
 | [w],h,b,hb=>(h w List.mem_cons_self).2.2 b hb
 | w::w'::l,h,b,hb=>by
  rcases List.mem_append.1 hb with q|q
  ·exact (h w List.mem_cons_self).2.2 b q
  ·rcases List.mem_cons.1 q with rfl|q
   ·decide
   ·exact ZHW (fun x hx=>h x (List.mem_cons_of_mem _ hx)) b q
theorem ZKy {ls:List (List Wd)}(h:∀ws∈ls,ws≠[]/\∀w∈ws,ZCm w):∀b∈ls.flatMap ZCX,b.toNat<128:=fun b hb=>by
 obtain⟨ws,hws,hb⟩:=List.mem_flatMap.1 hb
 rcases List.mem_append.1 hb with q|q
 ·exact ZHW (h ws hws).2 b q
 ·rw[List.mem_singleton.1 q];decide
def ZBF (s:Wd)(l:List Int):Wd:=s++l.flatMap fun x=>32::Lib.itoa x
theorem ZNM (s:Wd)(l:List Int)(x:Int):ZBF s (l++[x])=ZBF s l++(32::Lib.itoa x):=by unfold ZBF;rw[List.flatMap_append,List.flatMap_singleton,List.append_assoc]
def ZP5:Wd:=[82,69,69,76]
def ZJ3:Wd:=[71,65,85,71,69]
def ZPv:Wd:=[66,65,83,69]
def ZHM:Wd:=[70,82,65,77,69,83]
def ZEE:Wd:=[89,69,65,82,83]
def ZG2:Wd:=[75,69,69,80]
def ZGG:Wd:=[77,65,82,75]
def ZCj:Wd:=[83,89,77,66,79,76]
def ZCi:Wd:=[76,69,78,71,84,72]
def wEND:Wd:=[69,78,68]
def ZEh (b:Int):Wd:=if b=1 then [110,105,116,114,97,116,101] else if b=2 then [97,99,101,116,97,116,101] else if b=3 then [112,111,108,121,101,115,116,101,114] else []
def ZDN (m:I3):List Wd:=[ZGG,Lib.itoa m.1,Lib.itoa m.2.1,Lib.itoa m.2.2]
def symW (m:Int×Int):List Wd:=[ZCj,Lib.itoa m.1,Lib.itoa m.2]
def lenW (m:I3):List Wd:=[ZCi,Lib.itoa m.1,Lib.itoa m.2.1,Lib.itoa m.2.2]
def ZGH (r:Rl):List (List Wd):=[[ZP5,r.name,ZJ3,Lib.itoa r.gauge,ZPv,ZEh r.base,ZHM,Lib.itoa r.frames],[ZEE,Lib.itoa r.ylo,Lib.itoa r.yhi,ZG2,Lib.itoa r.keep]]
def ZCK (r:Rl):List (List Wd):=ZGH r++r.marks.map ZDN++r.syms.map symW++r.lens.map lenW
def endW (n:Nat):List Wd:=[wEND,Lib.itoa (n:Nat)]
def ZGN (r:Rl):Wd:=(ZCK r++[endW (ZCK r).length]).flatMap ZCX
def ZAo (r:Rl):List Wd:=(ZCK r++[endW (ZCK r).length]).flatten
end Go.Dw
namespace Go.Dw
open Go
set_option maxRecDepth 20000
theorem ZE7:∀{l:Wd},(∀p∈ZA2 l,p.all al=true)->∀b∈l,b=dash\/al b=true
 | [],_,_,hb=>nomatch hb
 | x::l,h,b,hb=>by
  have hs:ZA2 (x::l)=if x=dash then []::ZA2 l else match ZA2 l with|[]=>[[x]]|p::ps=>(x::p)::ps:=rfl
  rw[hs] at h
  by_cases hx:x=dash
  ·rw[if_pos hx] at h
   rcases List.mem_cons.1 hb with rfl|hb
   ·exact .inl hx
   ·exact ZE7 (fun p hp=>h p (List.mem_cons_of_mem _ hp)) b hb
  ·rw[if_neg hx] at h
   cases hq:ZA2 l with
   | nil=>exact absurd hq (ZGa l)
   | cons p ps =>
    rw[hq] at h;simp only at h;have h1:=h (x::p) List.mem_cons_self;simp only[List.all_cons,Bool.and_eq_true] at h1
    rcases List.mem_cons.1 hb with rfl|hb
    ·exact .inr h1.1
    ·refine ZE7 (fun p' hp'=>?_) b hb
     rw[hq] at hp'
     rcases List.mem_cons.1 hp' with rfl|hp'
     ·exact h1.2
     ·exact h p' (List.mem_cons_of_mem _ hp')
theorem ZRx {b:UInt8}(h:b=dash\/al b=true):33<=b.toNat/\b.toNat<128:=by
 rcases h with rfl|h
 ·decide
 ·unfold al alN at h
  simp only[Bool.or_eq_true,Bool.and_eq_true,decide_eq_true_eq] at h;omega
theorem ZHZ {l:Wd}(h:ZFg l=true):ZCm l/\l.length<=24:=by
 unfold ZFg at h;simp only[Bool.and_eq_true] at h;obtain⟨⟨h1,-⟩,h3⟩:=h;have h1':=of_decide_eq_true h1
 have hb:=ZE7 (l:=l) fun p hp=>by
  have:=List.all_eq_true.1 h3 p hp
  cases hq:p.all al with
  | true=>rfl
  | false=>rw[hq] at this;simp at this
 refine⟨⟨fun e=>by rw[e] at h1';simp at h1',fun b hb'=>ZIj (ZRx (hb b hb')).1,fun b hb'=>(ZRx (hb b hb')).2⟩,h1'.2⟩
theorem ZFu {w:Wd}(h:(!w.isEmpty && w.all fun b=>decide (33<=b.toNat/\b.toNat<128))=true):ZCm w:=by
 simp only[Bool.and_eq_true,Bool.not_eq_true'] at h;refine⟨fun e=>by rw[e] at h;simp at h,fun b hb=>ZIj (of_decide_eq_true (List.all_eq_true.1 h.2 b hb)).1,fun b hb=>(of_decide_eq_true (List.all_eq_true.1 h.2 b hb)).2⟩
theorem ZJd {b:Int}(h:1<=b/\b<=3):ZCm (ZEh b)/\(ZEh b).length<=9:=by
 have:b=1\/b=2\/b=3:=by omega
 rcases this with rfl|rfl|rfl
 ·exact⟨ZFu (by decide),by decide⟩
 ·exact⟨ZFu (by decide),by decide⟩
 ·exact⟨ZFu (by decide),by decide⟩
theorem ZAG {α:Type}{p:α->Prop}{x:α}{l:List α}(h1:p x)(h2:∀y∈l,p y):∀y∈x::l,p y:=fun y hy=>by
 rcases List.mem_cons.1 hy with rfl|hy
 ·exact h1
 ·exact h2 y hy
theorem ZAX {α:Type}{p:α->Prop}:∀y∈([]:List α),p y:=fun _ h=>nomatch h
theorem ZKU {r:Rl}(hr:r.Ok){m:I3}(hm:m∈r.marks):(∀w∈ZDN m,ZCm w)/\(ZCX (ZDN m)).length<=37:=by
 obtain⟨⟨a1,a2⟩,⟨b1,b2⟩,c1,c2⟩:=hr.marks m hm;have hf:=hr.frames;obtain⟨p1,p2,-⟩:=ZA1 (n:=m.1) a1 (by omega);obtain⟨q1,q2,-⟩:=ZA1 (n:=m.2.1) b1 (by omega);obtain⟨s1,s2,-⟩:=ZA1 (n:=m.2.2) c1 (by omega);refine⟨ZAG (ZFu (by decide)) (ZAG p1 (ZAG q1 (ZAG s1 ZAX))),?_⟩;simp only[ZCX,ZDN,ZBX,ZGG,List.length_append,List.length_cons,List.length_nil];omega
theorem ZMZ {r:Rl}(hr:r.Ok){m:Int×Int}(hm:m∈r.syms):(∀w∈symW m,ZCm w)/\(ZCX (symW m)).length<=37:=by
 obtain⟨⟨a1,a2⟩,c1,c2⟩:=hr.syms m hm;obtain⟨p1,p2,-⟩:=ZA1 (n:=m.1) a1 (by omega);obtain⟨s1,s2,-⟩:=ZA1 (n:=m.2) c1 (by omega);refine⟨ZAG (ZFu (by decide)) (ZAG p1 (ZAG s1 ZAX)),?_⟩;simp only[ZCX,symW,ZBX,ZCj,List.length_append,List.length_cons,List.length_nil];omega
theorem ZMQ {r:Rl}(hr:r.Ok){m:I3}(hm:m∈r.lens):(∀w∈lenW m,ZCm w)/\(ZCX (lenW m)).length<=37:=by
 obtain⟨⟨a1,a2⟩,⟨b1,b2⟩,c1,c2⟩:=hr.lens m hm;have hf:=hr.frames;obtain⟨p1,p2,-⟩:=ZA1 (n:=m.1) (by omega) (by omega);obtain⟨q1,q2,-⟩:=ZA1 (n:=m.2.1) (by omega) (by omega);obtain⟨s1,s2,-⟩:=ZA1 (n:=m.2.2) c1 (by omega);refine⟨ZAG (ZFu (by decide)) (ZAG p1 (ZAG q1 (ZAG s1 ZAX))),?_⟩;simp only[ZCX,lenW,ZBX,ZCi,List.length_append,List.length_cons,List.length_nil];omega
theorem ZH9 {r:Rl}(hr:r.Ok):∀ws∈ZGH r,(ws≠[]/\∀w∈ws,ZCm w)/\(ZCX ws).length<=100:=by
 have hf:=hr.frames;have hg:0<=r.gauge/\r.gauge<1000000000:=by have:=hr.gauge;omega
 have hy:=hr.ylo;have hz:=hr.yhi;have hk:=hr.keep;obtain⟨n1,n2⟩:=ZHZ hr.name;obtain⟨b1,b2⟩:=ZJd hr.base;obtain⟨g1,g2,-⟩:=ZA1 hg.1 hg.2;obtain⟨f1,f2,-⟩:=ZA1 (n:=r.frames) (by omega) (by omega);obtain⟨y1,y2,-⟩:=ZA1 (n:=r.ylo) (by omega) (by omega);obtain⟨z1,z2,-⟩:=ZA1 (n:=r.yhi) (by omega) (by omega);obtain⟨k1,k2,-⟩:=ZA1 (n:=r.keep) (by omega) (by omega);refine ZAG ⟨⟨by simp,ZAG (ZFu (by decide)) (ZAG n1 (ZAG (ZFu (by decide)) (ZAG g1 (ZAG (ZFu (by decide)) (ZAG b1 (ZAG (ZFu (by decide)) (ZAG f1 ZAX)))))))⟩,?_⟩ (ZAG ⟨⟨by simp,ZAG (ZFu (by decide)) (ZAG y1 (ZAG z1 (ZAG (ZFu (by decide)) (ZAG k1 ZAX))))⟩,?_⟩ ZAX)
 ·simp only[ZCX,ZBX,ZP5,ZJ3,ZPv,ZHM,List.length_append,List.length_cons,List.length_nil]
  omega
 ·simp only[ZCX,ZBX,ZEE,ZG2,List.length_append,List.length_cons,List.length_nil]
  omega
theorem ZDZ (r:Rl):(ZCK r).length=2+r.marks.length+r.syms.length+r.lens.length:=by
 unfold ZCK ZGH;simp only[List.length_append,List.length_map,List.length_cons,List.length_nil]
theorem ZDX {α:Type}{f:α->Wd}{k:Nat}:∀{l:List α},(∀x∈l,(f x).length<=k)->(l.flatMap f).length<=l.length*k
 | [],_=>by simp
 | x::l,h=>by
  have h1:=h x List.mem_cons_self;have h2:=ZDX fun y hy=>h y (List.mem_cons_of_mem x hy);rw[List.flatMap_cons,List.length_append,List.length_cons,Nat.succ_mul];omega
theorem ZMI {n:Nat}(hn:n<1000000):(∀w∈endW n,ZCm w)/\(ZCX (endW n)).length<=37:=by
 obtain⟨p1,p2,-⟩:=ZA1 (n:=(n:Nat)) (by omega) (by omega);refine⟨ZAG (ZFu (by decide)) (ZAG p1 ZAX),?_⟩;simp only[ZCX,endW,ZBX,wEND,List.length_append,List.length_cons,List.length_nil];omega
theorem ZPI {r:Rl}(hr:r.Ok):∀ws∈ZCK r,(ws≠[]/\∀w∈ws,ZCm w)/\(ZCX ws).length<=100:=fun ws hws=>by
 unfold ZCK at hws
 rcases List.mem_append.1 hws with hws|hws
 ·rcases List.mem_append.1 hws with hws|hws
  ·rcases List.mem_append.1 hws with hws|hws
   ·exact ZH9 hr ws hws
   ·obtain⟨m,hm,rfl⟩:=List.mem_map.1 hws
    have:=ZKU hr hm;exact⟨⟨by simp[ZDN],this.1⟩,by omega⟩
  ·obtain⟨m,hm,rfl⟩:=List.mem_map.1 hws
   have:=ZMZ hr hm;exact⟨⟨by simp[symW],this.1⟩,by omega⟩
 ·obtain⟨m,hm,rfl⟩:=List.mem_map.1 hws
  have:=ZMQ hr hm;exact⟨⟨by simp[lenW],this.1⟩,by omega⟩
theorem ZPW {r:Rl}(hr:r.Ok):∀ws∈ZCK r++[endW (ZCK r).length],ws≠[]/\∀w∈ws,ZCm w:=fun ws hws=>by
 have hl:=ZDZ r;have h1:=hr.mlen;have h2:=hr.slen;have h3:=hr.llen
 rcases List.mem_append.1 hws with q|q
 ·exact (ZPI hr ws q).1
 ·rw[List.mem_singleton.1 q]
  exact⟨by simp[endW],(ZMI (by omega)).1⟩
theorem ZMR {r:Rl}(hr:r.Ok):(ZGN r).length<=6000:=by
 have hl:=ZDZ r;have h1:=hr.mlen;have h2:=hr.slen;have h3:=hr.llen;have e1:((ZGH r).flatMap ZCX).length<=200:=ZDX (k:=100) fun ws hws=>(ZH9 hr ws hws).2;have e2:=ZDX (f:=fun m=>ZCX (ZDN m)) (k:=37) fun m (hm:m∈r.marks)=>(ZKU hr hm).2;have e3:=ZDX (f:=fun m=>ZCX (symW m)) (k:=37) fun m (hm:m∈r.syms)=>(ZMZ hr hm).2;have e4:=ZDX (f:=fun m=>ZCX (lenW m)) (k:=37) fun m (hm:m∈r.lens)=>(ZMQ hr hm).2;have e5:=(ZMI (n:=(ZCK r).length) (by omega)).2;unfold ZGN;rw[List.flatMap_append,List.flatMap_singleton]
 conv=>lhs;rw[List.length_append]
 have e0:((ZCK r).flatMap ZCX).length=((ZGH r).flatMap ZCX).length+(r.marks.flatMap fun m=>ZCX (ZDN m)).length+(r.syms.flatMap fun m=>ZCX (symW m)).length+(r.lens.flatMap fun m=>ZCX (lenW m)).length:=by
  unfold ZCK;rw[List.flatMap_append,List.flatMap_append,List.flatMap_append,List.flatMap_map,List.flatMap_map,List.flatMap_map,List.length_append,List.length_append,List.length_append]
 rw[e0];omega
theorem ZNE {r:Rl}(hr:r.Ok):Lib.fields (ZGN r)=ZAo r:=ZF5 _ (ZPW hr)
theorem ZMu {r:Rl}(hr:r.Ok):∀b∈ZGN r,b.toNat<128:=ZKy (ZPW hr)
end Go.Dw
namespace Go.Dw
open Go
inductive Itm where
 | m (x:I3)
 | s (x:Int×Int)
 | l (x:I3)
def Itm.words:Itm->List Wd
 | .m x=>ZDN x
 | .s x=>symW x
 | .l x=>lenW x
def ZAK (r:Rl):List Itm:=r.marks.map Itm.m++(r.syms.map Itm.s++r.lens.map Itm.l)
def getM (l:List Itm):List I3:=l.filterMap fun|.m x=>some x|_=>none
def getS (l:List Itm):List (Int×Int):=l.filterMap fun|.s x=>some x|_=>none
def getL (l:List Itm):List I3:=l.filterMap fun|.l x=>some x|_=>none
theorem ZPg (l:List Itm)(x:Itm):getM (l++[x])=getM l++getM [x]:=by unfold getM;rw[List.filterMap_append]
theorem ZPR (l:List Itm)(x:Itm):getS (l++[x])=getS l++getS [x]:=by unfold getS;rw[List.filterMap_append]
theorem ZPV (l:List Itm)(x:Itm):getL (l++[x])=getL l++getL [x]:=by unfold getL;rw[List.filterMap_append]
theorem ZO4 (r:Rl):getM (ZAK r)=r.marks/\getS (ZAK r)=r.syms/\getL (ZAK r)=r.lens:=by
 have e1:∀l:List I3,getM (l.map Itm.m)=l/\getS (l.map Itm.m)=[]/\getL (l.map Itm.m)=[]:=fun l=>by
  induction l with
  | nil=>exact⟨rfl,rfl,rfl⟩
  | cons x l ih=>exact⟨congrArg (x :: ·) ih.1,ih.2.1,ih.2.2⟩
 have e2:∀l:List (Int×Int),getM (l.map Itm.s)=[]/\getS (l.map Itm.s)=l/\getL (l.map Itm.s)=[]:=fun l=>by
  induction l with
  | nil=>exact⟨rfl,rfl,rfl⟩
  | cons x l ih=>exact⟨ih.1,congrArg (x :: ·) ih.2.1,ih.2.2⟩
 have e3:∀l:List I3,getM (l.map Itm.l)=[]/\getS (l.map Itm.l)=[]/\getL (l.map Itm.l)=l:=fun l=>by
  induction l with
  | nil=>exact⟨rfl,rfl,rfl⟩
  | cons x l ih=>exact⟨ih.1,ih.2.1,congrArg (x :: ·) ih.2.2⟩
 have a1:∀a b,getM (a++b)=getM a++getM b:=fun a b=>by unfold getM;rw[List.filterMap_append]
 have a2:∀a b,getS (a++b)=getS a++getS b:=fun a b=>by unfold getS;rw[List.filterMap_append]
 have a3:∀a b,getL (a++b)=getL a++getL b:=fun a b=>by unfold getL;rw[List.filterMap_append]
 unfold ZAK;rw[a1,a1,a2,a2,a3,a3,(e1 _).1,(e1 _).2.1,(e1 _).2.2,(e2 _).1,(e2 _).2.1,(e2 _).2.2,(e3 _).1,(e3 _).2.1,(e3 _).2.2];simp
theorem ZJU (r:Rl):(ZAK r).length=r.marks.length+r.syms.length+r.lens.length:=by
 unfold ZAK;simp only[List.length_append,List.length_map];omega
theorem ZSK (l:List Itm):(getM l).length<=l.length/\(getS l).length<=l.length/\(getL l).length<=l.length:=⟨List.length_filterMap_le _ _,List.length_filterMap_le _ _,List.length_filterMap_le _ _⟩
def Itm.Ok:Itm->Prop
 | .m x=>(0<=x.1/\x.1<1000000000)/\(0<=x.2.1/\x.2.1<1000000000)/\(0<=x.2.2/\x.2.2<1000000000)
 | .s x=>(0<=x.1/\x.1<1000000000)/\(0<=x.2/\x.2<1000000000)
 | .l x=>(0<=x.1/\x.1<1000000000)/\(0<=x.2.1/\x.2.1<1000000000)/\(0<=x.2.2/\x.2.2<1000000000)
theorem ZQu {r:Rl}(hr:r.Ok):∀x∈ZAK r,x.Ok:=fun x hx=>by
 have hf:=hr.frames;unfold ZAK at hx
 rcases List.mem_append.1 hx with q|q
 ·obtain⟨m,hm,rfl⟩:=List.mem_map.1 q
  have:=hr.marks m hm;exact⟨by omega,by omega,by omega⟩
 ·rcases List.mem_append.1 q with q|q
  ·obtain⟨m,hm,rfl⟩:=List.mem_map.1 q
   have:=hr.syms m hm;exact⟨by omega,by omega⟩
  ·obtain⟨m,hm,rfl⟩:=List.mem_map.1 q
   have:=hr.lens m hm;exact⟨by omega,by omega,by omega⟩
def ZQ4 (r:Rl):List Wd:=[ZP5,r.name,ZJ3,Lib.itoa r.gauge,ZPv,ZEh r.base,ZHM,Lib.itoa r.frames,ZEE,Lib.itoa r.ylo,Lib.itoa r.yhi,ZG2,Lib.itoa r.keep]
theorem ZBM (r:Rl):ZAo r=ZQ4 r++((ZAK r).flatMap Itm.words++endW (ZCK r).length):=by
 unfold ZAo ZCK ZAK;simp only[List.flatten_append,List.flatMap_append,List.flatMap_map,List.append_assoc,List.flatten_cons,List.flatten_nil,List.append_nil];have:∀{α:Type} (f:α->List Wd) (l:List α),(l.map f).flatten=l.flatMap f:=fun f l=>rfl;rw[this,this,this]
 rfl
def posS (r:Rl)(k:Nat):Nat:=13+(((ZAK r).take k).flatMap Itm.words).length
theorem ZIY {r:Rl}{k:Nat}(hk:k<(ZAK r).length)(j:Nat)(hj:j<((ZAK r)[k].words).length):(ZAo r)[posS r k+j]?=some (((ZAK r)[k].words)[j]):=by
 have e:ZAK r=(ZAK r).take k++(ZAK r)[k]::(ZAK r).drop (k+1):=by rw[List.getElem_cons_drop,List.take_append_drop]
 have e2:(ZAK r).flatMap Itm.words=((ZAK r).take k).flatMap Itm.words++((ZAK r)[k].words++((ZAK r).drop (k+1)).flatMap Itm.words):=by
  conv=>lhs;rw[e]
  rw[List.flatMap_append,List.flatMap_cons]
 rw[ZBM,e2];unfold posS;have hh:(ZQ4 r).length=13:=rfl;rw[List.getElem?_append_right (by omega),hh,List.append_assoc,List.getElem?_append_right (by omega),show 13+(((ZAK r).take k).flatMap Itm.words).length+j-13-(((ZAK r).take k).flatMap Itm.words).length=j by omega,List.append_assoc,List.getElem?_append_left hj,List.getElem?_eq_getElem hj]
theorem ZKM (r:Rl):(ZAo r)[posS r (ZAK r).length]?=some wEND:=by
 rw[ZBM];unfold posS;have hh:(ZQ4 r).length=13:=rfl;rw[List.take_length,List.getElem?_append_right (by omega),hh,List.getElem?_append_right (by omega),show 13+((ZAK r).flatMap Itm.words).length-13-((ZAK r).flatMap Itm.words).length=0 by omega]
 rfl
theorem ZRo {r:Rl}{k:Nat}(hk:k<(ZAK r).length):posS r (k+1)=posS r k+((ZAK r)[k].words).length:=by
 unfold posS;rw[List.take_add_one,List.getElem?_eq_getElem hk];simp only[Option.toList_some,List.flatMap_append,List.flatMap_singleton,List.length_append];omega
theorem ZPp {r:Rl}(hr:r.Ok):(ZAo r).length<=1000:=by
 have h1:=hr.mlen;have h2:=hr.slen;have h3:=hr.llen;have hi:=ZJU r
 have key:∀l:List Itm,(l.flatMap Itm.words).length<=4*l.length:=fun l=>by
  induction l with
  | nil=>simp
  | cons x l ih =>
   have:(x.words).length<=4:=by cases x <;> simp[Itm.words,ZDN,symW,lenW]
   rw[List.flatMap_cons,List.length_append,List.length_cons];omega
 have:=key (ZAK r);rw[ZBM,List.length_append,List.length_append];have hh:(ZQ4 r).length=13:=rfl;have he:(endW (ZCK r).length).length=2:=rfl;omega
def cwS (r:Rl)(k:Nat):Wd:=(ZAo r).getD (posS r k) []
def Itm.head:Itm->Wd
 | .m _=>ZGG
 | .s _=>ZCj
 | .l _=>ZCi
theorem ZN1 (x:Itm)(h:0<(x.words).length):(x.words)[0]=x.head:=by cases x <;> rfl
theorem ZSx:∀x:Itm,¬x.head=wEND
 | .m _=>by show ¬ZGG=wEND;decide
 | .s _=>by show ¬ZCj=wEND;decide
 | .l _=>by show ¬ZCi=wEND;decide
theorem ZTm (r:Rl):cwS r (ZAK r).length=wEND:=by
 unfold cwS;rw[List.getD_eq_getElem?_getD,ZKM];rfl
theorem ZSQ {r:Rl}{k:Nat}(hk:k<(ZAK r).length):cwS r k=((ZAK r)[k]).head:=by
 have h0:0<((ZAK r)[k].words).length:=by cases (ZAK r)[k] <;> simp[Itm.words,ZDN,symW,lenW]
 have:=ZIY hk 0 h0;unfold cwS;rw[List.getD_eq_getElem?_getD,show posS r k=posS r k+0 from rfl,this];exact ZN1 _ h0
theorem ZTc {r:Rl}{k:Nat}(hk:k<=(ZAK r).length):∃h:posS r k<(ZAo r).length,(ZAo r)[posS r k]=cwS r k:=by
 have h1:posS r k<(ZAo r).length:=by
  rcases Nat.lt_or_ge k (ZAK r).length with q|q
  ·have h0:0<((ZAK r)[k].words).length:=by cases (ZAK r)[k] <;> simp[Itm.words,ZDN,symW,lenW]
   exact (List.getElem?_eq_some_iff.1 (ZIY q 0 h0)).1
  ·have:k=(ZAK r).length:=by omega
   subst this;exact (List.getElem?_eq_some_iff.1 (ZKM r)).1
 refine⟨h1,?_⟩;unfold cwS;rw[List.getD_eq_getElem?_getD,List.getElem?_eq_getElem h1];rfl
def ZJq:List Wd:=[[],ZEh 1,ZEh 2,ZEh 3]
theorem ZP1 {b:Int}(h:1<=b/\b<=3):ZJq[b.toNat]?=some (ZEh b)/\∀i<b.toNat,ZJq[i]?≠some (ZEh b):=by
 have:b=1\/b=2\/b=3:=by omega
 rcases this with rfl|rfl|rfl <;> exact⟨rfl,by decide⟩
end Go.Dw
