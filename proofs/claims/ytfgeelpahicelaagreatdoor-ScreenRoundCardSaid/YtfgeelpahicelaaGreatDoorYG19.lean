/- DwZs: the logic: a range over a function whose rounds may panic, by things of the function's own. -/
import Derived.WalkKit
import Derived.ProofKit
import Derived.OpenShut
import Derived.Deep.DeepHandedRow
import Derived.ReadAgain
import Derived.ChangeStays
import Derived.Test.YtfgeelpahicelaaGreatDoorYG2
set_option linter.unusedVariables false
set_option linter.unusedSimpArgs false
namespace Go.Dx
variable {P:Program}
theorem ZKA {g:FuncId}{c:Code}{id:Nat}{Q:Exit->Act->World->Prop}{a:Act}{w:World}(h:wpG g P c (fun e a1 w1=>(e=.normal\/e=.ret\/∃ch,e=.panic ch)/\Q e a1 w1) a w):wpG g P (.block id c) Q a w:=by
 intro b k cs hro hfn;obtain⟨e,a1,w1,⟨he,hq⟩,harr⟩:=h b (.inBlock id::k) cs hro hfn;have h0:StepsIn (Machine.fenced P Fence.wide) P (lone (b.atR a (.code (.block id c)::k)) cs w) (lone (b.atR a (.code c::.inBlock id::k)) cs w):=.one (fenced_wide P _) stepR_block
 rcases he with rfl|rfl|⟨ch,rfl⟩
 ·exact⟨.normal,a1,w1,hq,h0.trans (StepsIn.trans harr (.one (fenced_wide P _) stepR_inBlock))⟩
 ·exact⟨.ret,a1,w1,hq,.of_steps h0 harr⟩
 ·exact⟨.panic ch,a1,w1,hq,.of_steps h0 harr⟩
end Go.Dx
namespace Go.Dw
open Go.Dx
variable {P:Program}
theorem ZML {fr:Fr}{c:Code}{id:Nat}{m:Mem}{ds:List ADef}{h:Heap}{Q:CQ}(hw:Wf P fr c m ds h (fun z m1 ds1 h1=>(z=.normal\/z=.ret\/∃v,z=.pan v)/\Q z m1 ds1 h1)):Wf P fr (.block id c) m ds h Q:=by
 refine⟨fun e hs ι w a hr hf=>ZKA (ZDj (hw.w e hs ι w a hr hf) ?_)⟩;rintro ex a1 w1 ⟨z,e1,ds1,h1,m1,s1,⟨hz,q1⟩,ι1,ad,hr1,hf1,hx⟩;refine⟨?_,z,e1,ds1,h1,m1,s1,q1,ι1,ad,hr1,hf1,hx⟩
 rcases hz with rfl|rfl|⟨v,rfl⟩
 ·cases hx;exact .inl rfl
 ·cases hx;exact .inr (.inl rfl)
 ·cases hx;exact .inr (.inr ⟨_,rfl⟩)
def ZN3 (P:Program) {β:Type}(g:FuncId)(cap:List Value)(h0:Heap)(box:List β->It)(L:List β)(enc:β->Value):Prop :=
 ∀(l:Nat) (hL:Heap) (J:List β->Heap->List It->Prop) (Pn:Value->Heap->Prop) (R0:List It),J [] hL R0->(∀pre h' R,J pre h' R->Ext h0 h'/\∃y,Own h0 h' (box y::R))->(∀pre h1 h2 R y,J pre h1 R->Own h0 h2 (box y::R)->Ext h0 h2->J pre h2 R) →
  (∀pre x post h' R,L=pre++x::post->J pre h' R->Own h0 h' (box (pre++[x])::R)->Yx P l [enc x] h' (fun r=>match r with|.ret v h''=>v=.bool true/\∃R',J (pre++[x]) h'' R'/\Own h0 h'' (box (pre++[x])::R')|.pan v h''=>Pn v h''|.no=>False)) →
  Own h0 hL (box []::R0)->Sv P g (.func (.yield l) ⟨[]⟩ ⟨[]⟩::cap) hL (fun r=>match r with|.ret _ h'=>∃R,J L h' R/\Own h0 h' (box L::R)|.pan v h'=>Pn v h'|.no=>False)
theorem ZLR {σ β:Type}{fr:Fr}{m:Mem}{ds:List ADef}{h h0:Heap}{Q:CQ}{f:Operand}{p:Tmp}{asg bd:Code}{g:FuncId}{cap:List Value}{X:σ->List It}{ok:List β->σ->Prop}{okP:Value->Prop}{L:List β}{enc:β->Value}{q:Tmp}{s0:σ}{box:List β->It}
  (hrd:fr.rd=none) (hf:opk h m f=some (.func (.func g) ⟨[]⟩ ⟨cap⟩)) (hb:ZAe P g=true) (hlt:Nat.blt p fr.nt=true) (hfn:∃F,P.funcs[fr.fn]?=some F)
  (hw0:WF h0) (hE:Ext h0 h) (hO:Own h0 h (box []::X s0)) (hok:ok [] s0)
  (hit:ZN3 P g cap h0 box L enc)
  (hasg:∀l x h',Wc P ⟨fr.fn,fr.nt,some l⟩ asg (upd m p (enc x)) [] h' (fun y m1 ds1 h1=>y=.normal/\ds1=[]/\m1=upd (upd m p (enc x)) q (enc x)/\h1=h'))
  (hbody:∀l pre x post s h' R,L=pre++x::post->ok pre s->Own h0 h' (X s++R)->Ext h0 h' →
   Wc P ⟨fr.fn,fr.nt,some l⟩ bd (upd (upd m p (enc x)) q (enc x)) [] h' (fun y _ ds'' h''=>(y=.normal/\∃s',ok (pre++[x]) s'/\Own h0 h'' (X s'++R)/\Ext h0 h'')\/(∃v,y=.pan v/\ds''=[]/\okP v/\∃s',Own h0 h'' (X s'++R)/\Ext h0 h'')))
  (hQ:∀s h'',ok L s->Own h0 h'' (loI h.nx .defd::box L::X s)->Ext h0 h''->Q .normal m (.coll h.nx::ds) h'')
  (hP:∀v s h'',okP v->Own h0 h'' (loI h.nx .defd::X s)->Ext h0 h''->Q (.pan v) m (.coll h.nx::ds) h''):Wf P fr (.rangeFunc f #[p] asg bd) m ds h Q:=by
 refine ZNt fun hw=>ZKd hrd hf hb fun e hs hL hEL hWL hnL hLr hLl=>?_;have hO1:Own h0 hL (loI h.nx .defd::box []::X s0):=hO.new hw hE.2.1 hEL hLr fun c hc=>by rw[show c=h.nx from hc];exact Nat.le_refl _
 have hO2:Own h0 hL (loI (h.nx+1) (.lpf .ready none fr.fn fr.nt e #[p] asg bd h.nx)::loI h.nx .defd::box []::X s0):=by
  refine⟨fun x hx=>?_,fun x hx c hc=>?_,List.pairwise_cons.2 ⟨fun z hz c hc hzc=>?_,hO1.ap⟩⟩
  ·rcases List.mem_cons.1 hx with rfl|hx
   ·exact hLl
   ·exact hO1.has x hx
  ·rcases List.mem_cons.1 hx with rfl|hx
   ·rw[show c=h.nx+1 from hc];have:=hE.2.1;omega
   ·exact hO1.lo x hx c hc
  ·rw[show c=h.nx+1 from hc] at hzc
   rcases List.mem_cons.1 hz with rfl|hz
   ·exact absurd (show h.nx+1=h.nx from hzc) (by omega)
   ·obtain⟨o,ho⟩:=z.ex (hO.has z hz) hzc
    have:=hw _ _ ho;omega
 have hE1L:=hE.trans hEL;generalize hrec:AO.lpf LoopState.ready none fr.fn fr.nt e #[p] asg bd h.nx=rec at hO2;have i1:∀{h':Heap} {o:AO} {y:It} {s:σ},Own h0 h' (loI (h.nx+1) o::loI h.nx .defd::y::X s)->Own h0 h' (y::(X s++[loI (h.nx+1) o,loI h.nx .defd])):=fun hO=>hO.up3.perm (.cons _ (List.perm_append_comm (l₁:=[_,_])));have i2:∀{h':Heap} {o:AO} {y:It} {s:σ},Own h0 h' (y::(X s++[loI (h.nx+1) o,loI h.nx .defd]))->Own h0 h' (loI (h.nx+1) o::loI h.nx .defd::y::X s):=fun hO=>(hO.perm (.cons _ (List.perm_append_comm (l₂:=[_,_])))).dn3
 let J:List β->Heap->List It->Prop:=fun pre h' R=>∃s,ok pre s/\R=X s++[loI (h.nx+1) rec,loI h.nx .defd]/\Ext h0 h'/\∃y,Own h0 h' (box y::R)
 have hres:=hit (h.nx+1) hL J (fun v h'=>okP v/\∃s,Own h0 h' (loI h.nx .defd::X s)/\Ext h0 h') (X s0++[loI (h.nx+1) rec,loI h.nx .defd]) ⟨s0,hok,rfl,hE1L,_,i1 hO2⟩ (fun pre h' R ⟨s,_,_,h1,h2⟩=>⟨h1,h2⟩)
  (fun pre h1 h2 R y ⟨s,k1,k2,k3,k4⟩ hO' hE'=>⟨s,k1,k2,hE',y,hO'⟩) (fun pre x post h' R hsp hJ hOb=>?_) (i1 hO2)
 ·refine hres.mono fun r hr=>?_
  cases r with
  | no=>exact hr
  | pan v h' =>
   obtain⟨h1,s,h2,h3⟩:=hr;exact hP v s h' h1 h2 h3
  | ret v h' =>
   obtain⟨R,⟨s,hoks,rfl,hEs,-⟩,hOs⟩:=hr;have hOs':=i2 hOs;have hl':h'.get (h.nx+1)=some rec:=hOs'.p1;rw[<-hrec] at hl';refine⟨.ready,none,_,_,_,_,_,_,_,hl',by simp,fun _=>?_,fun c hc=>nomatch hc⟩;generalize hAO:AO.lpf LoopState.exhausted _ _ _ _ _ _ _ _=bo;obtain⟨k1,k2⟩:=hOs'.loSet hw0 hEs (Upd.mk' h' (h.nx+1) bo);exact hQ s _ hoks k1.tail k2
 ·obtain⟨s,hoks,rfl,hEs,-⟩:=hJ
  have hOs':=i2 hOb;have hl':h'.get (h.nx+1)=some rec:=hOs'.p1;rw[<-hrec] at hl'
  refine ZL6 hl' hs rfl (by
   show ([p].all fun p=>Nat.blt p fr.nt)=true
   simp[hlt]) hfn ?_
  refine (hasg (h.nx+1) x h').mono ?_;rintro y m1 ds1 h1 ⟨rfl,rfl,rfl,rfl⟩;refine⟨rfl,rfl,_,_,_,_,_,_,_,_,hl',?_⟩;generalize hAO:AO.lpf LoopState.busy none fr.fn fr.nt e #[p] asg bd h.nx=bo;obtain⟨hO5,hE5⟩:=hOs'.loSet hw0 hEs (Upd.mk' h1 (h.nx+1) bo);generalize h1.set (h.nx+1) bo=h2 at *;have j1:∀{h':Heap} {s:σ},Own h0 h' (X s++[loI (h.nx+1) bo,loI h.nx .defd,box (pre++[x])])->Own h0 h' (loI (h.nx+1) bo::loI h.nx .defd::box (pre++[x])::X s):=fun hO=>hO.perm (List.perm_append_comm (l₂:=[_,_,_]));refine (hbody (h.nx+1) pre x post s h2 _ hsp hoks (hO5.perm (List.perm_append_comm (l₁:=[_,_,_]))) hE5).mono ?_
  rintro y m3 ds3 h3 (⟨rfl,s',hoks',hO7,hE7⟩|⟨v,rfl,rfl,hv,s',hO7,hE7⟩)
  ·have hO7':=j1 hO7
   have hl3:h3.get (h.nx+1)=some bo:=hO7'.p1;rw[<-hAO] at hl3
   left
   refine⟨_,_,_,_,_,_,_,_,_,rfl,hl3,rfl,?_⟩;obtain⟨hO8,hE8⟩:=hO7'.loSet hw0 hE7 (Upd.mk' h3 (h.nx+1) rec);rw[hrec];exact⟨_,⟨s',hoks',rfl,hE8,_,i1 hO8⟩,i1 hO8⟩
  ·right
   exact⟨v,rfl,rfl,hv,s',(j1 hO7).tail.sub (.cons_cons _ (.cons _ (List.Sublist.refl _))),hE7⟩
end Go.Dw
namespace Go.Dw
open Go Go.Dx
variable {P:Program}{H:Type}{enc:TypeId×Value->H}{W:World}{cs:List Value}{t e:TypeId}
end Go.Dw
namespace Go.Dw
open Go.Dx Go.ChangeShapes Go.WideShapes Go.ChangeAt Go.RowKit
variable {H:Type}{enc:TypeId×Value->H}{P:Program}{W W':World}
theorem ZDX {T:TypeId->Prop}{sp:Nat->Bool}(K:Kids P T)(hz:∀t e,T t->P.underlying t=some (.slice e)->0<P.cellsOf e):∀{ts:List TypeId}{vs:List Value}{ds:List (DataW H)}{ps:List MemPlace},(∀t∈ts,T t)->DataW.TrodAll enc P W 0 (fun _=>true) true ts vs ds ps->(∀p∈ps,W.sameAt W' p)->(∀p∈ps,sp p.block=true)->DataW.TrodAll enc P W' 0 sp true ts vs ds ps
 | [],[],[],_,_,h,_,_=>h
 | t::ts,v::vs,d::ds,_,hT,⟨p,q,⟨n,h1⟩,h2,e⟩,hw,hs=>by
  subst e;refine⟨p,q,⟨n,DataW.trod_stays (x:=(d,p)) K (fun a b=>hz _ _ a b) (fun h=>by cases h) (hT t List.mem_cons_self) h1 (fun x hx=>hw x (List.mem_append_left _ hx)) (fun x hx=>hs x (List.mem_append_left _ hx))⟩,?_,rfl⟩;exact ZDX K hz (fun t ht=>hT t (List.mem_cons_of_mem _ ht)) h2 (fun x hx=>hw x (List.mem_append_right _ hx)) (fun x hx=>hs x (List.mem_append_right _ hx))
theorem ZKK (hu:Unch W W'):∀p:MemPlace,p.block<W.heap.size->W.sameAt W' p
 | .cell b off,hp=>by
  have:W'.heap[b]?=W.heap[b]?:=hu.same b hp;simp only[World.sameAt,World.cell?,this]
 | .map b,hp=>hu.same b hp
theorem ZKH (u:Unch W W')(may:MemPlace->Prop):W.keptBut W' may:=by
 refine⟨u.os,u.out,fun i hi=>?_⟩;rw[u.same i hi]
 cases hq:W.heap[i]? with
 | none=>rfl
 | some o=>cases o <;> first|rfl|exact⟨rfl,rfl,rfl,fun _ _=>rfl⟩|exact .inr ⟨rfl,rfl⟩
theorem ZGr {f:Func}{s:ChangeSpec}{args:Array Value}{v:Value}{ds gs:List (DataW H)}{ZAK pa pv:List MemPlace}
  (hW:DataW.Whole enc P f.params.toList s.vars false W args.toList ds gs ZAK)
  (hres:∀(b:Nat) (sp:Nat->Bool) (hd:Bool),DataW.TrodAll enc P W' b sp hd f.resultTypes.toList (v.resultList f.resultTypes.size) (s.fn H (ds++gs)).results [])
  (hargs:∀sp:Nat->Bool,(∀p∈ZAK,sp p.block=true)->DataW.TrodAll enc P W' 0 sp true f.params.toList args.toList (s.fn H (ds++gs)).args pa)
  (hvars:∀sp:Nat->Bool,(∀p∈ZAK,sp p.block=true)->DataW.TrodVars enc P W' sp s.vars (s.fn H (ds++gs)).vars pv)
  (hu:Unch W W'):s.post enc P f false true false false W args v W':=by
 have hlt:=hW.lt;have hold:∀p∈ZAK,(fun b=>decide (b<W.heap.size)) p.block=true:=fun p hp=>by simpa using hlt p hp
 exact⟨ds,gs,ZAK,[],pa,pv,hW,hres _ _ _,hargs _ hold,hvars _ hold,ZKH hu _,fun h=>nomatch h⟩
theorem ZG4 {fn:Func}{s:ChangeSpec}{args:Array Value}{ds:List (DataW H)}{ZAK:List MemPlace}{T:TypeId->Prop}(K:Kids P T)(hz:∀t e,T t->P.underlying t=some (.slice e)->0<P.cellsOf e)(hT:∀t∈fn.params.toList,T t)
  (hW:DataW.Whole enc P fn.params.toList s.vars false W args.toList ds [] ZAK) (hv:s.vars=[]) (hres:(s.fn H (ds++[])).results=[.lit (.bool true)]) (hargs:(s.fn H (ds++[])).args=ds) (hvr:(s.fn H (ds++[])).vars=[])
  (hrt:fn.resultTypes=#[4]) (h4:P.underlying 4=some .bool) (hu:Unch W W'):s.post enc P fn false true false false W args (.bool true) W':=by
 have hW':=hW;obtain⟨p,q,hA,hV,rfl,_,_⟩:=hW;rw[hv] at hV;obtain⟨_,rfl⟩:=trodVars_none hV;rw[List.append_nil] at hW';refine ZGr (pa:=p) (pv:=[]) hW' (fun _ _ _=>?_) (fun sp hsp=>?_) (fun _ _=>?_) hu
 ·rw[hres,hrt];exact trodAll_cons_mk (shut_bool h4 _) trodAll_mk0
 ·rw[hargs]
  exact ZDX K hz hT hA (fun x hx=>ZKK hu x (hW'.lt x hx)) (fun x hx=>hsp x hx)
 ·rw[hv,hvr];exact rfl
end Go.Dw
