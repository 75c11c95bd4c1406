/- T1: contracts: whether a text is one of a subtitle, packages screen and telecineref11. -/
import Derived.Lib.TrimUEq
import Derived.Lib.TrimAscii
import Derived.Test.YtfgeelpahicelaaGreatDoorXG14
import Derived.Test.YtfgeelpahicelaaGreatDoorXG5
import Derived.Test.YtfgeelpahicelaaGreatDoorXG9
import Derived.Test.YtfgeelpahicelaaGreatDoorXG2
import Derived.Test.YtfgeelpahicelaaGreatDoorXG12
import Derived.Test.YtfgeelpahicelaaGreatDoorXG10
set_option linter.unusedVariables false
set_option linter.unusedSimpArgs false
namespace Go.Dw
open Go Go.Dx Go.Proofs
set_option maxRecDepth 100000
section
variable {P:Program}{fr:Fr}{m:Mem}{ds:List ADef}{h:Heap}{Q:CQ}{ops:Array Oper}{l:List Oper}{d:Nat}{ty:TypeId}{pos:String}{af:Array Edge}{gu:Option (Nat×Bool)}
end
def priB (c:UInt8):Bool:=decide (32<=c.toNat/\c.toNat<=126)
def IxR (s:List UInt8)(h:Heap)(v:Value)(h':Heap):Prop:=Ext h h'/\∃n:Int,v=i64 n/\(n<0 ↔ s.all priB=true)
def befT (l:List Ttl):Nat->Int
 | 0=>-1
 | k+1=>match l[k]? with|some x=>x.b|none=>-1
def ZSf (l:List Ttl)(speed rate:Int)(k:Nat):List Nat:=(List.range k).filter fun i=>match l[i]? with|some x=>ZO4 speed rate x|none=>false
abbrev natV (n:Nat):Value:=i64 (n:Int)
def ZQ0 (l:List Ttl)(speed rate:Int):Int:=if ZFI l≠0 then ZFI l else if (speed<1\/60<speed)\/(rate<1\/60<rate) then 7 else 0
def UnR (l:List Ttl)(speed rate:Int)(h:Heap)(v:Value)(h':Heap):Prop:=Ext h h'/\((¬ZQ0 l speed rate=0/\v=.tuple ⟨[.slice none 0 0,i64 (ZQ0 l speed rate)]⟩)\/(ZQ0 l speed rate=0/\∃va,v=.tuple ⟨[va,i64 0]⟩/\ZAG h h' va 3 1 ((ZPI l speed rate).map natV) (ZPI l speed rate).length))
def ttVs (x:Ttl):List Value:=[i64 x.a,i64 x.b,str x.text]
def ZO7 (n:Int)(cs:List Cut)(l:List Ttl):Int:=if (cutS n cs).2≠0 then (cutS n cs).2 else if ZFI l≠0 then ZFI l else if (l.any fun x=>decide (n<=x.b))=true then 7 else 0
def curT (cs:List Cut)(x:Ttl)(f:Nat):List Ttl:=if cntC cs x.a.toNat<cntC cs f then [⟨(cntC cs x.a.toNat:Nat),(cntC cs f:Nat)-1,x.text⟩] else []
def RetR (n:Int)(cs:List Cut)(l:List Ttl)(h:Heap)(v:Value)(h':Heap):Prop:=Ext h h'/\((¬ZO7 n cs l=0/\v=.tuple ⟨[.slice none 0 0,i64 (ZO7 n cs l)]⟩)\/(ZO7 n cs l=0/\∃va,v=.tuple ⟨[va,i64 0]⟩/\ZAG h h' va 75 3 ((ZOz cs l).flatMap ttVs) (ZOz cs l).length))
def rowT (cs:List Cut)(x:Ttl)(f:Nat):List Value:=if cntC cs x.a.toNat<cntC cs f then [i64 (cntC cs x.a.toNat:Nat),i64 ((cntC cs f:Nat)-1),str x.text] else [i64 x.a,i64 x.b,str x.text]
theorem Ttl.ext' {a b:Ttl}(h1:a.a=b.a)(h2:a.b=b.b)(h3:a.text=b.text):a=b:=by cases a;cases b;simp_all
instance:DecidableEq Ttl:=fun a b=>decidable_of_iff (a.a=b.a/\a.b=b.b/\a.text=b.text) ⟨fun ⟨h1,h2,h3⟩=>Ttl.ext' h1 h2 h3,fun h=>by subst h;simp⟩
theorem ZH7 {a b:Option Addr}{ca cb:Nat}{l l':List Int}{h:Heap}(hl:ZBz h a l)(hl':ZBz h b l')(hn:Len l)(hn':Len l'):Sv Tryz.prog 33 [.slice a l.length ca,.slice b l'.length cb] h (RetP fun v h'=>v=.bool (decide (l=l'))/\h'=h):=by
 refine ZAH Tryz.func33 rfl (by rw[Tryz.ntmps33];rfl) ?_;show Wc Tryz.prog ⟨33,26,none⟩ _ _ _ _ _;refine zy ?_;refine ZAE rfl rfl rfl rfl (ZAb rfl rfl) (fun h1=>?_) (fun h1=>?_)
 ·refine zy ?_
  exact ZAC (ZAD rfl ⟨by rw[decide_eq_false (fun e=>h1 (by rw[e]))];rfl,rfl⟩)
 have hll:l.length=l'.length:=by have:=Decidable.not_not.1 h1;omega
 refine zy ?_;refine ZAT (fun (k:Nat) m ds h'=>ds=[]/\h=h'/\k<=l.length/\(∀j (hj:j<l.length),j<k->l[j]=l'[j]'(by omega))/\AllK m [(0,.slice a l.length ca),(1,.slice b l'.length cb),(5,i64 k)]) (fun k=>l.length-k) 0 ?_ ?_
 ·exact⟨rfl,rfl,Nat.zero_le _,(fun _ _ hj=>by omega),rfl,rfl,rfl,trivial⟩
 rintro k m ds h' ⟨rfl,rfl,hk,hno,hall⟩;refine Wc.le ?_ (Le.kn hall);refine zy ?_;refine ZAE rfl rfl rfl rfl (ZAW rfl rfl) (fun h3=>?_) (fun h3=>?_)
 ·have hk':k<l.length:=by simpa using h3
  have hne:∀(q:k<l'.length),¬l[k]=l'[k]->¬l=l':=fun q e e2=>e (by subst e2;rfl)
  have hnx:∀(q:k<l'.length),l[k]=l'[k]->∀j (hj:j<l.length),j<k+1->l[j]=l'[j]'(by omega):=fun q e j hj hlt=>by
   rcases Nat.lt_or_ge j k with g|g
   ·exact hno j hj g
   ·have:j=k:=by omega
    subst this;exact e
  obtain⟨b1,o1,oa1,rfl,hc1⟩:=hl k hk';obtain⟨b2,o2,oa2,rfl,hc2⟩:=hl' k (by omega);replace hne:=hne (by omega);replace hnx:=hnx (by omega);generalize l[k]=x at *;generalize l'[k]'(by omega)=y at *;refine zy ?_
  by_cases h4:x=y
  ·refine ZAJ hmix [0,0,3,7,0,0,48,112,255] [0,1,2,3,4,5,6,7,8] none [] (by kernel_rfl) (by kernel_rfl) ?_
   refine z_m ?_;refine z_m ?_;refine z_i ?_;refine z_l ?_;refine z_m ?_;refine z_m ?_;refine z_i ?_;refine z_l ?_;refine ZAB rfl rfl rfl rfl rfl (fun _=>A_ff (fun e=>e h4) (ZAb rfl rfl)) ?_;refine ZAM (ZAA rfl) nb' ?_;refine zy ?_;exact⟨k+1,(by show l.length-(k+1)<l.length-k;omega),rfl,rfl,hk',hnx h4,rfl,rfl,rfl,trivial⟩
  ·refine ZAJ hmix [0,0,3,7,0,0,48,112,255] [0,1,2,3,4,5,6,7,8] none [] (by kernel_rfl) (by kernel_rfl) ?_
   refine z_m ?_;refine z_m ?_;refine z_i ?_;refine z_l ?_;refine z_m ?_;refine z_m ?_;refine z_i ?_;refine z_l ?_;refine ZAB rfl rfl rfl rfl rfl (fun _=>A_tt h4 (ZAb rfl rfl)) ?_;refine ZAM (ZAA rfl) nb' ?_;refine zy ?_;exact ZAC (ZAD rfl ⟨by rw[decide_eq_false (hne h4)];rfl,rfl⟩)
 have he:l=l':=List.ext_getElem hll fun i h1 h2=>hno i h1 (by omega);refine zy ?_;exact ZAC (ZAD rfl ⟨by rw[decide_eq_true he];rfl,rfl⟩)
end Go.Dw
