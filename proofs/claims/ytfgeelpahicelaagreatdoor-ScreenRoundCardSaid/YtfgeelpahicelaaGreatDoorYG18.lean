/- T5: contracts: a number is read from a line (screen.reader), what must be so, what is cut off. -/
import Derived.Test.YtfgeelpahicelaaGreatDoorYG2
import Derived.Test.YtfgeelpahicelaaGreatDoorYG9
import Derived.Test.YtfgeelpahicelaaGreatDoorYG17
set_option linter.unusedVariables false
set_option linter.unusedSimpArgs false
namespace Go.Dw
open Go Go.Dx Go.Proofs
set_option maxRecDepth 100000
section
variable {P:Program}{m:Mem}{h:Heap}{d:Option Tmp}{ty:TypeId}{pos:String}{af:Array Edge}{gu:Option (Nat×Bool)}
theorem ZHH {t u:TypeId} {ms}{v:Value}(hu:P.underlying t=some (.interface ms))(w:World):(binOp .eql t (.iface u v) .nilIface).run P w=.ok (.bool false) w:=by
 show (do pure (.bool (<-Op.equalIn (9999+1) t (.iface u v) .nilIface)):Sem Value).run P w=_
 simp only[Sem.run_bind,ZE5 hu,Result.andThen_ok,Sem.run_pure]
theorem ZIL {t:TypeId} {ms}(hu:P.underlying t=some (.interface ms))(w:World):(binOp .eql t .nilIface .nilIface).run P w=.ok (.bool true) w:=by
 show (do pure (.bool (<-Op.equalIn (9999+1) t .nilIface .nilIface)):Sem Value).run P w=_
 simp only[Sem.run_bind,ZFp hu,Result.andThen_ok,Sem.run_pure]
theorem ZJz {t tz u:TypeId} {ms}{x:Operand}{v:Value}(hu:P.underlying t=some (.interface ms))(hx:opk h m x=some (.iface u v)):Aop P ⟨d,.binOp .eql t x (.const .nilIface) tz,ty,pos,af,gu⟩ m h (.bool false) h:=by
 intro e hs ι w ac hr he;have hsv:=ZAA hr he (ZAC hs hx);generalize hz:ac.eval x=z at hsv
 cases hsv with
 | @iface _ _ v' hv =>
 refine OpS.here hr ?_ (VR.of_flat ι rfl);have h1:(eqGuard .eql t x (.const .nilIface) (.iface u v') .nilIface).run P w=.ok () w:=rfl;have h2:ac.eval (.const .nilIface)=.nilIface:=rfl;simp only[execOp,Sem.run_bind,hz,h2,h1,Result.andThen_ok,ZHH hu,Sem.run_pure]
theorem ZJq {t tz:TypeId} {ms}{x:Operand}(hu:P.underlying t=some (.interface ms))(hx:opk h m x=some .nilIface):Aop P ⟨d,.binOp .eql t x (.const .nilIface) tz,ty,pos,af,gu⟩ m h (.bool true) h :=
 ZBy (a:=.nilIface) (b:=.nilIface) hx rfl rfl rfl rfl fun w=>by
  have:(eqGuard .eql t x (.const .nilIface) .nilIface .nilIface).run P w=.ok () w:=by
   unfold eqGuard;cases x <;> rfl
  simp only[Sem.run_bind,this,Result.andThen_ok,ZIL hu]
end
theorem ZLG (l:List UInt8)(c:UInt8)(h:Heap):Sv Tryz.prog 226 [str l,str [c]] h (RetP fun v h'=>v=i64 (Lib.indexByte l c)/\h'=h):=by
 refine ZAJ Tryz.func226 rfl (by rw[Tryz.ntmps226];rfl) ?_;show Wc Tryz.prog ⟨226,143,none⟩ _ _ _ _ _;refine zy ?_;refine ZAl rfl rfl rfl rfl (ZCL rfl rfl) (fun h1=>?_) (fun h1=>?_)
 ·exact absurd h1 (by simp)
 refine zy ?_;refine ZAl rfl rfl rfl rfl (ZCs rfl rfl) (fun h2=>?_) (fun h2=>?_)
 ·refine zy ?_
  subst h2
  exact ZAD (ZAE rfl ⟨by
   unfold Lib.indexByte;simp only[beq_self_eq_true,if_true];rfl,rfl⟩)
 refine zy ?_;refine ZAl rfl rfl rfl rfl (ZCL rfl rfl) (fun h3=>?_) (fun h3=>?_)
 ·refine zy ?_
  refine ZAB rfl rfl rfl rfl (ZAi (k:=0) Und.h rfl rfl rfl (by simp)) ?_;refine ZAP rfl rfl rfl rfl rfl Bod.h rfl rfl (ZHf l c h) ?_;refine zy ?_;exact ZAD (ZAE rfl ⟨rfl,rfl⟩)
 ·exact absurd rfl h3
def cutV (l:Byt)(c:UInt8):Value:=match cutB c l with
 | some p=>.tuple ⟨[str p.1,str p.2,.bool true]⟩
 | none=>.tuple ⟨[str l,str [],.bool false]⟩
set_option maxHeartbeats 1000000 in
theorem ZN5 (l:Byt)(h:Heap)(hl:l.length<=1000000):Sv Tryz.prog 164 [str l,str [32]] h (RetP fun v h'=>v=cutV l 32/\h'=h):=by
 have key:Sv Tryz.prog 190 [str l,str [32]] h (RetP fun v h'=>v=cutV l 32/\h'=h):=by
  unfold cutV;refine ZAJ Tryz.func190 rfl (by rw[Tryz.ntmps190];rfl) ?_;show Wc Tryz.prog ⟨190,23,none⟩ _ _ _ _ _;refine zy ?_;refine ZAP rfl rfl rfl rfl rfl Bod.h rfl rfl (ZLG l 32 h) ?_;refine zy ?_
  rcases ZE9 32 l with ⟨e1,e2,-⟩|⟨k,e1,hk,e2,-,-⟩
  ·rw[e1,e2]
   refine ZAB rfl rfl rfl rfl (A_ff (by decide) (ZFa rfl rfl)) ?_;refine zy ?_;exact ZAD (ZAE rfl ⟨rfl,rfl⟩)
  ·rw[e1,e2]
   have h32:([32]:Byt).length=1:=rfl;refine ZAB rfl rfl rfl rfl (A_tt (by omega) (ZFa rfl rfl)) ?_;refine zy ?_;refine ZBK hmix [0,0,3,0,0,0,32,112,248,7,1023,2047] [0,1,2,3,4,5,6,7,8] (some 9) [([],(some 10)),([],(some 11)),([],none)] (by kernel_rfl) (by kernel_rfl) ?_;refine z_m ?_;refine z_m ?_;refine ZAF rfl rfl rfl rfl rfl (fun _=>ZEl (k:=k) Und.h rfl rfl rfl (by omega)) ?_;refine z_m ?_;refine z_m ?_;refine z_m ?_;refine z_d ?_;refine ZAF rfl rfl rfl rfl rfl (fun _=>ZIM rfl rfl (by omega) (by omega)) ?_;refine ZAF rfl rfl rfl rfl rfl (fun _=>ZBi (k:=k+1) Und.h rfl rfl rfl (by omega)) ?_;refine ZAr [0,1,2] (by kernel_rfl) rfl (ZAL rfl) rfl nb rfl (ZDf rfl rfl (ZAu rfl) ?_)
   refine ZAr [0,1,2,3,4,5,6,7,8,9] (by kernel_rfl) rfl (by refine ZAN (i:=8) rfl rfl rfl rfl rfl (fun _=>ZBi (k:=k+1) Und.h rfl rfl rfl (by omega)) rfl ?_;refine ZAN (i:=7) rfl rfl rfl rfl rfl (fun _=>ZIM rfl rfl (by omega) (by omega)) rfl ?_;refine t_d 6 ?_;refine t_m 5 ?_;refine t_m 4 ?_;refine t_m 3 ?_;exact ZAL rfl) rfl nb rfl (ZDf rfl rfl (ZAu rfl) ?_);refine ZAr [0,1,2,3,4,5,6,7,8,9,10] (by kernel_rfl) rfl (ZAL rfl) rfl nb rfl (ZDf rfl rfl (ZAu rfl) ?_);refine ZB8 (ZAL rfl) nb' ?_;refine zy ?_;exact ZAD (ZAE rfl ⟨rfl,rfl⟩)
 refine ZAJ Tryz.func164 rfl (by rw[Tryz.ntmps164];rfl) ?_;show Wc Tryz.prog ⟨164,13,none⟩ _ _ _ _ _;refine zy ?_;refine ZAP rfl rfl rfl rfl rfl Bod.h rfl rfl key ?_;unfold cutV
 cases cutB 32 l with
 | none =>
  refine zy ?_;exact ZAD (ZAE rfl ⟨rfl,rfl⟩)
 | some p =>
  refine zy ?_;exact ZAD (ZAE rfl ⟨rfl,rfl⟩)
theorem ZI9 (l:Byt):(1<=l.length/\l.drop (l.length-1)=[10]) ↔ l.getLast?=some 10:=by
 constructor
 ·rintro⟨h1,h2⟩
  have:l=l.take (l.length-1)++[10]:=by rw[<-h2,List.take_append_drop]
  rw[this];simp
 ·intro h
  obtain⟨r,rfl⟩:=List.getLast?_eq_some_iff.1 h;refine⟨by simp,by simp⟩
set_option maxHeartbeats 1000000 in
theorem ZJY (l:Byt)(h:Heap)(hl:l.length<=1000000):Sv Tryz.prog 123 [str l,str [10]] h (RetP fun v h'=>v=str (ZD9 l)/\h'=h):=by
 have hsf:Sv Tryz.prog 193 [str l,str [10]] h (RetP fun v h'=>v=.bool (decide (l.getLast?=some 10))/\h'=h):=by
  have e1:(decide (l.getLast?=some 10))=decide (1<=l.length/\l.drop (l.length-1)=[10]):=decide_eq_decide.2 (ZI9 l).symm;rw[e1];have h10:([10]:Byt).length=1:=rfl;refine ZAJ Tryz.func193 rfl (by rw[Tryz.ntmps193];rfl) ?_;show Wc Tryz.prog ⟨193,21,none⟩ _ _ _ _ _;refine zy ?_
  by_cases h1:1<=l.length
  ·refine ZAB rfl rfl rfl rfl (A_tt (show ((([10]:Byt).length:Nat):Int)<=(l.length:Nat) by omega) (ZFa rfl rfl)) ?_
   refine zy ?_;refine ZAB rfl rfl rfl rfl (ZBi (k:=l.length-1) Und.h rfl rfl (by omega) (by omega)) ?_;refine zy ?_
   by_cases h2:l.drop (l.length-1)=[10]
   ·refine ZAB rfl rfl rfl rfl (A_tt h2 (ZCs rfl rfl)) ?_
    refine zy ?_;exact ZAD (ZAE rfl ⟨by rw[decide_eq_true ⟨h1,h2⟩];rfl,rfl⟩)
   ·refine ZAB rfl rfl rfl rfl (A_ff h2 (ZCs rfl rfl)) ?_
    refine zy ?_;exact ZAD (ZAE rfl ⟨by rw[decide_eq_false fun q=>h2 q.2];rfl,rfl⟩)
  ·refine ZAB rfl rfl rfl rfl (A_ff (show ¬((([10]:Byt).length:Nat):Int)<=(l.length:Nat) by omega) (ZFa rfl rfl)) ?_
   refine zy ?_;exact ZAD (ZAE rfl ⟨by rw[decide_eq_false fun q=>h1 q.1];rfl,rfl⟩)
 have key:Sv Tryz.prog 166 [str l,str [10]] h (RetP fun v h'=>v=str (ZD9 l)/\h'=h):=by
  unfold ZD9;have h10:([10]:Byt).length=1:=rfl;refine ZAJ Tryz.func166 rfl (by rw[Tryz.ntmps166];rfl) ?_;show Wc Tryz.prog ⟨166,16,none⟩ _ _ _ _ _;refine zy ?_;refine ZAP rfl rfl rfl rfl rfl Bod.h rfl rfl hsf ?_
  by_cases h1:l.getLast?=some 10
  ·have h2:=((ZI9 l).2 h1).1
   rw[decide_eq_true h1,if_pos h1];refine zy ?_;refine ZAB rfl rfl rfl rfl (ZEl (k:=l.length-1) Und.h rfl rfl (by omega) (by omega)) ?_;refine zy ?_;exact ZAD (ZAE rfl ⟨by rw[List.dropLast_eq_take];rfl,rfl⟩)
  ·rw[decide_eq_false h1,if_neg h1]
   refine zy ?_;exact ZAD (ZAE rfl ⟨rfl,rfl⟩)
 refine ZAJ Tryz.func123 rfl (by rw[Tryz.ntmps123];rfl) ?_;show Wc Tryz.prog ⟨123,8,none⟩ _ _ _ _ _;refine zy ?_;refine ZAP rfl rfl rfl rfl rfl Bod.h rfl rfl key ?_;refine zy ?_;exact ZAD (ZAE rfl ⟨rfl,rfl⟩)
abbrev ZJt:Value:=.iface 32 (i64 6)
theorem ZDD (b:Bool)(h:Heap):Sv Tryz.prog 124 [.bool b] h (fun r=>if b=true then r=.ret (.tuple ⟨[]⟩) h else r=.pan ZJt h):=by
 refine ZEz Tryz.func124 rfl (by rw[Tryz.ntmps124];rfl) ?_
 show Wc Tryz.prog ⟨124,5,none⟩ _ _ _ _ _
 cases b with
 | true =>
  refine zy ?_;exact ZD8 rfl rfl
 | false =>
  refine zy ?_;refine ZAB rfl rfl rfl rfl (ZM7 rfl) ?_;refine ZMN rfl rfl ?_;exact ZEs rfl
end Go.Dw
