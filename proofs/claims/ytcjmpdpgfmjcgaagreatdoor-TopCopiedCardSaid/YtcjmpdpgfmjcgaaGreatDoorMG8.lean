/- J2: contracts of small functions of chapter 04: must, Contains, has, turned, valid, indices, with. -/
import Derived.Test.YtcjmpdpgfmjcgaaGreatDoorMG2
import Derived.Test.YtcjmpdpgfmjcgaaGreatDoorMG6
import Derived.Test.YtcjmpdpgfmjcgaaGreatDoorMG7
namespace Go.Dw
open Go Go.Dx Go.Proofs
set_option maxRecDepth 100000
section
variable {P:Program}{fr:Fr}{m:Mem}{ds:List ADef}{h:Heap}{Q:CQ}{ops:Array Oper}{l:List Oper}{o:Oper}
end
abbrev errV (e:Int):Value:=.iface 26 (i64 e)
theorem allOne_i64 (l:List Int):allOne (l.map i64)=true:=by
 induction l with
 | nil=>rfl
 | cons x l ih=>exact ih
def TurnR (_:Heap)(row:List Value)(x:Turn):Prop:=row=[i64 x.reel,i64 x.machine,i64 x.day]
abbrev TurnsAt:=RowsAt 3 TurnR
theorem TurnR.ext {h h':Heap}{row:List Value}{x:Turn}(a:TurnR h row x)(_:Ext h h'):TurnR h' row x:=a
theorem TurnsAt.ext {h h':Heap}{a:Option Addr}{l:List Turn}(hl:TurnsAt h a l)(he:Ext h h'):TurnsAt h' a l:=RowsAt.ext (R:=TurnR) (fun x y=>TurnR.ext x y) hl he
theorem TurnsAt.at {h:Heap}{a:Option Addr}{l:List Turn}(hl:TurnsAt h a l){k:Nat}(hk:k<l.length):∃b o oa,a=some ⟨b,o,oa⟩/\rowAt h b (o+k*3) 3=some [i64 l[k].reel,i64 l[k].machine,i64 l[k].day]/\cellAt h b (o+k*3+0)=some (i64 l[k].reel)/\cellAt h b (o+k*3+1)=some (i64 l[k].machine)/\cellAt h b (o+k*3+2)=some (i64 l[k].day):=by
 obtain⟨b,o,oa,e,row,h1,h2⟩:=hl k hk
 unfold TurnR at h2
 subst h2
 exact⟨b,o,oa,e,h1,cell_of_row h1 rfl,cell_of_row h1 rfl,cell_of_row h1 rfl⟩
end Go.Dw
/- J3: contracts: with, indices, can, Count, holds (telecineref04). -/
namespace Go.Dw
open Go Go.Dx Go.Proofs
set_option maxRecDepth 100000
end Go.Dw
/- J4: contracts: can, Count, holds (telecineref04). -/
namespace Go.Dw
open Go Go.Dx Go.Proofs
set_option maxRecDepth 100000
def canB (t:Task)(k m d:Int):Bool:=decide (m∈(reelAt t k).machines/\(reelAt t k).ready<=t.first+d/\t.first+d<=(reelAt t k).due)
theorem reelAt_nat {t:Task}{k:Nat}(hk:k<t.reels.length):reelAt t k=t.reels[k]:=by
 unfold reelAt
 simp[List.getD_eq_getElem?_getD,hk]
theorem reelRow {t:Task}{ar:Option Addr}{h:Heap}(hR:RowsAt 5 ReelAt h ar t.reels){k:Nat}(hk:k<t.reels.length):∃b o oa a cap,ar=some ⟨b,o,oa⟩/\rowAt h b (o+k*5) 5=some [str (reelAt t k).name,.slice a (reelAt t k).machines.length cap,i64 (reelAt t k).ready,i64 (reelAt t k).due,i64 (reelAt t k).risk]/\IntsAt h a (reelAt t k).machines/\cellAt h b (o+k*5+4)=some (i64 (reelAt t k).risk):=by
 obtain⟨b,o,oa,e,row,h1,h2⟩:=hR k hk
 rw[<-reelAt_nat hk] at h2
 obtain⟨a,cap,rfl,hI⟩:=h2
 exact⟨b,o,oa,a,cap,e,h1,hI,cell_of_row h1 rfl⟩
theorem machRow {t:Task}{am:Option Addr}{h:Heap}(hM:RowsAt 2 MachAt h am t.machines){k:Nat}(hk:k<t.machines.length):∃b o oa a cap,am=some ⟨b,o,oa⟩/\cellAt h b (o+k*2+1)=some (.slice a t.machines[k].places.length cap)/\IntsAt h a t.machines[k].places:=by
 obtain⟨b,o,oa,e,row,h1,h2⟩:=hM k hk
 obtain⟨a,cap,rfl,hI⟩:=h2
 exact⟨b,o,oa,a,cap,e,cell_of_row h1 rfl,hI⟩
def cellN (t:Task)(l:List Int)(m d:Nat):Int:=if (l.any fun k=>canB t k m d)=true then (t.machines.getD m noMach).places.getD d 0 else 0
def rowN (t:Task)(l:List Int)(m:Nat):Nat->Int
 | 0=>0
 | d+1=>rowN t l m d+cellN t l m d
def sumN (t:Task)(l:List Int):Nat->Int
 | 0=>0
 | m+1=>sumN t l m+rowN t l m t.days.toNat
def countS (t:Task)(l:List Int):Int:=sumN t l t.machines.length
theorem placeAt {t:Task}(hV:Valid t){m d:Nat}(hm:m<t.machines.length)(hd:d<t.days.toNat):d<t.machines[m].places.length/\(t.machines.getD m noMach).places.getD d 0=t.machines[m].places.getD d 0/\0<=t.machines[m].places.getD d 0/\t.machines[m].places.getD d 0<=20:=by
 obtain⟨h1,h2⟩:=hV.ms _ (List.getElem_mem hm)
 have hlt:d<t.machines[m].places.length:=by omega
 refine⟨hlt,by simp[List.getD_eq_getElem?_getD,hm],?_⟩
 have:=h2 _ (List.getElem_mem hlt)
 simp only[List.getD_eq_getElem?_getD,List.getElem?_eq_getElem hlt,Option.getD_some]
 exact this
end Go.Dw
/- J5: contracts: holds (telecineref04). -/
namespace Go.Dw
open Go Go.Dx Go.Proofs
set_option maxRecDepth 100000
structure Lat where
 reel:Int
 by':List Int
structure Lat.Fit (x:Lat):Prop where
 reel:I64 x.reel
 len:Len x.by'
 byI:∀n∈x.by',I64 n
def LatR (h:Heap)(row:List Value)(x:Lat):Prop:=∃a cap,row=[i64 x.reel,.slice a x.by'.length cap]/\SrcAt i64 h a x.by'
abbrev LatsAt:=RowsAt 2 LatR
theorem LatR.ext {h h':Heap}{row:List Value}{x:Lat}(a:LatR h row x)(he:Ext h h'):LatR h' row x:=by
 obtain⟨a,c,h1,h2⟩:=a;exact⟨a,c,h1,h2.ext he⟩
theorem LatsAt.ext {h h':Heap}{a:Option Addr}{l:List Lat}(hl:LatsAt h a l)(he:Ext h h'):LatsAt h' a l:=RowsAt.ext (R:=LatR) (fun x y=>LatR.ext x y) hl he
def byOk (t:Task)(done:List Int)(r k:Int):Bool:=decide (k∈done) && decide ((reelAt t r).risk<=(reelAt t k).risk)
def holdsB (t:Task)(done:List Int)(x:Lat):Bool:=!mixedB t.reels.length (-1) x.by' && (x.by'.all (byOk t done x.reel) && decide (countS t (x.by'++[x.reel])<=x.by'.length))
end Go.Dw
/- J6: contracts: judged, Judge (telecineref04). -/
namespace Go.Dw
open Go Go.Dx Go.Proofs
set_option maxRecDepth 100000
structure Turn.Fit (x:Turn):Prop where
 reel:I64 x.reel
 machine:I64 x.machine
 day:I64 x.day
theorem take_succ {α:Type}{l:List α}{k:Nat}(hk:k<l.length):l.take (k+1)=l.take k++[l[k]]:=by
 rw[List.take_add_one,List.getElem?_eq_getElem hk];rfl
end Go.Dw
/- J7: contracts: Judge of telecineref04; judge, Judge of rescue. -/
namespace Go.Dw
open Go Go.Dx Go.Proofs
set_option maxRecDepth 100000
def tup2 (x:Int×Int):Value:=.tuple ⟨[i64 x.1,i64 x.2]⟩
end Go.Dw
/- J8: contracts: judge, Judge of rescue. -/
namespace Go.Dw
open Go Go.Dx Go.Proofs
set_option maxRecDepth 100000
noncomputable def placeK:KeyK Tryz.prog 121 (Int×Int×Int) where
 enc:=fun p=>.agg ⟨[i64 p.1,i64 p.2.1,i64 p.2.2]⟩
 ks:=.struct [(.int .i64,0),(.int .i64,1),(.int .i64,2)]
 hks:=by kernel_rfl
 flat:=fun _=>rfl
 ok:=fun _=>rfl
 eq:=fun a b=>by
  obtain⟨a1,a2,a3⟩:=a
  obtain⟨b1,b2,b3⟩:=b
  show eqFs [(.int .i64,0),(.int .i64,1),(.int .i64,2)] [i64 a1,i64 a2,i64 a3] [i64 b1,i64 b2,i64 b3]=_
  have e:∀x y:Int,(x == y)=decide (x=y):=fun _ _=>rfl
  simp only[eqFs,nth,Instr.sameNow,e]
  by_cases h1:a1=b1 <;> by_cases h2:a2=b2 <;> by_cases h3:a3=b3 <;> simp[h1,h2,h3]
 same:=fun a=>by simp[Instr.sameBits]
def doneL (l:List Turn):List Value:=(List.range 24).map fun (i:Nat)=>.bool (decide ((i:Int)∈l.map Turn.reel))
theorem mapB_ne {t:TypeId} {α:Type} [DecidableEq α]{P:Program}{K:KeyK P t α}{h:Heap}{b c:Nat}{l:List (α×Value)}{vs:List Value}{el:TypeId}{op:Bool}(hm:MapB K h b l)(hg:h.get c=some (.cells vs el op)):c≠b:=by
 rintro rfl
 obtain⟨es,ck,h1,_⟩:=hm
 rw[h1] at hg;cases hg
def judgeR (t:Task)(l:List Turn)(h:Heap):VS->Prop:=fun r =>
 if errS t≠0 then ∃h',r=.pan (errV (errS t)) h'/\Ext h h' else if judgedS t l≠0 then ∃h',r=.pan (errV (judgedS t l)) h'/\Ext h h' else ∃h',r=.ret (.tuple ⟨[.agg ⟨doneL l⟩,i64 (leftS t l)]⟩) h'/\Ext h h'
end Go.Dw
/- J9: the contract of rescue.Judge. -/
namespace Go.Dw
open Go Go.Dx Go.Proofs
set_option maxRecDepth 100000
end Go.Dw
