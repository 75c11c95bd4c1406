/- G1: contracts of screen.named and screen.each, for each type. -/
import Derived.Test.YtfgeelpahicelaaGreatDoorYG2
import Derived.Test.YtfgeelpahicelaaGreatDoorYG5
import Derived.Test.YtfgeelpahicelaaGreatDoorYG6
set_option linter.unusedVariables false
set_option linter.unusedSimpArgs false
namespace Go.Dw
open Go Go.Dx Go.Proofs
set_option maxRecDepth 100000
theorem ZLU (a b:List UInt8):((⟨⟨a⟩⟩:ByteArray) == ⟨⟨b⟩⟩)=decide (a=b):=by
 have:((⟨⟨a⟩⟩:ByteArray) == ⟨⟨b⟩⟩)=((⟨a⟩:Array UInt8) == ⟨b⟩):=rfl;rw[this,Bool.eq_iff_iff];simp
noncomputable def strK:KeyK Tryz.prog 9 (List UInt8) where
 enc:=str
 ks:=.basic .string
 hks:=by kernel_rfl
 flat:=fun _=>rfl
 ok:=fun _=>rfl
 eq:=fun a b=>by
  show Instr.sameNow .string (str a) (str b)=_
  simp[Instr.sameNow,ZLU]
 same:=fun a=>by simp[Instr.sameBits,ZLU]
structure NmI (h0 h:Heap)(bm:Nat)(ZAK:List (List UInt8)):Prop where
 ext:Ext h0 h
 mp:∃l,ZFX strK h bm l/\∀s,lkp s l=if s∈ZAK then some (.bool true) else none
 lt:h0.nx<=bm
theorem NmI.grow {h0 h h':Heap}{bm:Nat}{ZAK:List (List UInt8)}(c:NmI h0 h bm ZAK)(he:Ext h h'):NmI h0 h' bm ZAK:=by
 obtain⟨l,m1,m2⟩:=c.mp;exact⟨c.ext.trans he,⟨l,m1.ext _ he,m2⟩,c.lt⟩
theorem NmI.upd {h0 h h':Heap}{bm x:Nat}{ZAK:List (List UInt8)}{o:AO}(c:NmI h0 h bm ZAK)(u:Upd h x o h')(hw:WF h0)(hx:h0.nx<=x)(h2:bm≠x):NmI h0 h' bm ZAK:=by
 obtain⟨l,m1,m2⟩:=c.mp;exact⟨u.ext c.ext hw hx,⟨l,m1.get _ (u.other _ h2),m2⟩,c.lt⟩
def oI:Option (Nat×Int)->Int
 | none=>0
 | some (i,_)=>(i:Nat)
def oE:Option (Nat×Int)->Int
 | none=>0
 | some (_,e)=>e
def tupO (o:Option (Nat×Int)):Value:=.tuple ⟨[i64 (oI o),i64 (oE o)]⟩
end Go.Dw
