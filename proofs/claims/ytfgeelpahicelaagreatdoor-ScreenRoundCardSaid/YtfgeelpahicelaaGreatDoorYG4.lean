/- C1: contracts of small functions of chapter 04. -/
import Derived.Test.YtfgeelpahicelaaGreatDoorYG2
import Derived.Test.YtfgeelpahicelaaGreatDoorYTy
set_option linter.unusedVariables false
set_option linter.unusedSimpArgs false
namespace Go.Dw
open Go Go.Dx Go.Proofs
set_option maxRecDepth 100000
theorem ZHT (a lo hi:Int)(h:Heap):Sv Tryz.prog 55 [i64 a,i64 lo,i64 hi] h (RetP fun v h'=>v=.bool (decide (a<lo\/hi<a))/\h'=h):=by
 refine ZAJ Tryz.func55 rfl (by rw[Tryz.ntmps55];rfl) ?_;show Wc Tryz.prog ⟨55,15,none⟩ _ _ _ _ _;refine zz ?_;refine ZAl rfl rfl rfl rfl (ZCF rfl rfl) (fun h1=>?_) (fun h1=>?_)
 ·refine zz ?_
  exact ZAD (ZAE rfl ⟨by rw[decide_eq_true (.inl h1)];rfl,rfl⟩)
 ·refine zz ?_
  refine ZAl rfl rfl rfl rfl (ZB1 rfl rfl) (fun h2=>?_) (fun h2=>?_)
  ·refine zz ?_
   exact ZAD (ZAE rfl ⟨by rw[decide_eq_true (.inr h2)];rfl,rfl⟩)
  ·refine zz ?_
   exact ZAD (ZAE rfl ⟨by rw[decide_eq_false (not_or.2 ⟨h1,h2⟩)];rfl,rfl⟩)
theorem ZLz (a lo hi:Int)(h:Heap):Sv Tryz.prog 75 [i64 a,i64 lo,i64 hi] h (RetP fun v h'=>v=.bool (decide (lo<=a/\a<=hi))/\h'=h):=by
 refine ZAJ Tryz.func75 rfl (by rw[Tryz.ntmps75];rfl) ?_;show Wc Tryz.prog ⟨75,15,none⟩ _ _ _ _ _;refine zz ?_;refine ZAl rfl rfl rfl rfl (ZFa rfl rfl) (fun h1=>?_) (fun h1=>?_)
 ·refine zz ?_
  refine ZAl rfl rfl rfl rfl (ZKn rfl rfl) (fun h2=>?_) (fun h2=>?_)
  ·refine zz ?_
   exact ZAD (ZAE rfl ⟨by rw[decide_eq_true ⟨h1,h2⟩];rfl,rfl⟩)
  ·refine zz ?_
   exact ZAD (ZAE rfl ⟨by rw[decide_eq_false (fun x=>h2 x.2)];rfl,rfl⟩)
 ·refine zz ?_
  exact ZAD (ZAE rfl ⟨by rw[decide_eq_false (fun x=>h1 x.1)];rfl,rfl⟩)
def ZOx {α:Type}(p:α->Bool)(l:List α):Int:=match l.findIdx? p with
 | some i=>i
 | none=>-1
def alN (n:Nat):Bool:=(decide (97<=n) && decide (n<=122)) || (decide (48<=n) && decide (n<=57))
def al (c:UInt8):Bool:=alN c.toNat
def tabC:List Value:=(List.range 256).map fun i=>.bool (alN i)
def alnum:List UInt8:=[97,98,99,100,101,102,103,104,105,106,107,108,109,110,111,112,113,114,115,116,117,118,119,120,121,122,48,49,50,51,52,53,54,55,56,57]
def tabJ (l:List UInt8):List Value:=l.foldl (fun cs c=>cs.set c.toNat (Value.bool true)) (List.replicate 256 (Value.bool false))
def trimR (l:List UInt8):List UInt8:=(l.reverse.dropWhile al).reverse
def trimL (l:List UInt8):List UInt8:=l.dropWhile al
def dash:UInt8:=45
def ZJC:List UInt8->List (List UInt8)
 | []=>[[]]
 | x::l=>if x=dash then []::ZJC l else match ZJC l with
  | []=>[[x]]
  | p::ps=>(x::p)::ps
theorem ZD3 {m:Mem}{h:Heap}{d:Option Tmp}{ty:TypeId}{pos:String}{af:Array Edge}{gu:Option (Nat×Bool)}{x y:Operand}{ts:Array TypeId}{l:List UInt8}{c:UInt8}(hx:opk h m x=some (str l))(hy:opk h m y=some (byt c)) :
  Aop Tryz.prog ⟨d,.call ⟨.value (.func 225),#[x,y],ts⟩,ty,pos,af,gu⟩ m h (i64 (Lib.indexByte l c)) h :=
 ZOR Tryz.func225 (by kernel_rfl) (by kernel_rfl) (by kernel_rfl) (by kernel_rfl) hx hy rfl rfl rfl fun w=>by
  rw[Lib.run_indexByteString];simp
theorem ZHf (l:List UInt8)(c:UInt8)(h:Heap):Sv Tryz.prog 189 [str l,byt c] h (RetP fun v h'=>v=i64 (Lib.indexByte l c)/\h'=h):=by
 refine ZAJ Tryz.func189 rfl (by rw[Tryz.ntmps189];rfl) ?_;show Wc Tryz.prog ⟨189,8,none⟩ _ _ _ _ _;refine zz ?_;refine ZL5 (ZOA rfl (fun _ hq=>nomatch hq) (ZD3 rfl rfl) ?_) rfl;refine zz ?_;exact ZAD (ZAE rfl ⟨rfl,rfl⟩)
end Go.Dw
namespace Go.Dw
open Go Go.Dx Go.Proofs
set_option maxRecDepth 100000
def letB (c:UInt8):Bool:=decide (97<=c.toNat/\c.toNat<=122)
def fstL:List UInt8->Bool
 | []=>false
 | c::_=>letB c
def digB (c:UInt8):Bool:=decide (48<=c.toNat/\c.toNat<=57)
def nameF (l:List UInt8):Bool:=decide (1<=l.length/\l.length<=24) && fstL l && (ZJC l).all fun p=>!(decide (p=[]) || !p.all al)
def okAt (l:List UInt8)(i:Nat):Bool:=match l[i]? with
 | none=>true
 | some c=>letB c || digB c || (decide (c=dash) && !(decide (l[i-1]?=some dash)) && !decide (i+1=l.length))
def ZIW (l:List UInt8):Bool:=decide (1<=l.length/\l.length<=24) && fstL l && (List.range l.length).all (okAt l)
end Go.Dw
