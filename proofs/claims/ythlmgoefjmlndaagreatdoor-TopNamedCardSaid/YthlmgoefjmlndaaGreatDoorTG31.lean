/- PR2: reading a task of chapter 11: where its empty lists lie. -/
import Derived.Test.YthlmgoefjmlndaaGreatDoorTG27
import Derived.Test.YthlmgoefjmlndaaGreatDoorTG28
set_option linter.unusedVariables false
set_option linter.unusedSimpArgs false
namespace Go.Dw
open Go Go.Dx Go.Proofs
set_option maxRecDepth 100000
section
variable {H:Type}{enc:TypeId×Value->H}{W:World}{cs:List Value}
theorem ZNB {t e:TypeId}{x:Value}{a:Option Addr}{c:Nat}(ht:Tryz.prog.underlying t=some (.slice e))(hz:0<Tryz.prog.cellsOf e)(h:Rd enc Tryz.prog W t [x])(hn:nz x=.slice a 0 c):EmpA (ro W) a:=by
 obtain⟨v',a',len',cap',g1,g2,g3⟩:=ZK0 ht hz h;simp only[List.cons.injEq,and_true] at g1;subst g1;rw[hn] at g2;simp only[Value.slice.injEq] at g2;obtain⟨rfl,rfl,rfl⟩:=g2
 rcases g3 rfl with g|g|⟨b,o,c,t',fz,g,hb,hle⟩
 ·exact .inl g
 ·exact .inr (.inl g)
 ·refine .inr (.inr ⟨b,o,none,g,?_⟩)
  have hlen:c.toList.length=c.size:=Array.length_toList
  have:=ZLQ (W:=W) (o:=o) (n:=0) (row:=[]) hb (by
   unfold cut;have:Nat.ble (Nat.add o 0) c.toList.length=true:=Nat.ble_eq_true_of_le (by show o+0<=c.toList.length;omega);rw[this];simp) rfl
  simpa using this
theorem ZOr (h:Rd enc Tryz.prog W 91 cs)(i:Nat)(a:Option Addr)(c:Nat)(h4:4<=i)(h6:i<=6)(hi:(cs.map nz)[i]?=some (.slice a 0 c)):EmpA (ro W) a:=by
 have cS:Tryz.prog.cellsOf 91=9:=by kernel_rfl
 obtain⟨h1,h2⟩:=ZBl Tryz.underlying91 h;rw[cS] at h1;obtain⟨x0,x1,x2,x3,x4,x5,x6,x7,x8,rfl⟩:∃x0 x1 x2 x3 x4 x5 x6 x7 x8,cs=[x0,x1,x2,x3,x4,x5,x6,x7,x8]:=by
  match cs,h1 with
  | [x0,x1,x2,x3,x4,x5,x6,x7,x8],_=>exact⟨x0,x1,x2,x3,x4,x5,x6,x7,x8,rfl⟩
 have c4:Tryz.prog.cellsOf 85=1:=by kernel_rfl
 have c5:Tryz.prog.cellsOf 86=1:=by kernel_rfl
 have c6:Tryz.prog.cellsOf 87=1:=by kernel_rfl
 have f4:Rd enc Tryz.prog W 85 (([x0,x1,x2,x3,x4,x5,x6,x7,x8].drop 4).take (Tryz.prog.cellsOf 85)):=h2 4 _ rfl;have f5:Rd enc Tryz.prog W 86 (([x0,x1,x2,x3,x4,x5,x6,x7,x8].drop 5).take (Tryz.prog.cellsOf 86)):=h2 5 _ rfl;have f6:Rd enc Tryz.prog W 87 (([x0,x1,x2,x3,x4,x5,x6,x7,x8].drop 6).take (Tryz.prog.cellsOf 87)):=h2 6 _ rfl;rw[c4] at f4;rw[c5] at f5;rw[c6] at f6;have e:i=4\/i=5\/i=6:=by omega
 rcases e with rfl|rfl|rfl
 ·exact ZNB Tryz.underlying85 (by rw[show Tryz.prog.cellsOf 100=5 by kernel_rfl];decide) f4 (Option.some.inj hi)
 ·exact ZNB Tryz.underlying86 (by rw[show Tryz.prog.cellsOf 102=7 by kernel_rfl];decide) f5 (Option.some.inj hi)
 ·exact ZNB Tryz.underlying87 (by rw[show Tryz.prog.cellsOf 104=5 by kernel_rfl];decide) f6 (Option.some.inj hi)
end
end Go.Dw
