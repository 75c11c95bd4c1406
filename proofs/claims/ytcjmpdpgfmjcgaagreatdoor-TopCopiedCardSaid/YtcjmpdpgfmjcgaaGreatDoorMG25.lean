/- L1: RescueChecks: its contract, for any workshop. -/
import Derived.Test.YtcjmpdpgfmjcgaaGreatDoorMG2
import Derived.Test.YtcjmpdpgfmjcgaaGreatDoorMG5
import Derived.Test.YtcjmpdpgfmjcgaaGreatDoorMRunA
import Derived.Test.YtcjmpdpgfmjcgaaGreatDoorMG23
import Derived.Test.YtcjmpdpgfmjcgaaGreatDoorMG13
import Derived.Test.YtcjmpdpgfmjcgaaGreatDoorMG11
namespace Go.Dw
open Go Go.Dx Go.Proofs
set_option maxRecDepth 100000
theorem awake_sv (h:Heap):Sv Tryz.prog 21 [] h (RetP fun v h'=>v=.bool true/\h'=h):=Sv_orc Go.Dx.awake h
theorem cells_ty:Tryz.prog.cellsOf 3=1/\Tryz.prog.cellsOf 9=1/\Tryz.prog.cellsOf 22=1/\Tryz.prog.cellsOf 23=1/\Tryz.prog.cellsOf 25=4/\Tryz.prog.cellsOf 31=1/\Tryz.prog.cellsOf 63=5/\Tryz.prog.cellsOf 72=2:=by
 refine⟨?_,?_,?_,?_,?_,?_,?_,?_⟩ <;> kernel_rfl
section
variable {H:Type}{enc:TypeId×Value->H}{W:World}{cs:List Value}
theorem rd_mach (h:Rd enc Tryz.prog W 72 cs):∃m:Mach,cs.all (okv W.heap.size)=true/\MachAt (ro W) (cs.map nz) m/\m.Fit:=by
 obtain⟨c3,c9,c22,c23,c25,c31,c63,c72⟩:=cells_ty
 obtain⟨h1,h2⟩:=rd_struct Tryz.underlying72 h
 rw[c72] at h1
 obtain⟨x0,x1,rfl⟩:∃x0 x1,cs=[x0,x1]:=by
  match cs,h1 with
  | [x0,x1],_=>exact⟨x0,x1,rfl⟩
 have f0:Rd enc Tryz.prog W 9 (([x0,x1].drop 0).take (Tryz.prog.cellsOf 9)):=h2 0 _ rfl
 rw[c9] at f0
 have f1:Rd enc Tryz.prog W 31 (([x0,x1].drop 1).take (Tryz.prog.cellsOf 31)):=h2 1 _ rfl
 rw[c31] at f1
 obtain⟨s,e0,l0⟩:=rd_string Tryz.underlying9 f0
 obtain⟨v,a,l,cap,e1,ok1,nz1,hI,hL,hF⟩:=rd_ints Tryz.underlying31 Tryz.underlying3 c3 f1
 simp at e0 e1
 subst e0;subst e1
 refine⟨⟨s,l⟩,by simp[ok1];rfl,⟨a,cap,?_,hI⟩,⟨l0,hL,hF⟩⟩
 simp only[List.map_cons,List.map_nil,nz1];rfl
theorem rd_reel (h:Rd enc Tryz.prog W 63 cs):∃m:Reel,cs.all (okv W.heap.size)=true/\ReelAt (ro W) (cs.map nz) m/\m.Fit:=by
 obtain⟨c3,c9,c22,c23,c25,c31,c63,c72⟩:=cells_ty
 obtain⟨h1,h2⟩:=rd_struct Tryz.underlying63 h
 rw[c63] at h1
 obtain⟨x0,x1,x2,x3,x4,rfl⟩:∃x0 x1 x2 x3 x4,cs=[x0,x1,x2,x3,x4]:=by
  match cs,h1 with
  | [x0,x1,x2,x3,x4],_=>exact⟨x0,x1,x2,x3,x4,rfl⟩
 have f0:Rd enc Tryz.prog W 9 (([x0,x1,x2,x3,x4].drop 0).take (Tryz.prog.cellsOf 9)):=h2 0 _ rfl
 rw[c9] at f0
 have f1:Rd enc Tryz.prog W 31 (([x0,x1,x2,x3,x4].drop 1).take (Tryz.prog.cellsOf 31)):=h2 1 _ rfl
 rw[c31] at f1
 have f2:Rd enc Tryz.prog W 3 (([x0,x1,x2,x3,x4].drop 2).take (Tryz.prog.cellsOf 3)):=h2 2 _ rfl
 rw[c3] at f2
 have f3:Rd enc Tryz.prog W 3 (([x0,x1,x2,x3,x4].drop 3).take (Tryz.prog.cellsOf 3)):=h2 3 _ rfl
 rw[c3] at f3
 have f4:Rd enc Tryz.prog W 3 (([x0,x1,x2,x3,x4].drop 4).take (Tryz.prog.cellsOf 3)):=h2 4 _ rfl
 rw[c3] at f4
 obtain⟨s,e0,l0⟩:=rd_string Tryz.underlying9 f0
 obtain⟨v,a,l,cap,e1,ok1,nz1,hI,hL,hF⟩:=rd_ints Tryz.underlying31 Tryz.underlying3 c3 f1
 obtain⟨n2,e2,l2⟩:=rd_int Tryz.underlying3 f2
 obtain⟨n3,e3,l3⟩:=rd_int Tryz.underlying3 f3
 obtain⟨n4,e4,l4⟩:=rd_int Tryz.underlying3 f4
 simp at e0 e1 e2 e3 e4
 subst e0;subst e1;subst e2;subst e3;subst e4
 refine⟨⟨s,l,n2,n3,n4⟩,by simp[ok1];exact⟨rfl,rfl,rfl,rfl⟩,⟨a,cap,?_,hI⟩,⟨l0,hL,hF,l2,l3,l4⟩⟩
 simp only[List.map_cons,List.map_nil,nz1];rfl
theorem rd_task (h:Rd enc Tryz.prog W 25 cs):∃t:Task,cs.all (okv W.heap.size)=true/\TaskAt (ro W) (cs.map nz) t/\t.Fit:=by
 obtain⟨c3,c9,c22,c23,c25,c31,c63,c72⟩:=cells_ty
 obtain⟨h1,h2⟩:=rd_struct Tryz.underlying25 h
 rw[c25] at h1
 obtain⟨x0,x1,x2,x3,rfl⟩:∃x0 x1 x2 x3,cs=[x0,x1,x2,x3]:=by
  match cs,h1 with
  | [x0,x1,x2,x3],_=>exact⟨x0,x1,x2,x3,rfl⟩
 have f0:Rd enc Tryz.prog W 3 (([x0,x1,x2,x3].drop 0).take (Tryz.prog.cellsOf 3)):=h2 0 _ rfl
 rw[c3] at f0
 have f1:Rd enc Tryz.prog W 3 (([x0,x1,x2,x3].drop 1).take (Tryz.prog.cellsOf 3)):=h2 1 _ rfl
 rw[c3] at f1
 have f2:Rd enc Tryz.prog W 22 (([x0,x1,x2,x3].drop 2).take (Tryz.prog.cellsOf 22)):=h2 2 _ rfl
 rw[c22] at f2
 have f3:Rd enc Tryz.prog W 23 (([x0,x1,x2,x3].drop 3).take (Tryz.prog.cellsOf 23)):=h2 3 _ rfl
 rw[c23] at f3
 obtain⟨n0,e0,l0⟩:=rd_int Tryz.underlying3 f0
 obtain⟨n1,e1,l1⟩:=rd_int Tryz.underlying3 f1
 obtain⟨v2,a2,l2,cap2,e2,ok2,nz2,hM,hL2,hF2⟩:=rd_rows (R:=MachAt) (Fit:=Mach.Fit) Tryz.underlying22 c72 (by decide) (fun row hr=>rd_mach hr) f2
 obtain⟨v3,a3,l3,cap3,e3,ok3,nz3,hR,hL3,hF3⟩:=rd_rows (R:=ReelAt) (Fit:=Reel.Fit) Tryz.underlying23 c63 (by decide) (fun row hr=>rd_reel hr) f3
 simp at e0 e1 e2 e3
 subst e0;subst e1;subst e2;subst e3
 refine⟨⟨n0,n1,l2,l3⟩,by simp[ok2,ok3];exact⟨rfl,rfl⟩,⟨a2,cap2,a3,cap3,?_,hM,hR⟩,⟨l0,l1,hL2,hL3,hF2,hF3⟩⟩
 simp only[List.map_cons,List.map_nil,nz2,nz3];rfl
end
end Go.Dw
/- L3: RescueFits: its contract, for any workshop and reels. -/
namespace Go.Dw
open Go Go.Dx Go.Proofs
set_option maxRecDepth 100000
end Go.Dw
/- L2: RescueJudges: its contract, for any workshop, plan and proof; reading plans and proofs. -/
namespace Go.Dw
open Go Go.Dx Go.Proofs
set_option maxRecDepth 100000
section
variable {H:Type}{enc:TypeId×Value->H}{W:World}{cs:List Value}
end
end Go.Dw
