/- How great minors can be: by the sums of the rows, one column set apart. Plain mathematics: no program stands here. No conditions. -/
import Derived.Deep.MidRow
import Derived.Lib.SliceRun
import Derived.Test.YtmgkbhhnchnkcaaGreatDoorKFnResidualsU7
set_option maxHeartbeats 8000000
set_option maxRecDepth 100000
set_option linter.unusedSimpArgs false
set_option linter.unusedVariables false
namespace Go.Proofs.YtmgkbhhnchnkcaaGreatDoor
namespace Net
open Go Go.RowKit YtmgkbhhnchnkcaaGreatDoorW.PrintWords YtmgkbhhnchnkcaaGreatDoorW.PrintLast YtmgkbhhnchnkcaaGreatDoorW.PrintMore A Plain
theorem run_idxS(w:World)(v:Array Value)(k:Nat)(i:Int)(hi:i=(k:Int))(h8:k<8)(x:Array Value)(hx:v.extract (k*3) (k*3+3)=x):(Instr.index 73 (.agg v) (.int .i64 i)).run Tryz.prog w= .ok (.agg x) w:=by
  subst hi;have hn:(0:Int)≤(k:Int)∧(k:Int)<((8:Nat):Int):=by omega
  simp[Instr.index,run_underlying Tryz.underlying73,asIntOf,hn,go_sem];rw[if_pos h8,hx]
theorem min2_lo(k k':IntKind)(x y:Int):Builtin.min2 (.int k x) (.int k' y)=pure (.int k (lo2 x y)):=min2_int k k' x y
theorem max2_hi(k k':IntKind)(x y:Int):Builtin.max2 (.int k x) (.int k' y)=pure (.int k (hi2 x y)):=max2_int k k' x y
attribute [local go_sem] max2_hi min2_lo max_two min_two
theorem extentW {n T g:Nat} {P:Nat→Bool} {X:Nat→S72} {B:Nat→Bool} {cl:Value} (w:World) (hS:St n T g P X B cl w):
    Calls Tryz.prog 98 #[.pointer (some ⟨g,0,none⟩)] w fun e w'=>e= .returned (.tuple #[.agg #[.int .i64 (extTo P X 8).1.f0,.int .i64 (extTo P X 8).1.f1,.int .i64 (extTo P X 8).1.f2],.agg #[.int .i64 (extTo P X 8).2.f0,.int .i64 (extTo P X 8).2.f1,.int .i64 (extTo P X 8).2.f2]])∧Below w.heap.size w w':=by
  have HB:=ak (Below.refl w.heap.size w);have hgs:g<w.heap.size:=World.block_lt_of_cell? _ _ hS.tc;have HS:=ak hS;have HP:Aside0 (∀s:Nat,s<8→w.cell? ⟨g,s,none⟩=some (.bool (P s))):=⟨hS.pb⟩
  have hR:w.rangeAt g 8 [Value.int IntKind.i64 (X 0).f0,Value.int IntKind.i64 (X 0).f1,Value.int IntKind.i64 (X 0).f2,Value.int IntKind.i64 (X 1).f0,Value.int IntKind.i64 (X 1).f1,Value.int IntKind.i64 (X 1).f2,Value.int IntKind.i64 (X 2).f0,Value.int IntKind.i64 (X 2).f1,Value.int IntKind.i64 (X 2).f2,Value.int IntKind.i64 (X 3).f0,Value.int IntKind.i64 (X 3).f1,Value.int IntKind.i64 (X 3).f2,Value.int IntKind.i64 (X 4).f0,Value.int IntKind.i64 (X 4).f1,Value.int IntKind.i64 (X 4).f2,Value.int IntKind.i64 (X 5).f0,Value.int IntKind.i64 (X 5).f1,Value.int IntKind.i64 (X 5).f2,Value.int IntKind.i64 (X 6).f0,Value.int IntKind.i64 (X 6).f1,Value.int IntKind.i64 (X 6).f2,Value.int IntKind.i64 (X 7).f0,Value.int IntKind.i64 (X 7).f1,Value.int IntKind.i64 (X 7).f2]:=by
    intro j v hj;have hl:j<24:=(List.getElem?_eq_some_iff.1 hj).1;have h24:j=0∨j=1∨j=2∨j=3∨j=4∨j=5∨j=6∨j=7∨j=8∨j=9∨j=10∨j=11∨j=12∨j=13∨j=14∨j=15∨j=16∨j=17∨j=18∨j=19∨j=20∨j=21∨j=22∨j=23:=by omega
    rcases h24 with rfl|rfl|rfl|rfl|rfl|rfl|rfl|rfl|rfl|rfl|rfl|rfl|rfl|rfl|rfl|rfl|rfl|rfl|rfl|rfl|rfl|rfl|rfl|rfl
    · obtain rfl:_=v:=by simpa using hj
      exact hS.px 0 (by decide)
    · obtain rfl:_=v:=by simpa using hj
      exact hS.py 0 (by decide)
    · obtain rfl:_=v:=by simpa using hj
      exact hS.pz 0 (by decide)
    · obtain rfl:_=v:=by simpa using hj
      exact hS.px 1 (by decide)
    · obtain rfl:_=v:=by simpa using hj
      exact hS.py 1 (by decide)
    · obtain rfl:_=v:=by simpa using hj
      exact hS.pz 1 (by decide)
    · obtain rfl:_=v:=by simpa using hj
      exact hS.px 2 (by decide)
    · obtain rfl:_=v:=by simpa using hj
      exact hS.py 2 (by decide)
    · obtain rfl:_=v:=by simpa using hj
      exact hS.pz 2 (by decide)
    · obtain rfl:_=v:=by simpa using hj
      exact hS.px 3 (by decide)
    · obtain rfl:_=v:=by simpa using hj
      exact hS.py 3 (by decide)
    · obtain rfl:_=v:=by simpa using hj
      exact hS.pz 3 (by decide)
    · obtain rfl:_=v:=by simpa using hj
      exact hS.px 4 (by decide)
    · obtain rfl:_=v:=by simpa using hj
      exact hS.py 4 (by decide)
    · obtain rfl:_=v:=by simpa using hj
      exact hS.pz 4 (by decide)
    · obtain rfl:_=v:=by simpa using hj
      exact hS.px 5 (by decide)
    · obtain rfl:_=v:=by simpa using hj
      exact hS.py 5 (by decide)
    · obtain rfl:_=v:=by simpa using hj
      exact hS.pz 5 (by decide)
    · obtain rfl:_=v:=by simpa using hj
      exact hS.px 6 (by decide)
    · obtain rfl:_=v:=by simpa using hj
      exact hS.py 6 (by decide)
    · obtain rfl:_=v:=by simpa using hj
      exact hS.pz 6 (by decide)
    · obtain rfl:_=v:=by simpa using hj
      exact hS.px 7 (by decide)
    · obtain rfl:_=v:=by simpa using hj
      exact hS.py 7 (by decide)
    · obtain rfl:_=v:=by simpa using hj
      exact hS.pz 7 (by decide)
  clear hS;have HE:Aside0 (∀k,extTo P X (k+1)=if P k=true then extS (extTo P X k) (X k) else extTo P X k):=⟨fun k=>rfl⟩;have HN0:Aside0 (extTo P X 0=z2):=⟨rfl⟩;generalize extTo P X=S at *;go_enter Tryz.func98,Tryz.ntmps98
  go_upto_region 2 with fail
  have e1:(w.alloc (Obj.cells #[Value.int IntKind.i64 0,Value.int IntKind.i64 0,Value.int IntKind.i64 0] 72)).heap.size=w.heap.size+1:=by go_simp
  have e2:((w.alloc (Obj.cells #[Value.int IntKind.i64 0,Value.int IntKind.i64 0,Value.int IntKind.i64 0] 72)).alloc (Obj.cells #[Value.int IntKind.i64 0,Value.int IntKind.i64 0,Value.int IntKind.i64 0] 72)).heap.size=w.heap.size+1+1:=by go_simp
  have e3:(((w.alloc (Obj.cells #[Value.int IntKind.i64 0,Value.int IntKind.i64 0,Value.int IntKind.i64 0] 72)).alloc (Obj.cells #[Value.int IntKind.i64 0,Value.int IntKind.i64 0,Value.int IntKind.i64 0] 72)).alloc (Obj.cells #[Value.int IntKind.i64 0,Value.int IntKind.i64 0,Value.int IntKind.i64 0] 72)).heap.size=w.heap.size+1+1+1:=by go_simp
  have B0:Aside0 (((((w.alloc (Obj.cells #[Value.int IntKind.i64 0,Value.int IntKind.i64 0,Value.int IntKind.i64 0] 72)).alloc (Obj.cells #[Value.int IntKind.i64 0,Value.int IntKind.i64 0,Value.int IntKind.i64 0] 72)).alloc (Obj.cells #[Value.int IntKind.i64 0,Value.int IntKind.i64 0,Value.int IntKind.i64 0] 72)).alloc (Obj.cells #[Value.int IntKind.i64 0,Value.int IntKind.i64 0,Value.int IntKind.i64 0] 72)).heap[w.heap.size]?=some (Obj.cells #[Value.int IntKind.i64 0,Value.int IntKind.i64 0,Value.int IntKind.i64 0] 72)):=⟨blk_alloc (blk_alloc (blk_alloc (blk_new w _) _) _) _⟩;have B1:Aside0 (((((w.alloc (Obj.cells #[Value.int IntKind.i64 0,Value.int IntKind.i64 0,Value.int IntKind.i64 0] 72)).alloc (Obj.cells #[Value.int IntKind.i64 0,Value.int IntKind.i64 0,Value.int IntKind.i64 0] 72)).alloc (Obj.cells #[Value.int IntKind.i64 0,Value.int IntKind.i64 0,Value.int IntKind.i64 0] 72)).alloc (Obj.cells #[Value.int IntKind.i64 0,Value.int IntKind.i64 0,Value.int IntKind.i64 0] 72)).heap[w.heap.size+1]?=some (Obj.cells #[Value.int IntKind.i64 0,Value.int IntKind.i64 0,Value.int IntKind.i64 0] 72)):=⟨(by rw[←e1];exact blk_alloc (blk_alloc (blk_new _ _) _) _)⟩;have BL:Aside0 (((((w.alloc (Obj.cells #[Value.int IntKind.i64 0,Value.int IntKind.i64 0,Value.int IntKind.i64 0] 72)).alloc (Obj.cells #[Value.int IntKind.i64 0,Value.int IntKind.i64 0,Value.int IntKind.i64 0] 72)).alloc (Obj.cells #[Value.int IntKind.i64 0,Value.int IntKind.i64 0,Value.int IntKind.i64 0] 72)).alloc (Obj.cells #[Value.int IntKind.i64 0,Value.int IntKind.i64 0,Value.int IntKind.i64 0] 72)).heap[w.heap.size+1+1]?=some (Obj.cells #[.int .i64 (S 0).1.f0,.int .i64 (S 0).1.f1,.int .i64 (S 0).1.f2] 72)):=⟨(by rw[HN0.out,←e2];exact blk_alloc (blk_new _ _) _)⟩;have BH:Aside0 (((((w.alloc (Obj.cells #[Value.int IntKind.i64 0,Value.int IntKind.i64 0,Value.int IntKind.i64 0] 72)).alloc (Obj.cells #[Value.int IntKind.i64 0,Value.int IntKind.i64 0,Value.int IntKind.i64 0] 72)).alloc (Obj.cells #[Value.int IntKind.i64 0,Value.int IntKind.i64 0,Value.int IntKind.i64 0] 72)).alloc (Obj.cells #[Value.int IntKind.i64 0,Value.int IntKind.i64 0,Value.int IntKind.i64 0] 72)).heap[w.heap.size+1+1+1]?=some (Obj.cells #[.int .i64 (S 0).2.f0,.int .i64 (S 0).2.f1,.int .i64 (S 0).2.f2] 72)):=⟨(by rw[HN0.out,←e3];exact blk_new _ _)⟩;replace HB:Aside0 (Below w.heap.size w ((((w.alloc (Obj.cells #[Value.int IntKind.i64 0,Value.int IntKind.i64 0,Value.int IntKind.i64 0] 72)).alloc (Obj.cells #[Value.int IntKind.i64 0,Value.int IntKind.i64 0,Value.int IntKind.i64 0] 72)).alloc (Obj.cells #[Value.int IntKind.i64 0,Value.int IntKind.i64 0,Value.int IntKind.i64 0] 72)).alloc (Obj.cells #[Value.int IntKind.i64 0,Value.int IntKind.i64 0,Value.int IntKind.i64 0] 72))):=⟨below_alloc (below_alloc (below_alloc (below_alloc (Below.refl _ _) _) _) _) _⟩;obtain⟨r1,hr1⟩:∃r,r=w.heap.size+1:=⟨_,rfl⟩
  obtain⟨gl,hgl⟩:∃r,r=w.heap.size+1+1:=⟨_,rfl⟩
  obtain⟨gh,hgh⟩:∃r,r=w.heap.size+1+1+1:=⟨_,rfl⟩
  have GG:=ak (show(w.heap.size≤r1∧w.heap.size≤gl∧w.heap.size≤gh)∧(w.heap.size≠r1∧w.heap.size≠gl∧w.heap.size≠gh∧r1≠gl∧r1≠gh∧gl≠gh)from by omega);clear e1 e2 e3 HN0;generalize ((((w.alloc (Obj.cells #[Value.int IntKind.i64 0,Value.int IntKind.i64 0,Value.int IntKind.i64 0] 72)).alloc (Obj.cells #[Value.int IntKind.i64 0,Value.int IntKind.i64 0,Value.int IntKind.i64 0] 72)).alloc (Obj.cells #[Value.int IntKind.i64 0,Value.int IntKind.i64 0,Value.int IntKind.i64 0] 72)).alloc (Obj.cells #[Value.int IntKind.i64 0,Value.int IntKind.i64 0,Value.int IntKind.i64 0] 72))=W4 at B0 B1 BL BH HB ⊢;rw[←hgh]at BH ⊢;rw[←hgl]at BL ⊢;rw[←hr1]at B1 ⊢;clear hr1 hgl hgh;have hR4:W4.rangeAt g 8 [Value.int IntKind.i64 (X 0).f0,Value.int IntKind.i64 (X 0).f1,Value.int IntKind.i64 (X 0).f2,Value.int IntKind.i64 (X 1).f0,Value.int IntKind.i64 (X 1).f1,Value.int IntKind.i64 (X 1).f2,Value.int IntKind.i64 (X 2).f0,Value.int IntKind.i64 (X 2).f1,Value.int IntKind.i64 (X 2).f2,Value.int IntKind.i64 (X 3).f0,Value.int IntKind.i64 (X 3).f1,Value.int IntKind.i64 (X 3).f2,Value.int IntKind.i64 (X 4).f0,Value.int IntKind.i64 (X 4).f1,Value.int IntKind.i64 (X 4).f2,Value.int IntKind.i64 (X 5).f0,Value.int IntKind.i64 (X 5).f1,Value.int IntKind.i64 (X 5).f2,Value.int IntKind.i64 (X 6).f0,Value.int IntKind.i64 (X 6).f1,Value.int IntKind.i64 (X 6).f2,Value.int IntKind.i64 (X 7).f0,Value.int IntKind.i64 (X 7).f1,Value.int IntKind.i64 (X 7).f2]:=fun j v hj=>Sine.keepc (hR j v hj) HB.out
  clear hR
  have HI:Aside0 (∀s:Nat,s<8→∀W:World,(Instr.index 73 (Value.agg #[Value.int IntKind.i64 (X 0).f0,Value.int IntKind.i64 (X 0).f1,Value.int IntKind.i64 (X 0).f2,Value.int IntKind.i64 (X 1).f0,Value.int IntKind.i64 (X 1).f1,Value.int IntKind.i64 (X 1).f2,Value.int IntKind.i64 (X 2).f0,Value.int IntKind.i64 (X 2).f1,Value.int IntKind.i64 (X 2).f2,Value.int IntKind.i64 (X 3).f0,Value.int IntKind.i64 (X 3).f1,Value.int IntKind.i64 (X 3).f2,Value.int IntKind.i64 (X 4).f0,Value.int IntKind.i64 (X 4).f1,Value.int IntKind.i64 (X 4).f2,Value.int IntKind.i64 (X 5).f0,Value.int IntKind.i64 (X 5).f1,Value.int IntKind.i64 (X 5).f2,Value.int IntKind.i64 (X 6).f0,Value.int IntKind.i64 (X 6).f1,Value.int IntKind.i64 (X 6).f2,Value.int IntKind.i64 (X 7).f0,Value.int IntKind.i64 (X 7).f1,Value.int IntKind.i64 (X 7).f2]) (.int .i64 (s:Int))).run Tryz.prog W= .ok (.agg #[.int .i64 (X s).f0,.int .i64 (X s).f1,.int .i64 (X s).f2]) W):=⟨fun s hs W=>by
    rcases(show s=0∨s=1∨s=2∨s=3∨s=4∨s=5∨s=6∨s=7 by omega)with rfl|rfl|rfl|rfl|rfl|rfl|rfl|rfl
    all_goals exact run_idxS W _ _ _ rfl (by decide) _ (by rfl)⟩
  go_upto_region 3 with((with_reducible refine gate_dst (N:=11) rfl ?_);refine wpList_load_mid rfl 73 (.tmp 10) rfl g 8 rfl [Value.int IntKind.i64 (X 0).f0,Value.int IntKind.i64 (X 0).f1,Value.int IntKind.i64 (X 0).f2,Value.int IntKind.i64 (X 1).f0,Value.int IntKind.i64 (X 1).f1,Value.int IntKind.i64 (X 1).f2,Value.int IntKind.i64 (X 2).f0,Value.int IntKind.i64 (X 2).f1,Value.int IntKind.i64 (X 2).f2,Value.int IntKind.i64 (X 3).f0,Value.int IntKind.i64 (X 3).f1,Value.int IntKind.i64 (X 3).f2,Value.int IntKind.i64 (X 4).f0,Value.int IntKind.i64 (X 4).f1,Value.int IntKind.i64 (X 4).f2,Value.int IntKind.i64 (X 5).f0,Value.int IntKind.i64 (X 5).f1,Value.int IntKind.i64 (X 5).f2,Value.int IntKind.i64 (X 6).f0,Value.int IntKind.i64 (X 6).f1,Value.int IntKind.i64 (X 6).f2,Value.int IntKind.i64 (X 7).f0,Value.int IntKind.i64 (X 7).f1,Value.int IntKind.i64 (X 7).f2] _ hR4 Tryz.underlying73 rfl rfl ?_)
  generalize (Value.agg #[Value.int IntKind.i64 (X 0).f0,Value.int IntKind.i64 (X 0).f1,Value.int IntKind.i64 (X 0).f2,Value.int IntKind.i64 (X 1).f0,Value.int IntKind.i64 (X 1).f1,Value.int IntKind.i64 (X 1).f2,Value.int IntKind.i64 (X 2).f0,Value.int IntKind.i64 (X 2).f1,Value.int IntKind.i64 (X 2).f2,Value.int IntKind.i64 (X 3).f0,Value.int IntKind.i64 (X 3).f1,Value.int IntKind.i64 (X 3).f2,Value.int IntKind.i64 (X 4).f0,Value.int IntKind.i64 (X 4).f1,Value.int IntKind.i64 (X 4).f2,Value.int IntKind.i64 (X 5).f0,Value.int IntKind.i64 (X 5).f1,Value.int IntKind.i64 (X 5).f2,Value.int IntKind.i64 (X 6).f0,Value.int IntKind.i64 (X 6).f1,Value.int IntKind.i64 (X 6).f2,Value.int IntKind.i64 (X 7).f0,Value.int IntKind.i64 (X 7).f1,Value.int IntKind.i64 (X 7).f2])=V at HI ⊢;clear hR4
  go_loopw [12] (fun v12 w'=>∃(j:Nat),j≤8∧v12= .int .i64 j∧Aside0 (w'.heap[w.heap.size]?=some (Obj.cells #[Value.int IntKind.i64 0,Value.int IntKind.i64 0,Value.int IntKind.i64 0] 72))∧Aside0 (w'.heap[r1]?=some (Obj.cells #[Value.int IntKind.i64 0,Value.int IntKind.i64 0,Value.int IntKind.i64 0] 72))∧Aside0 (w'.heap[gl]?=some (Obj.cells #[.int .i64 (S j).1.f0,.int .i64 (S j).1.f1,.int .i64 (S j).1.f2] 72))∧Aside0 (w'.heap[gh]?=some (Obj.cells #[.int .i64 (S j).2.f0,.int .i64 (S j).2.f1,.int .i64 (S j).2.f2] 72))∧Aside0 (Below w.heap.size w w')) (fun v12 _=>8-(intOf v12).toNat)
  case atStart=>exact⟨0,by omega,rfl,B0,B1,BL,BH,HB⟩
  case round=>
    obtain⟨j,hj,rfl,C0,C1,CL,CH,HB2⟩:=hrel;clear B0 B1 BL BH HB;have gg:=GG.out;by_cases hlt:j<8
    · have HEj:=ak (HE.out j)
      have HIj:=ak (HI.out j hlt);have k0:(0:Int)≤(j:Int):=by omega
      have k1:(j:Int)<8:=by omega
      have k2:(j:Int)<((8:Nat):Int):=by omega
      go_wp2;rw[HIj.out]
      go_upto_region 5 with fail
      have g0:w.heap.size<wr.heap.size:=blk_lt C0.out;have g1:r1<wr.heap.size:=blk_lt C1.out;have g2:gl<wr.heap.size:=blk_lt CL.out;have g3:gh<wr.heap.size:=blk_lt CH.out;have nC0:Aside0 ((wr.alloc (Obj.cells #[.int .i64 (X j).f0,.int .i64 (X j).f1,.int .i64 (X j).f2] 72)).heap[w.heap.size]?=some (Obj.cells #[Value.int IntKind.i64 0,Value.int IntKind.i64 0,Value.int IntKind.i64 0] 72)):=⟨blk_alloc C0.out _⟩;have nC1:Aside0 ((wr.alloc (Obj.cells #[.int .i64 (X j).f0,.int .i64 (X j).f1,.int .i64 (X j).f2] 72)).heap[r1]?=some (Obj.cells #[Value.int IntKind.i64 0,Value.int IntKind.i64 0,Value.int IntKind.i64 0] 72)):=⟨blk_alloc C1.out _⟩;have nCL:Aside0 ((wr.alloc (Obj.cells #[.int .i64 (X j).f0,.int .i64 (X j).f1,.int .i64 (X j).f2] 72)).heap[gl]?=some (Obj.cells #[.int .i64 (S j).1.f0,.int .i64 (S j).1.f1,.int .i64 (S j).1.f2] 72)):=⟨blk_alloc CL.out _⟩;have nCH:Aside0 ((wr.alloc (Obj.cells #[.int .i64 (X j).f0,.int .i64 (X j).f1,.int .i64 (X j).f2] 72)).heap[gh]?=some (Obj.cells #[.int .i64 (S j).2.f0,.int .i64 (S j).2.f1,.int .i64 (S j).2.f2] 72)):=⟨blk_alloc CH.out _⟩;have nP:Aside0 ((wr.alloc (Obj.cells #[.int .i64 (X j).f0,.int .i64 (X j).f1,.int .i64 (X j).f2] 72)).heap[wr.heap.size]?=some (Obj.cells #[.int .i64 (X j).f0,.int .i64 (X j).f1,.int .i64 (X j).f2] 72)):=⟨blk_new wr _⟩;have nB:Aside0 (Below w.heap.size w (wr.alloc (Obj.cells #[.int .i64 (X j).f0,.int .i64 (X j).f1,.int .i64 (X j).f2] 72))):=⟨below_alloc HB2.out _⟩;clear C0 C1 CL CH HB2;generalize (wr.alloc (Obj.cells #[.int .i64 (X j).f0,.int .i64 (X j).f1,.int .i64 (X j).f2] 72))=W5 at nC0 nC1 nCL nCH nP nB ⊢;generalize wr.heap.size=gp at *;have pj:=Sine.keepc (HP.out j hlt) nB.out;by_cases hP:P j=true;rotate_left
      · rw[if_neg hP]at HEj
        rw[Bool.eq_false_iff.mpr hP]at pj;go_wp2;exact⟨⟨j+1,by omega,by go_num,nC0,nC1,(by rw[HEj.out];exact nCL),(by rw[HEj.out];exact nCH),nB⟩,qz41⟩
      · rw[if_pos hP]at HEj
        rw[hP]at pj;have a0:=(blk_cell nCL.out 0).trans rfl;have a1:=(blk_cell nCL.out 1).trans rfl;have a2:=(blk_cell nCL.out 2).trans rfl;have c0:=(blk_cell nP.out 0).trans rfl;have c1:=(blk_cell nP.out 1).trans rfl;have c2:=(blk_cell nP.out 2).trans rfl;have f0:=blk_frozen nCL.out 0;have f1:=blk_frozen nCL.out 1;have f2:=blk_frozen nCL.out 2
        go_upto_region 7 with fail
        have mnC0:Aside0 ((((W5.setCell ⟨gl,0,none⟩ (.int .i64 (lo2 (S j).1.f0 (X j).f0))).setCell ⟨gl,1,none⟩ (.int .i64 (lo2 (S j).1.f1 (X j).f1))).setCell ⟨gl,2,none⟩ (.int .i64 (lo2 (S j).1.f2 (X j).f2))).heap[w.heap.size]?=some (Obj.cells #[Value.int IntKind.i64 0,Value.int IntKind.i64 0,Value.int IntKind.i64 0] 72)):=⟨blk_far (blk_far (blk_far nC0.out qz42 _) qz42 _) qz42 _⟩;have mnC1:Aside0 ((((W5.setCell ⟨gl,0,none⟩ (.int .i64 (lo2 (S j).1.f0 (X j).f0))).setCell ⟨gl,1,none⟩ (.int .i64 (lo2 (S j).1.f1 (X j).f1))).setCell ⟨gl,2,none⟩ (.int .i64 (lo2 (S j).1.f2 (X j).f2))).heap[r1]?=some (Obj.cells #[Value.int IntKind.i64 0,Value.int IntKind.i64 0,Value.int IntKind.i64 0] 72)):=⟨blk_far (blk_far (blk_far nC1.out qz42 _) qz42 _) qz42 _⟩;have mnCH:Aside0 ((((W5.setCell ⟨gl,0,none⟩ (.int .i64 (lo2 (S j).1.f0 (X j).f0))).setCell ⟨gl,1,none⟩ (.int .i64 (lo2 (S j).1.f1 (X j).f1))).setCell ⟨gl,2,none⟩ (.int .i64 (lo2 (S j).1.f2 (X j).f2))).heap[gh]?=some (Obj.cells #[.int .i64 (S j).2.f0,.int .i64 (S j).2.f1,.int .i64 (S j).2.f2] 72)):=⟨blk_far (blk_far (blk_far nCH.out qz42 _) qz42 _) qz42 _⟩;have mnP:Aside0 ((((W5.setCell ⟨gl,0,none⟩ (.int .i64 (lo2 (S j).1.f0 (X j).f0))).setCell ⟨gl,1,none⟩ (.int .i64 (lo2 (S j).1.f1 (X j).f1))).setCell ⟨gl,2,none⟩ (.int .i64 (lo2 (S j).1.f2 (X j).f2))).heap[gp]?=some (Obj.cells #[.int .i64 (X j).f0,.int .i64 (X j).f1,.int .i64 (X j).f2] 72)):=⟨blk_far (blk_far (blk_far nP.out qz42 _) qz42 _) qz42 _⟩;have mnCL:Aside0 ((((W5.setCell ⟨gl,0,none⟩ (.int .i64 (lo2 (S j).1.f0 (X j).f0))).setCell ⟨gl,1,none⟩ (.int .i64 (lo2 (S j).1.f1 (X j).f1))).setCell ⟨gl,2,none⟩ (.int .i64 (lo2 (S j).1.f2 (X j).f2))).heap[gl]?=some (Obj.cells #[.int .i64 (lo2 (S j).1.f0 (X j).f0),.int .i64 (lo2 (S j).1.f1 (X j).f1),.int .i64 (lo2 (S j).1.f2 (X j).f2)] 72)):=⟨blk_put (blk_put (blk_put nCL.out 0 _ rfl) 1 _ rfl) 2 _ rfl⟩;have mnB:Aside0 (Below w.heap.size w (((W5.setCell ⟨gl,0,none⟩ (.int .i64 (lo2 (S j).1.f0 (X j).f0))).setCell ⟨gl,1,none⟩ (.int .i64 (lo2 (S j).1.f1 (X j).f1))).setCell ⟨gl,2,none⟩ (.int .i64 (lo2 (S j).1.f2 (X j).f2)))):=⟨below_set (below_set (below_set nB.out (by omega)) (by omega)) (by omega)⟩;clear nC0 nC1 nCH nP nCL nB a0 a1 a2 c0 c1 c2 f0 f1 f2;generalize (((W5.setCell ⟨gl,0,none⟩ (.int .i64 (lo2 (S j).1.f0 (X j).f0))).setCell ⟨gl,1,none⟩ (.int .i64 (lo2 (S j).1.f1 (X j).f1))).setCell ⟨gl,2,none⟩ (.int .i64 (lo2 (S j).1.f2 (X j).f2)))=W6 at mnC0 mnC1 mnCH mnP mnCL mnB ⊢;have a0:=(blk_cell mnCH.out 0).trans rfl;have a1:=(blk_cell mnCH.out 1).trans rfl;have a2:=(blk_cell mnCH.out 2).trans rfl;have c0:=(blk_cell mnP.out 0).trans rfl;have c1:=(blk_cell mnP.out 1).trans rfl;have c2:=(blk_cell mnP.out 2).trans rfl;have f0:=blk_frozen mnCH.out 0;have f1:=blk_frozen mnCH.out 1;have f2:=blk_frozen mnCH.out 2;go_wp2;exact⟨⟨j+1,by omega,by go_num,⟨blk_far (blk_far (blk_far mnC0.out qz42 _) qz42 _) qz42 _⟩,⟨blk_far (blk_far (blk_far mnC1.out qz42 _) qz42 _) qz42 _⟩,(by rw[HEj.out];exact⟨blk_far (blk_far (blk_far mnCL.out qz42 _) qz42 _) qz42 _⟩),(by rw[HEj.out];exact⟨blk_put (blk_put (blk_put mnCH.out 0 _ rfl) 1 _ rfl) 2 _ rfl⟩),⟨below_set (below_set (below_set mnB.out (by omega)) (by omega)) (by omega)⟩⟩,qz41⟩
    · obtain rfl:j=8:=by omega
      have a0:=(blk_cell CL.out 0).trans rfl;have a1:=(blk_cell CL.out 1).trans rfl;have a2:=(blk_cell CL.out 2).trans rfl;have c0:=(blk_cell CH.out 0).trans rfl;have c1:=(blk_cell CH.out 1).trans rfl;have c2:=(blk_cell CH.out 2).trans rfl;have d0:=(blk_cell C0.out 0).trans rfl;have fd0:=blk_frozen C0.out 0;have d1:=(blk_cell C0.out 1).trans rfl;have fd1:=blk_frozen C0.out 1;have d2:=(blk_cell C0.out 2).trans rfl;have fd2:=blk_frozen C0.out 2;have e0:=(blk_cell C1.out 0).trans rfl;have fe0:=blk_frozen C1.out 0;have e1:=(blk_cell C1.out 1).trans rfl;have fe1:=blk_frozen C1.out 1;have e2:=(blk_cell C1.out 2).trans rfl;have fe2:=blk_frozen C1.out 2;have ne0:w.heap.size≠r1:=by omega
      have ne1:r1≠w.heap.size:=by omega
      have ne2:w.heap.size≠gl:=by omega
      have ne3:w.heap.size≠gh:=by omega
      have ne4:r1≠gl:=by omega
      have ne5:r1≠gh:=by omega
      clear hlt hj
      go_upto_region 9 with fail
      go_region
      have nC0:Aside0 ((((((((wr.setCell ⟨w.heap.size,0,none⟩ (.int .i64 (S 8).1.f0)).setCell ⟨w.heap.size,1,none⟩ (.int .i64 (S 8).1.f1)).setCell ⟨w.heap.size,2,none⟩ (.int .i64 (S 8).1.f2)).setCell ⟨r1,0,none⟩ (.int .i64 (S 8).2.f0)).setCell ⟨r1,1,none⟩ (.int .i64 (S 8).2.f1)).setCell ⟨r1,2,none⟩ (.int .i64 (S 8).2.f2))).drew.heap[w.heap.size]?=some (Obj.cells #[.int .i64 (S 8).1.f0,.int .i64 (S 8).1.f1,.int .i64 (S 8).1.f2] 72)):=⟨blk_drew (blk_far (blk_far (blk_far (blk_put (blk_put (blk_put C0.out 0 _ rfl) 1 _ rfl) 2 _ rfl) qz42 _) qz42 _) qz42 _)⟩;have nC1:Aside0 ((((((((wr.setCell ⟨w.heap.size,0,none⟩ (.int .i64 (S 8).1.f0)).setCell ⟨w.heap.size,1,none⟩ (.int .i64 (S 8).1.f1)).setCell ⟨w.heap.size,2,none⟩ (.int .i64 (S 8).1.f2)).setCell ⟨r1,0,none⟩ (.int .i64 (S 8).2.f0)).setCell ⟨r1,1,none⟩ (.int .i64 (S 8).2.f1)).setCell ⟨r1,2,none⟩ (.int .i64 (S 8).2.f2))).drew.heap[r1]?=some (Obj.cells #[.int .i64 (S 8).2.f0,.int .i64 (S 8).2.f1,.int .i64 (S 8).2.f2] 72)):=⟨blk_drew (blk_put (blk_put (blk_put (blk_far (blk_far (blk_far C1.out qz42 _) qz42 _) qz42 _) 0 _ rfl) 1 _ rfl) 2 _ rfl)⟩;have nB:Aside0 (Below w.heap.size w ((((((((wr.setCell ⟨w.heap.size,0,none⟩ (.int .i64 (S 8).1.f0)).setCell ⟨w.heap.size,1,none⟩ (.int .i64 (S 8).1.f1)).setCell ⟨w.heap.size,2,none⟩ (.int .i64 (S 8).1.f2)).setCell ⟨r1,0,none⟩ (.int .i64 (S 8).2.f0)).setCell ⟨r1,1,none⟩ (.int .i64 (S 8).2.f1)).setCell ⟨r1,2,none⟩ (.int .i64 (S 8).2.f2))).drew)):=⟨below_drew1 (below_set (below_set (below_set (below_set (below_set (below_set HB2.out (by omega)) (by omega)) (by omega)) (by omega)) (by omega)) (by omega))⟩;generalize (((((((wr.setCell ⟨w.heap.size,0,none⟩ (.int .i64 (S 8).1.f0)).setCell ⟨w.heap.size,1,none⟩ (.int .i64 (S 8).1.f1)).setCell ⟨w.heap.size,2,none⟩ (.int .i64 (S 8).1.f2)).setCell ⟨r1,0,none⟩ (.int .i64 (S 8).2.f0)).setCell ⟨r1,1,none⟩ (.int .i64 (S 8).2.f1)).setCell ⟨r1,2,none⟩ (.int .i64 (S 8).2.f2))).drew=W8 at nC0 nC1 nB ⊢;have k0:W8.cell? ⟨w.heap.size,0,none⟩=some (.int .i64 (S 8).1.f0):=(blk_cell nC0.out 0).trans rfl;have l0:W8.cell? ⟨r1,0,none⟩=some (.int .i64 (S 8).2.f0):=(blk_cell nC1.out 0).trans rfl;have k1:W8.cell? ⟨w.heap.size,1,none⟩=some (.int .i64 (S 8).1.f1):=(blk_cell nC0.out 1).trans rfl;have l1:W8.cell? ⟨r1,1,none⟩=some (.int .i64 (S 8).2.f1):=(blk_cell nC1.out 1).trans rfl;have k2:W8.cell? ⟨w.heap.size,2,none⟩=some (.int .i64 (S 8).1.f2):=(blk_cell nC0.out 2).trans rfl;have l2:W8.cell? ⟨r1,2,none⟩=some (.int .i64 (S 8).2.f2):=(blk_cell nC1.out 2).trans rfl;go_wp2;exact bodyPost_ret (v:= .tuple #[.agg #[.int .i64 (S 8).1.f0,.int .i64 (S 8).1.f1,.int .i64 (S 8).1.f2],.agg #[.int .i64 (S 8).2.f0,.int .i64 (S 8).2.f1,.int .i64 (S 8).2.f2]]) (by simp[results,Tryz.results98,go_sem,k0,k1,k2,l0,l1,l2]) rfl ⟨rfl,nB.out⟩
end Net
namespace A
open Go.RowKit YtmgkbhhnchnkcaaGreatDoorW.PrintWords YtmgkbhhnchnkcaaGreatDoorW.PrintLast YtmgkbhhnchnkcaaGreatDoorW.PrintMore Net Plain
def impl_DepthOf.f(l0:List (S82)):Option (Int×Bool):=if l0.length≤140737488351232 then some (depthM l0) else none
theorem impl_DepthOf.calls (A0:Option Addr) (c:Nat) (ls:List (S82)) (r1:Int) (r2:Bool) (w:World) (hr0:Kd.C k82 w A0 ls.length ls) (hc:ls.length≤c) (h:impl_DepthOf.f ls=some (r1,r2)) (hL:Sine.Laid w):
    Calls Tryz.prog 47 #[.slice A0 ls.length c] w fun e w'=>e= .returned (.tuple #[.int .i64 r1,.bool r2])∧Below w.heap.size w w':=by
  unfold impl_DepthOf.f at h;by_cases hb:ls.length≤140737488351232
  · rw [if_pos hb]at h
    obtain⟨K,hK⟩:=areLegs_ev ls hb;have HA:=ak (hK K (Nat.le_refl _));have HR:=ak hr0;have HL:=ak hL;have HB:=ak (Below.refl w.heap.size w);clear hK hr0 hL;unfold depthM at h;by_cases hv:legsB ls=true
    · rw[if_pos hv]at h
      obtain⟨rfl,rfl⟩:=Prod.mk.inj (Option.some.inj h);rw[hv]at HA;have hv':=legsB_iff.mp hv;have HG:=ak hv'.1;have hn:=hv'.2;have HM:=ak (extM_to HG.out);clear h hv hv';generalize extM ls=e at *;obtain⟨⟨a0,a1,a2⟩,⟨b0,b1,b2⟩⟩:=e;go_enter Tryz.func47,Tryz.ntmps47
      go_wp2_with (first
        |(go_at_call 61;(with_reducible refine(impl_areLegs.calls K _ _ ls true _ ?s1 ?s2 HA.out).mono ?_);(case s1=>exact Kd.C_below HR.out qz15);(case s2=>exact hc);rintro e w' ⟨rfl,hw⟩;replace HB:=ak (below_step (show Below w.heap.size w _ from by(repeat(first|exact HB.out|exact Below.refl _ _|apply below_alloc|apply pw_below_drewN|apply below_drew1));done) hw);clear hw)
        |(go_at_call 66;(with_reducible refine(place _ c ls _ ?s1 ?s2 hc hn HG.out (RR ls) rfl).mono ?_);(case s1=>exact HL.out.keep qz15);(case s2=>exact Kd.C_below HR.out qz15);rintro e w' ⟨g,T,cl,rfl,hst,ho,hw⟩;have HO:Aside0 (Kd.R (Kd.int .i64) 3 w' w.heap.size (fun k=>k≠g∧k≠T) cl (closeL ls)):=⟨Kd.R_lower ho (below_size (show Below w.heap.size w _ from by(repeat(first|exact HB.out|exact Below.refl _ _|apply below_alloc|apply pw_below_drewN|apply below_drew1));done))⟩;replace HB:=ak (below_step (show Below w.heap.size w _ from by(repeat(first|exact HB.out|exact Below.refl _ _|apply below_alloc|apply pw_below_drewN|apply below_drew1));done) hw);have HS:=ak hst;clear hst ho hw;obtain⟨cA,cC,ecl⟩:=Kd.R_slice HO.out;subst ecl)
        |(go_at_call 98;(with_reducible refine(extentW _ (HS.out.keep qz15)).mono ?_);rintro e w3 ⟨rfl,hw⟩;rw[HM.out];replace HB:=ak (below_step (show Below w.heap.size w _ from by(repeat(first|exact HB.out|exact Below.refl _ _|apply below_alloc|apply pw_below_drewN|apply below_drew1));done) hw);clear hw))
      go_ret2
      exact⟨rfl,qz15⟩
    · rw[if_neg hv]at h
      obtain⟨rfl,rfl⟩:=Prod.mk.inj (Option.some.inj h);rw[Bool.eq_false_iff.mpr hv]at HA;clear h hv;go_enter Tryz.func47,Tryz.ntmps47;go_wp2_with (go_at_call 61;(with_reducible refine(impl_areLegs.calls K _ _ ls false _ ?s1 ?s2 HA.out).mono ?_);(case s1=>exact Kd.C_below HR.out qz15);(case s2=>exact hc);rintro e w' ⟨rfl,hw⟩;replace HB:=ak (below_step (show Below w.heap.size w _ from by(repeat(first|exact HB.out|exact Below.refl _ _|apply below_alloc|apply pw_below_drewN|apply below_drew1));done) hw);clear hw)
      go_ret2
      exact⟨rfl,qz15⟩
  · rw[if_neg hb]at h
    cases h
end A
namespace A
open Go.RowKit YtmgkbhhnchnkcaaGreatDoorW.PrintWords YtmgkbhhnchnkcaaGreatDoorW.PrintLast YtmgkbhhnchnkcaaGreatDoorW.PrintMore
open Net (L Sine.Laid legsB legsB_iff areLegs_ev treesM coL adjustW coordinatesW AdjPost Lst)
def treeCountM(ls:L):Int×Bool:=if legsB ls=true then(treesM ls,true) else(0,false)
def impl_TreeCount.f(l0:List (S82)):Option (Int×Bool):=if l0.length≤140737488351232 then some (treeCountM l0) else none
theorem impl_TreeCount.calls (A0:Option Addr) (c0:Nat) (l0:List (S82)) (r1:Int) (r2:Bool) (w:World) (hr0:Kd.C k82 w A0 l0.length l0) (hc0:l0.length≤c0) (h:impl_TreeCount.f l0=some (r1,r2)) (hL:Sine.Laid w):
    Calls Tryz.prog 49 #[.slice A0 l0.length c0] w fun e w'=>e= .returned (.tuple #[.int .i64 r1,.bool r2])∧Below w.heap.size w w':=by
  unfold impl_TreeCount.f at h;by_cases hb:l0.length≤140737488351232
  · rw [if_pos hb]at h
    obtain⟨K,hK⟩:=areLegs_ev l0 hb;have HA:=ak (hK K (Nat.le_refl _));have HR:=ak hr0;have HL:=ak hL;have HB:=ak (Below.refl w.heap.size w);clear hK hr0 hL hb;unfold treeCountM at h;by_cases hv:legsB l0=true
    · rw[if_pos hv]at h
      obtain⟨rfl,rfl⟩:=Prod.mk.inj (Option.some.inj h);rw[hv]at HA;have hv':=legsB_iff.mp hv;have HG:=ak hv'.1;have hn:=hv'.2;clear h hv hv';go_enter Tryz.func49,Tryz.ntmps49
      go_wp2_with (first
        |(go_at_call 61;(with_reducible refine(impl_areLegs.calls K _ _ l0 true _ ?s1 ?s2 HA.out).mono ?_);(case s1=>exact HR.out);(case s2=>exact hc0);rintro e w' ⟨rfl,hw⟩;replace HB:=ak (below_step HB.out hw);clear hw)
        |(go_at_call 78;(with_reducible refine(adjustW A0 c0 l0 _ ?s1 ?s2 hc0 hn HG.out).mono ?_);(case s1=>exact HL.out.keep HB.out);(case s2=>exact Kd.C_below HR.out HB.out);rintro e w' ⟨ba,uA,pA,uc,pc,rfl,hadj,ht,hba,hw⟩;replace HB:=ak (below_step HB.out hw);clear hadj hw))
      go_ret2
      exact⟨rfl,HB.out⟩
    · rw[if_neg hv]at h
      obtain⟨rfl,rfl⟩:=Prod.mk.inj (Option.some.inj h);rw[Bool.eq_false_iff.mpr hv]at HA;clear h hv;go_enter Tryz.func49,Tryz.ntmps49;go_wp2_with (go_at_call 61;(with_reducible refine(impl_areLegs.calls K _ _ l0 false _ ?s1 ?s2 HA.out).mono ?_);(case s1=>exact HR.out);(case s2=>exact hc0);rintro e w' ⟨rfl,hw⟩;replace HB:=ak (below_step HB.out hw);clear hw)
      go_ret2
      exact⟨rfl,HB.out⟩
  · rw[if_neg hb]at h
    cases h
end A
namespace Net
open Go Go.RowKit YtmgkbhhnchnkcaaGreatDoorW.PrintWords YtmgkbhhnchnkcaaGreatDoorW.PrintLast YtmgkbhhnchnkcaaGreatDoorW.PrintMore A Plain
theorem eqNilI(la:Addr)(n c:Nat)(w:World):(binOp .eql 46 (.slice (some la) n c) (.slice none 0 0)).run Tryz.prog w= .ok (.bool false) w:=by
  have h:∀d:Nat,(Op.equalIn (d+1) 46 (.slice (some la) n c) (.slice none 0 0)).run Tryz.prog w= .ok false w:=fun d=>by simp[Op.equalIn,run_underlying Tryz.underlying46]
  simp[binOp,Op.equal,Op.maxDepth,h]
theorem eqNilI0(n c:Nat)(w:World):(binOp .eql 46 (.slice none n c) (.slice none 0 0)).run Tryz.prog w= .ok (.bool true) w:=by
  have h:∀d:Nat,(Op.equalIn (d+1) 46 (.slice none n c) (.slice none 0 0)).run Tryz.prog w= .ok true w:=fun d=>by simp[Op.equalIn,run_underlying Tryz.underlying46]
  simp[binOp,Op.equal,Op.maxDepth,h]
attribute [local go_sem] eqNilI eqNilI0
theorem cloneIW(la:Addr)(c:Nat)(l:List Int)(w:World)(hr0:Kd.C (Kd.int .i64) w (some la) l.length l)(hn:l.length≤1000):
    Calls Tryz.prog 92 #[.slice (some la) l.length c] w fun e w'=>∃v,e= .returned v∧Kd.R (Kd.int .i64) 3 w' w.heap.size (fun _=>True) v l∧Below w.heap.size w w':=by
  have HR0:=ak hr0;have HB:=ak (Below.refl w.heap.size w);clear hr0;go_enter Tryz.func92,Tryz.ntmps92
  go_wp2_with (first
    |((with_reducible refine gate_dst (N:=5) rfl ?_);refine Kd.R_lit (Kd.int .i64) _ 3 ?hg (N:=5) ?hd (xs:=([]:List Int)) (inner:=[]) (ok:=fun _=>True) (okp:=fun _=>True) ?hr ?hp (fun _ hk=>hk) trivial (Below.refl _ _) (Nat.le_refl _) (by simp) ?_;(case hd=>rfl);(case hg=>rfl);(case hr=>exact qz17);(case hp=>exact(Reps.none _ _));intro v1 w1 ho1 hb hg_ hnew_;clear hg_ hnew_;have HO:=ak ho1;replace HB:=ak (below_step HB.out hb);clear hb ho1)
    |((with_reducible refine gate_builtin (b:= .append) (xs:= #[.tmp 5,.tmp 6]) rfl ?_);at_builtin;refine Kd.R_append_rows (Kd.int .i64) (w0:=w) w.heap.size rfl (.tmp 5) (.tmp 6) 46 3 (.int .i64 0) 8 rfl Tryz.underlying46 info3 rfl (by decide) (by omega) v1 [] l _ _ _ (fun _=>True) (fun _=>False) rfl rfl ?aO ?aR (fun _ _ h=>h) (fun _ h=>h.elim) ?aF ?aB ?aS ?aL ?_;(case aR=>exact(Kd.C_below HR0.out HB.out));(case aB=>exact HB.out);(case aF=>intro b hb;trivial);(case aO=>exact HO.out);(case aS=>exact(below_size HB.out));(case aL=>simp;omega);intro v2 w2 ho hb hg hat;have HP1:=ak ho;have HP2:=ak hb;clear ho hb hg hat))
  go_ret;exact⟨_,rfl,HP1.out,HP2.out⟩
theorem cloneI0(n c:Nat)(w:World):Calls Tryz.prog 92 #[.slice none n c] w fun e w'=>e= .returned (.slice none 0 0)∧Below w.heap.size w w':=by
  have HB:=ak (Below.refl w.heap.size w);go_enter Tryz.func92,Tryz.ntmps92;go_wp2;go_ret;exact⟨rfl,HB.out⟩
theorem exUse(p4 p7 ua:Addr)(ba n uc j:Nat)(x u:Int)(w:World)(h4:w.cell? p4=some (.pointer (some ⟨ba,0,none⟩)))(h7:w.cell? p7=some (.int .i64 (j:Int)))(c2:w.cell? ⟨ba,2,none⟩=some (.slice (some ua) n uc))(hu:w.cell? (ua.add j)=some (.int .i64 u))(hj:j<n):
    Calls Tryz.prog 94 #[.int .i64 x,.pointer (some p4),.pointer (some p7)] w fun e w'=>e= .returned (.bool (x==u))∧Below w.heap.size w w':=by
  have k0:(0:Int)≤(j:Int):=by omega
  have k1:(j:Int)<(n:Int):=by omega
  have HB:=ak (Below.refl w.heap.size w);go_enter Tryz.func94,Tryz.ntmps94;go_wp2
  go_quiet (fail)
  go_wp2;go_ret;exact⟨rfl,pw_below_drewN HB.out _⟩
def Found(l:List Int)(u r:Int):Prop:=(r= -1∧∀i,i<l.length→l.getD i 0≠u)∨(∃m:Nat,r=m∧m<l.length∧l.getD m 0=u∧∀i,i<m→l.getD i 0≠u)
theorem indexDelW (p4 p7 ua:Addr) (ba n uc j:Nat) (u:Int) (A:Option Addr) (c:Nat) (l:List Int) (w:World) (hr:Kd.C (Kd.int .i64) w A l.length l) (hl:l.length≤1000) (h4:w.cell? p4=some (.pointer (some ⟨ba,0,none⟩))) (h7:w.cell? p7=some (.int .i64 (j:Int))) (c2:w.cell? ⟨ba,2,none⟩=some (.slice (some ua) n uc)) (hu:w.cell? (ua.add j)=some (.int .i64 u)) (hj:j<n):
    Calls Tryz.prog 125 #[.slice A l.length c,.func (Fn.func 94) #[] #[.pointer (some p4),.pointer (some p7)]] w fun e w'=>∃r,e= .returned (.int .i64 r)∧Found l u r∧Below w.heap.size w w':=by
  have HR:=ak hr;have HB:=ak (Below.refl w.heap.size w);have HU:Aside0 (∀x W,Below w.heap.size w W→Calls Tryz.prog 94 #[.int .i64 x,.pointer (some p4),.pointer (some p7)] W fun e w'=>e= .returned (.bool (x==u))∧Below W.heap.size W w'):=⟨fun x W hb=>exUse p4 p7 ua ba n uc j x u W (Sine.keepc h4 hb) (Sine.keepc h7 hb) (Sine.keepc c2 hb) (Sine.keepc hu hb) hj⟩;clear hr h4 h7 c2 hu hj;go_enter Tryz.func125,Tryz.ntmps125;go_wp2
  go_loopw [8] (fun v8 w'=>∃(j:Nat),j≤l.length∧v8= .int .i64 j∧Aside0 (∀i,i<j→l.getD i 0≠u)∧Aside0 (Below w.heap.size w w')) (fun v8 _=>l.length-(intOf v8).toNat)
  case atStart=>exact⟨0,Nat.zero_le _,rfl,⟨fun i hi=>by omega⟩,HB⟩
  case round=>
    obtain⟨j,hj,rfl,HI,HB2⟩:=hrel;clear HB;have HB:=HB2;clear HB2;by_cases hlt:j<l.length
    · obtain⟨ad,e1,h1⟩:=Kd.at_int (Kd.C_below HR.out HB.out) (j:Int) (by omega) (by omega)
      subst e1;rw[rd_get _ j hlt,Int.toNat_natCast]at h1;have hgd:l.getD j 0=l[j]:=by rw[List.getD_eq_getElem?_getD,List.getElem?_eq_getElem hlt];rfl
      rw[←hgd]at h1;clear hgd;generalize hx:l.getD j 0=x at *;have HX:=ak hx;clear hx;have HQ:=ak (HU.out x);cases hq:(x==u)
      · rw[hq]at HQ
        have HN:=ak (show x≠u from by simpa using hq);clear hq;go_wp2_with (go_at_call 94;(with_reducible refine(HQ.out _ HB.out).mono ?_);rintro e w' ⟨rfl,hw⟩;replace HB:=ak (below_step HB.out hw);clear hw)
        exact⟨⟨j+1,hlt,by go_num,⟨fun i hi=>by
          by_cases c:i=j
          · rw[c,HX.out];exact HN.out
          · exact HI.out i (by omega)⟩,HB⟩,by simp[intOf];omega⟩
      · rw[hq]at HQ
        have HN:=ak (show x=u from by simpa using hq);clear hq;go_wp2_with (go_at_call 94;(with_reducible refine(HQ.out _ HB.out).mono ?_);rintro e w' ⟨rfl,hw⟩;replace HB:=ak (below_step HB.out hw);clear hw);go_ret;exact⟨(j:Int),rfl,Or.inr ⟨j,rfl,hlt,(by rw[HX.out];exact HN.out),HI.out⟩,HB.out⟩
    · go_wp2
      go_ret;exact⟨-1,rfl,Or.inl ⟨rfl,fun i hi=>HI.out i (by omega)⟩,HB.out⟩
end Net
namespace Net
open Go Go.RowKit YtmgkbhhnchnkcaaGreatDoorW.PrintWords YtmgkbhhnchnkcaaGreatDoorW.PrintLast YtmgkbhhnchnkcaaGreatDoorW.PrintMore A Plain
structure Off(g:Nat)(w w':World):Prop where
  os:w'.os=w.os
  tape:w'.tape=w.tape
  output:w'.output=w.output
  size:w.heap.size≤w'.heap.size
  block:∀k,k≠g→k<w.heap.size→w'.heap[k]?=w.heap[k]?
theorem Off.refl(g:Nat)(w:World):Off g w w:=⟨rfl,rfl,rfl,Nat.le_refl _,fun _ _ _=>rfl⟩
theorem Off.trans{g:Nat}{a b c:World}(h:Off g a b)(k:Off g b c):Off g a c:=
  ⟨k.os.trans h.os,k.tape.trans h.tape,k.output.trans h.output,Nat.le_trans h.size k.size,fun i hi hs=>(k.block i hi (Nat.lt_of_lt_of_le hs h.size)).trans (h.block i hi hs)⟩
theorem Off.of{g:Nat}{w w':World}(h:Below w.heap.size w w'):Off g w w':=⟨h.os,h.tape,h.output,h.size,fun k _ hs=>h.block k hs⟩
theorem Off.set{g i:Nat}{a w:World}(h:Off g a w)(u:Value):Off g a (w.setCell ⟨g,i,none⟩ u):=by
  have hb:=(Below.refl 0 w).setCell (p:=⟨g,i,none⟩) (Nat.zero_le _) u;exact h.trans ⟨hb.os,hb.tape,hb.output,hb.size,fun k hk _=>Below.heap_setCell w _ u k hk⟩
theorem Off.below{g:Nat}{w w':World}(h:Off g w w')(hg:g≤w.heap.size):Below g w w':=⟨h.os,h.tape,h.output,h.size,fun k hk=>h.block k (by omega) (by omega)⟩
theorem Off.cell{g:Nat}{w w':World}{p:Addr}{v:Value}(h:Off g w w')(hc:w.cell? p=some v)(hp:p.block≠g):w'.cell? p=some v:=
  (World.cell?_of_block (w:=w) (h.block p.block hp (World.block_lt_of_cell? w _ hc))).trans hc
theorem Off.step{g:Nat}{a w w':World}(h:Off g a w)(hb:Below w.heap.size w w'):Off g a w':=h.trans (Off.of hb)
theorem Off.sets{g:Nat}{a:World}:∀(vs:List Value) (o:Nat) (w:World),Off g a w→Off g a (w.setCells g o vs)
  |[],_,_,h=>h
  |v::r,o,w,h=>Off.sets r (o+1) _ (h.set v)
theorem R_zeros{base g n cap:Nat}{ok:Nat→Prop}:∀(k o:Nat) (zs:List Int) (w:World),Kd.R (Kd.int .i64) 3 w base ok (.slice (some ⟨g,0,none⟩) n cap) zs →
    ∃zs',Kd.R (Kd.int .i64) 3 (w.setCells g o (List.replicate k (.int .i64 0))) base ok (.slice (some ⟨g,0,none⟩) n cap) zs'∧zs'.take o=zs.take o∧zs'.length=zs.length
  |0,o,zs,w,h=>⟨zs,h,rfl,rfl⟩
  | k+1,o,zs,w,h=>by
    have h1:=Kd.R_putn h (o:Int) 0;rw[Int.toNat_natCast]at h1;obtain⟨zs',h2,h3,h4⟩:=R_zeros k (o+1) _ _ h1;refine⟨zs',h2,?_,(by rw[h4,List.length_set])⟩;have h5:=congrArg (List.take o) h3;rw[List.take_take,List.take_take,Nat.min_eq_left (by omega),List.take_set_of_le (Nat.le_refl o)]at h5;exact h5
structure DelInv(l:List Int)(u:Int)(j i:Nat)(zs:List Int):Prop where
  len:zs.length=l.length
  lt:i<j
  le:j≤l.length
  front:zs.take i=(l.take j).filter (· !=u)
  rest:∀k,j≤k→zs.getD k 0=l.getD k 0
theorem take_succ_getD(l:List Int)(j:Nat)(h:j<l.length):l.take (j+1)=l.take j++[l.getD j 0]:=by
  rw[List.take_succ_eq_append_getElem h,List.getD_eq_getElem?_getD,List.getElem?_eq_getElem h];rfl
theorem DelInv.start{l:List Int}{u:Int}{m:Nat}(hm:m<l.length)(h:l.getD m 0=u)(ha:∀i,i<m→l.getD i 0≠u):DelInv l u (m+1) m l:=by
  refine⟨rfl,by omega,hm,?_,fun _ _=>rfl⟩;rw[take_succ_getD l m hm,List.filter_append,h];simp only[List.filter_cons,bne_self_eq_false,Bool.false_eq_true,if_false,List.filter_nil,List.append_nil];rw[List.filter_eq_self.mpr];intro x hx;obtain⟨i,hi,rfl⟩:=List.mem_iff_getElem.mp hx;rw[List.length_take]at hi;rw[List.getElem_take];have:=ha i (by omega);rw[List.getD_eq_getElem?_getD,List.getElem?_eq_getElem (by omega)]at this;simpa using this
theorem DelInv.skip{l:List Int}{u:Int}{j i:Nat}{zs:List Int}(I:DelInv l u j i zs)(hj:j<l.length)(h:l.getD j 0=u):DelInv l u (j+1) i zs:=by
  refine⟨I.len,(by have:=I.lt;omega),hj,?_,fun k hk=>I.rest k (by omega)⟩;rw[take_succ_getD l j hj,List.filter_append,h,I.front];simp
theorem DelInv.keep{l:List Int}{u:Int}{j i:Nat}{zs:List Int}(I:DelInv l u j i zs)(hj:j<l.length)(h:l.getD j 0≠u):DelInv l u (j+1) (i+1) (zs.set i (l.getD j 0)):=by
  have hlt:=I.lt;have hil:i<zs.length:=by rw[I.len];omega
  refine⟨(by rw[List.length_set];exact I.len),by omega,hj,?_,fun k hk=>?_⟩
  · rw[take_succ_getD l j hj,List.filter_append,←I.front,List.take_succ_eq_append_getElem (by rw[List.length_set];exact hil),List.take_set_of_le (Nat.le_refl i),List.getElem_set_self,List.filter_cons,if_pos (bne_iff_ne.mpr h),List.filter_nil]
  · rw[List.getD_eq_getElem?_getD,List.getElem?_set_ne (by omega),←List.getD_eq_getElem?_getD]
    exact I.rest k (by omega)
theorem DelInv.fin{l:List Int}{u:Int}{i:Nat}{zs:List Int}(I:DelInv l u l.length i zs):zs.take i=l.filter (· !=u)∧i=(l.filter (· !=u)).length:=by
  have h:=I.front;rw[List.take_length]at h;refine⟨h,?_⟩;rw[←h,List.length_take,I.len];have:=I.lt;omega
theorem none_filter{l:List Int}{u:Int}(h:∀i,i<l.length→l.getD i 0≠u):l.filter (· !=u)=l:=by
  rw[List.filter_eq_self];intro x hx;obtain⟨i,hi,rfl⟩:=List.mem_iff_getElem.mp hx;have:=h i hi;rw[List.getD_eq_getElem?_getD,List.getElem?_eq_getElem hi]at this;simpa using this
def DelPost(g base cap:Nat)(ok:Nat→Prop)(l:List Int)(w:World)(e:Ending)(w':World):Prop:=e= .returned (.slice (some ⟨g,0,none⟩) l.length cap)∧Kd.R (Kd.int .i64) 3 w' base ok (.slice (some ⟨g,0,none⟩) l.length cap) l∧Off g w w'
theorem deleteW (p4 p7 ua:Addr) (ba n uc jj g base cap:Nat) (ok:Nat→Prop) (u:Int) (l:List Int) (w:World) (hr:Kd.R (Kd.int .i64) 3 w base ok (.slice (some ⟨g,0,none⟩) l.length cap) l) (hl:l.length≤12) (h4:w.cell? p4=some (.pointer (some ⟨ba,0,none⟩))) (h7:w.cell? p7=some (.int .i64 (jj:Int))) (c2:w.cell? ⟨ba,2,none⟩=some (.slice (some ua) n uc)) (hu:w.cell? (ua.add jj)=some (.int .i64 u)) (hj:jj<n) (n4:p4.block≠g) (n7:p7.block≠g) (nb:ba≠g) (nu:ua.block≠g):
    Calls Tryz.prog 93 #[.slice (some ⟨g,0,none⟩) l.length cap,.func (Fn.func 94) #[] #[.pointer (some p4),.pointer (some p7)]] w (DelPost g base cap ok (l.filter (· !=u)) w):=by
  have HU:Aside0 (∀x W,Off g w W→Calls Tryz.prog 94 #[.int .i64 x,.pointer (some p4),.pointer (some p7)] W fun e w'=>e= .returned (.bool (x==u))∧Below W.heap.size W w'):=⟨fun x W ho=>exUse p4 p7 ua ba n uc jj x u W (ho.cell h4 n4) (ho.cell h7 n7) (ho.cell c2 nb) (ho.cell hu (by rw[add_block];exact nu)) hj⟩;have HI:Aside0 (∀W,Off g w W→Kd.R (Kd.int .i64) 3 W base ok (.slice (some ⟨g,0,none⟩) l.length cap) l→Calls Tryz.prog 125 #[.slice (some ⟨g,0,none⟩) l.length cap,.func (Fn.func 94) #[] #[.pointer (some p4),.pointer (some p7)]] W fun e w'=>∃r,e= .returned (.int .i64 r)∧Found l u r∧Below W.heap.size W w'):=⟨fun W ho hr=>indexDelW p4 p7 ua ba n uc jj u (some ⟨g,0,none⟩) cap l W (Kd.R_reads' hr).2.2 (by omega) (ho.cell h4 n4) (ho.cell h7 n7) (ho.cell c2 nb) (ho.cell hu (by rw[add_block];exact nu)) hj⟩;have hcap:l.length≤cap:=(Kd.R_reads' hr).2.1;have HR:=ak hr;have HF:=ak (Off.refl g w);clear hr h4 h7 c2 hu n4 n7 nb nu hj;by_cases hex:∃i,i<l.length∧l.getD i 0=u
  · obtain⟨i0,hi0,hi1⟩:=hex
    have HE:Aside0 (∀r,Found l u r→∃m:Nat,r=m∧m<l.length∧DelInv l u (m+1) m l):=⟨fun r h=>by
      rcases h with⟨_,h2⟩|⟨m,h1,h2,h3,h4⟩
      · exact absurd hi1 (h2 i0 hi0)
      · exact⟨m,h1,h2,DelInv.start h2 h3 h4⟩⟩
    clear hi0 hi1 i0;go_enter Tryz.func93,Tryz.ntmps93;go_wp2_with (go_at_call 125;(with_reducible refine(HI.out _ HF.out HR.out).mono ?_);rintro e w1 ⟨r,rfl,hf,hw⟩;obtain⟨m,rfl,hm,hd⟩:=HE.out r hf;have HD:=ak hd;replace HR:=ak (Kd.R_below HR.out hw);replace HF:=ak (HF.out.step hw);clear hf hw hd HE HI;have hm1:¬((m:Int)= -1):=by omega);rw[show((m:Int)== -1)=false from by rw[beq_eq_false_iff_ne];omega]
    go_loopw [5,6] (fun v5 v6 W=>∃(i j:Nat) (zs:List Int),v5= .int .i64 i∧v6= .int .i64 j∧Aside0 (DelInv l u j i zs)∧Aside0 (Kd.R (Kd.int .i64) 3 W base ok (.slice (some ⟨g,0,none⟩) l.length cap) zs)∧Aside0 (Off g w W)) (fun _ v6 _=>l.length-(intOf v6).toNat)
    case atStart=>exact⟨m,m+1,l,rfl,by go_num,HD,HR,HF⟩
    case round=>
      obtain⟨i,j,zs,rfl,rfl,HD2,HR2,HF2⟩:=hrel;clear HD HR HF;have hij:=HD2.out.lt;have hjl:=HD2.out.le;have i0:(0:Int)≤(i:Int):=by omega
      have j0:(0:Int)≤(j:Int):=by omega
      have i1:(i:Int)<(l.length:Int):=by omega
      by_cases hlt:j<l.length
      · have j1:(j:Int)<(l.length:Int):=by omega
        obtain⟨y1,y2⟩:=Kd.R_celln 0 HR2.out (j:Int) j0 j1;rw[Int.toNat_natCast,show rdOf 0 zs (j:Int)=l.getD j 0 from by unfold rdOf;rw[Int.toNat_natCast];exact HD2.out.rest j (Nat.le_refl _)]at y1;clear y2;have HK:=ak (fun h:l.getD j 0≠u=>HD2.out.keep hlt h);have HS:=ak (fun h:l.getD j 0=u=>HD2.out.skip hlt h);generalize l.getD j 0=x at *;have HQ:=ak (HU.out x);cases hq:(x==u)
        · rw[hq]at HQ
          have HN:=ak (HK.out (by simpa using hq));clear hq HK HS;go_wp2_with (go_at_call 94;(with_reducible refine(HQ.out _ HF2.out).mono ?_);rintro e w' ⟨rfl,hw⟩;replace HR2:=ak (Kd.R_below HR2.out hw);replace HF2:=ak (HF2.out.step hw);obtain⟨y1,y2⟩:=Kd.R_celln 0 HR2.out (i:Int) i0 i1;have HO6:=ak (Kd.R_putn HR2.out (i:Int) x);rw[Int.toNat_natCast]at y1 y2 HO6;clear hw);exact⟨⟨i+1,j+1,zs.set i x,by go_num,by go_num,HN,HO6,⟨HF2.out.set _⟩⟩,qz41⟩
        · rw[hq]at HQ
          have HN:=ak (HS.out (by simpa using hq));clear hq HK HS;go_wp2_with (go_at_call 94;(with_reducible refine(HQ.out _ HF2.out).mono ?_);rintro e w' ⟨rfl,hw⟩;replace HR2:=ak (Kd.R_below HR2.out hw);replace HF2:=ak (HF2.out.step hw);clear hw);exact⟨⟨i,j+1,zs,rfl,by go_num,HN,HR2,HF2⟩,qz41⟩
      · obtain rfl:j=l.length:=by omega
        obtain⟨ii,hii,hz,_,_⟩:=info_parts info3
        have HC:Aside0 (∀t,t<l.length-i→wr.cell? ⟨g,i+t,none⟩=some (.int .i64 (rdOf 0 zs ((i+t:Nat):Int)))∧wr.frozen? ⟨g,i+t,none⟩=false):=⟨fun t ht=>by
          have h:=Kd.R_celln 0 HR2.out ((i+t:Nat):Int) (by omega) (by omega);rw[Int.toNat_natCast]at h
          exact h⟩
        have hcl:∀ty,(Builtin.clear_ #[46] ty #[.slice (some ⟨g,i,none⟩) (l.length-i) (cap-i)]).run Tryz.prog wr= .ok (.tuple #[]) (wr.setCells g i (List.replicate (l.length-i) (.int .i64 0))):=
          fun ty=>Lib.run_clear_slice wr _ _ ty _ Tryz.underlying46 (fun w=>by simp[zeroValue,typeInfo,hii,hz]) rfl rfl g i _ _ (by omega) (fun t ht=>by rw[(HC.out t ht).1];rfl) (fun t ht=>(HC.out t ht).2)
        have hi0:(i:Int)≤(cap:Int):=by omega
        have hi2:¬cap=i:=by omega
        clear HC;obtain⟨zs',hz1,hz2,hz3⟩:=R_zeros (l.length-i) i zs wr HR2.out;have hfin:=HD2.out.fin
        have hpost:DelPost g base cap ok (l.filter (· !=u)) w (.returned (.slice (some ⟨g,0,none⟩) i cap)) (wr.setCells g i (List.replicate (l.length-i) (.int .i64 0))):=by
          have h:=Kd.R_take (m:=i) hz1 (by rw[hz3,HD2.out.len];omega);rw[hz2,hfin.1]at h;exact⟨(by rw[←hfin.2]),(by rw[←hfin.2];exact h),Off.sets _ _ _ HF2.out⟩
        have HP:=ak hpost;clear hpost hfin hz1 hz2 hz3 HR2 HF2 HD2;go_wp2;go_ret;exact HP.out
  · have HE:Aside0 (∀r,Found l u r→r= -1):=⟨fun r h=>by
      rcases h with⟨h1,_⟩|⟨m,h1,h2,h3,_⟩
      · exact h1
      · exact absurd ⟨m,h2,h3⟩ hex⟩
    have HQ:=ak (none_filter (l:=l) (u:=u) (fun i hi he=>hex ⟨i,hi,he⟩));clear hex;go_enter Tryz.func93,Tryz.ntmps93;go_wp2_with (go_at_call 125;(with_reducible refine(HI.out _ HF.out HR.out).mono ?_);rintro e w1 ⟨r,rfl,hf,hw⟩;obtain rfl:=HE.out r hf;replace HR:=ak (Kd.R_below HR.out hw);replace HF:=ak (HF.out.step hw);clear hf hw HE HI);go_ret;unfold DelPost;rw[HQ.out];exact⟨rfl,HR.out,HF.out⟩
end Net
namespace Det
def sumTo:Nat→(Nat→Int)→Int
  |0,_=>0
  |n+1,f=>sumTo n f+f n
theorem sumTo_congr{n:Nat}{f g:Nat→Int}(h:∀j,j<n→f j=g j):sumTo n f=sumTo n g:=by
  induction n with
  |zero=>rfl
  |succ n ih=>rw[sumTo,sumTo,ih (fun j hj=>h j (by omega)),h n (by omega)]
theorem sumTo_zero{n:Nat}{f:Nat→Int}(h:∀j,j<n→f j=0):sumTo n f=0:=by
  induction n with
  |zero=>rfl
  |succ n ih=>rw[sumTo,ih (fun j hj=>h j (by omega)),h n (by omega)];rfl
theorem sumTo_add(n:Nat)(f g:Nat→Int):sumTo n (fun j=>f j+g j)=sumTo n f+sumTo n g:=by
  induction n with
  |zero=>rfl
  |succ n ih=>simp only[sumTo];rw[ih];omega
theorem sumTo_neg(n:Nat)(f:Nat→Int):sumTo n (fun j=> - f j)= - sumTo n f:=by
  induction n with
  |zero=>rfl
  |succ n ih=>simp only[sumTo];rw[ih];omega
theorem sumTo_mul(n:Nat)(c:Int)(f:Nat→Int):sumTo n (fun j=>c*f j)=c*sumTo n f:=by
  induction n with
  |zero=>simp[sumTo]
  |succ n ih=>simp only[sumTo];rw[ih,Int.mul_add]
theorem sumTo_swap(n m:Nat)(f:Nat→Nat→Int):sumTo n (fun i=>sumTo m (fun j=>f i j))=sumTo m (fun j=>sumTo n (fun i=>f i j)):=by
  induction n with
  |zero=>simp only[sumTo];rw[sumTo_zero (fun _ _=>rfl)]
  |succ n ih=>simp only[sumTo];rw[ih,sumTo_add]
def del(S:Nat→Bool)(j:Nat):Nat→Bool:=fun l=>S l && !(l==j)
def sg(S:Nat→Bool)(j:Nat):Nat→Int
  |0=>1
  |n+1=>if j<n∧S n=true then-sg S j n else sg S j n
theorem sg_congr{S T:Nat→Bool}{j n:Nat}(h:∀l,j<l→l<n→S l=T l):sg S j n=sg T j n:=by
  induction n with
  |zero=>rfl
  | succ n ih=>
    simp only[sg];rw[ih (fun l h1 h2=>h l h1 (by omega))];by_cases hj:j<n
    · rw[h n hj (by omega)]
    · rw[if_neg (by omega),if_neg (by omega)]
theorem sg_sq(S:Nat→Bool)(j n:Nat):sg S j n*sg S j n=1:=by
  induction n with
  |zero=>rfl
  | succ n ih=>
    simp only[sg];split
    · rw[Int.neg_mul_neg]
      exact ih
    · exact ih
theorem sg_del_above {S:Nat→Bool} {j l n:Nat} (hl:S l=true) (h:j<l) (hn:l<n):sg (del S l) j n= - sg S j n:=by
  induction n with
  |zero=>omega
  | succ n ih=>
    simp only[sg];by_cases e:l=n
    · subst e
      have e1:del S l l=false:=by simp[del]
      rw[if_neg (by simp[e1]),if_pos ⟨h,hl⟩,Int.neg_neg]
      exact sg_congr fun m h1 h2=>by
        have:(m==l)=false:=beq_eq_false_iff_ne.2 (by omega);simp[del,this]
    · rw[ih (by omega)]
      have e1:del S l n=S n:=by
        have:(n==l)=false:=beq_eq_false_iff_ne.2 (by omega);simp[del,this]
      rw[e1];split<;>rfl
theorem sg_del_below{S:Nat→Bool}{j l n:Nat}(h:l≤j):sg (del S l) j n=sg S j n:=
  sg_congr fun m h1 _=>by
    have:(m==l)=false:=beq_eq_false_iff_ne.2 (by omega);simp[del,this]
theorem del_comm(S:Nat→Bool)(i j:Nat):del (del S i) j=del (del S j) i:=by
  funext l
  unfold del;cases S l<;>cases(l==i)<;>cases(l==j)<;>rfl
def F(n:Nat)(A:Nat→Nat→Int):Nat→(Nat→Bool)→Int
  |0,S=>if∀l,l<n→S l=false then 1 else 0
  |k+1,S=>sumTo n fun j=>if S j=true then sg S j n*A k j*F n A k (del S j) else 0
theorem F_congr{n:Nat}{A B:Nat→Nat→Int}:∀{k:Nat} {S T:Nat→Bool},(∀i j,i<k→j<n→S j=true→A i j=B i j)→(∀l,l<n→S l=T l)→F n A k S=F n B k T
  | 0,S,T,_,hS=>by
    rw[F,F];by_cases h:∀l,l<n→S l=false
    · rw[if_pos h,if_pos (fun l hl=>by rw[←hS l hl];exact h l hl)]
    · rw[if_neg h,if_neg (fun h'=>h (fun l hl=>by rw[hS l hl];exact h' l hl))]
  | k +1,S,T,hA,hS=>by
    rw[F,F];refine sumTo_congr fun j hj=>?_
    rw[←hS j hj];by_cases h:S j=true
    · rw[if_pos h,if_pos h,hA k j (by omega) hj h,sg_congr (fun l _ h2=>hS l h2)]
      rw[F_congr (k:=k) (S:=del S j) (T:=del T j) (fun i l hi hl hd=>hA i l (by omega) hl (by simp[del]at hd;exact hd.1)) (fun l hl=>by simp[del,hS l hl])]
    · rw[if_neg h,if_neg h]
def swp(A:Nat→Nat→Int)(a b:Nat):Nat→Nat→Int:=fun i=>if i=a then A b else if i=b then A a else A i
theorem F_two (n:Nat) (A:Nat→Nat→Int) (k:Nat) (S:Nat→Bool):F n A (k+2) S =
    sumTo n fun j=>sumTo n fun l=>if S j=true∧S l=true∧l≠j then sg S j n*sg (del S j) l n*(A (k+1) j*A k l)*F n A k (del (del S j) l) else 0:=by
  rw[F];refine sumTo_congr fun j _=>?_
  by_cases hj:S j=true
  · rw [if_pos hj,F,←sumTo_mul]
    refine sumTo_congr fun l _=>?_
    by_cases hl:S l=true∧l≠j
    · have e:del S j l=true:=by simp[del,hl.1,hl.2]
      rw[if_pos e,if_pos ⟨hj,hl⟩];simp only[Int.mul_assoc,Int.mul_left_comm,Int.mul_comm]
    · have e:¬del S j l=true:=by
        simp only[del];intro h;rw[Bool.and_eq_true]at h;exact hl ⟨h.1,(by simpa using h.2)⟩
      rw[if_neg e,if_neg (fun h=>hl h.2),Int.mul_zero]
  · rw[if_neg hj]
    exact(sumTo_zero fun l _=>by rw[if_neg (fun h=>hj h.1)]).symm
theorem sg_two{S:Nat→Bool}{i j n:Nat}(hi:S i=true)(hj:S j=true)(hin:i<n)(hjn:j<n)(hne:i≠j):sg S i n*sg (del S i) j n= - (sg S j n*sg (del S j) i n):=by
  rcases Nat.lt_or_gt_of_ne hne with h|h
  · rw[sg_del_above hj h hjn,sg_del_below (S:=S) (show i≤j by omega),Int.mul_neg,Int.neg_neg,Int.mul_comm]
  · rw[sg_del_above hi h hin,sg_del_below (S:=S) (show j≤i by omega),Int.mul_neg,Int.mul_comm]
theorem F_swap_last(n:Nat)(A:Nat→Nat→Int)(k:Nat)(S:Nat→Bool):F n (swp A k (k+1)) (k+2) S= - F n A (k+2) S:=by
  rw[F_two,F_two,sumTo_swap,←sumTo_neg];refine sumTo_congr fun j hj=>?_
  rw[←sumTo_neg];refine sumTo_congr fun l hl=>?_
  have e1:swp A k (k+1) (k+1)=A k:=by simp[swp]
  have e2:swp A k (k+1) k=A (k+1):=by simp[swp]
  by_cases h:S j=true∧S l=true∧l≠j
  · rw[if_pos ⟨h.2.1,h.1,fun e=>h.2.2 e.symm⟩,if_pos h,e1,e2,sg_two h.2.1 h.1 hl hj h.2.2,del_comm S l j]
    rw[F_congr (A:=swp A k (k+1)) (B:=A) (k:=k) (S:=del (del S j) l) (T:=del (del S j) l) (fun i m hi _ _=>by simp[swp,show i≠k by omega,show i≠k+1 by omega]) (fun _ _=>rfl)];rw[Int.mul_comm (A k l) (A (k+1) j)];simp only[Int.neg_mul]
  · rw[if_neg (fun h'=>h ⟨h'.2.1,h'.1,fun e=>h'.2.2 e.symm⟩),if_neg h]
    rfl
theorem F_eq_rows (n:Nat):∀(k i:Nat) (A:Nat→Nat→Int) (S:Nat→Bool),i<k→A i=A k→F n A (k+1) S=0
  |0,i,_,_,h,_=>by omega
  | k + 1,i,A,S,hi,he=>by
    have h0:=F_swap_last n A k S;by_cases e:i=k
    · subst e
      have e1:F n (swp A i (i+1)) (i+2) S=F n A (i+2) S:=F_congr (fun a b _ _ _=>by
        simp only[swp];split
        · rename_i h;rw[h,he]
        · split
          · rename_i h;rw[h,he]
          · rfl) (fun _ _=>rfl)
      rw[e1]at h0;show F n A (i+2) S=0;omega
    · have h1:F n (swp A k (k+1)) (k+2) S=0:=by
        rw[F];refine sumTo_zero fun j _=>?_
        split
        · rw[F_eq_rows n k i (swp A k (k+1)) (del S j) (by omega) (by
            unfold swp;rw[if_neg (show i≠k by omega),if_neg (show i≠k+1 by omega),if_pos rfl]
            exact he),Int.mul_zero]
        · rfl
      rw[h1]at h0;show F n A (k+2) S=0;omega
def low(k:Nat):Nat→Bool:=fun l=>decide (l<k)
def lowj(k j:Nat):Nat→Bool:=fun l=>decide (l<k) || l==j
def row(A:Nat→Nat→Int)(k i:Nat):Nat→Nat→Int:=fun r=>if r=k then A i else A r
def R(n:Nat)(A:Nat→Nat→Int)(k i j:Nat):Int:=F n (row A k i) (k+1) (lowj k j)
def P(n:Nat)(A:Nat→Nat→Int)(k:Nat):Int:=F n A k (low k)
theorem low_succ(k:Nat):low (k+1)=lowj k k:=by
  funext l
  unfold low lowj;rw[Bool.eq_iff_iff];simp;omega
theorem P_succ(n:Nat)(A:Nat→Nat→Int)(k:Nat):P n A (k+1)=R n A k k k:=by
  unfold P R;rw[low_succ];exact F_congr (fun i j _ _ _=>by unfold row;split<;>simp[*]) (fun _ _=>rfl)
theorem R_zero (n:Nat) (A:Nat→Nat→Int) (i j:Nat) (hj:j<n):R n A 0 i j=A i j:=by
  unfold R;rw[F]
  have key:∀m,j<m→sumTo m (fun l=>if lowj 0 j l=true then sg (lowj 0 j) l n*row A 0 i 0 l*F n (row A 0 i) 0 (del (lowj 0 j) l) else 0)=sg (lowj 0 j) j n*A i j:=by
    intro m hm
    induction m with
    |zero=>omega
    | succ m ih=>
      rw[sumTo];by_cases e:j=m
      · subst e
        rw[sumTo_zero (fun l hl=>by rw[if_neg];simp[lowj];omega),if_pos (by simp[lowj])]
        have e:F n (row A 0 i) 0 (del (lowj 0 j) j)=1:=by
          rw[F,if_pos];intro l _;unfold del lowj;cases h:(l==j)<;>simp
        rw[e];simp[row]
      · rw[ih (by omega),if_neg (by simp[lowj];omega),Int.add_zero]
  rw[key n hj]
  have:∀m,sg (lowj 0 j) j m=1:=by
    intro m
    induction m with
    |zero=>rfl
    | succ m ih=>
      rw[sg,ih,if_neg];simp[lowj];omega
  rw[this,Int.one_mul]
theorem R_above(n:Nat)(A:Nat→Nat→Int)(k i j:Nat)(h:i<k):R n A k i j=0:=
  F_eq_rows n k i _ _ h (by unfold row;rw[if_neg (by omega),if_pos rfl])
theorem sumTo_single{n j:Nat}{f g:Nat→Int}(hj:j<n)(h:∀l,l<n→l≠j→f l=g l)(hg:g j=0):sumTo n f=f j+sumTo n g:=by
  induction n with
  |zero=>omega
  | succ n ih=>
    rw[sumTo,sumTo];by_cases e:j=n
    · subst e
      rw[sumTo_congr (g:=g) (fun l hl=>h l (by omega) (by omega)),hg];omega
    · rw[ih (by omega) (fun l hl hne=>h l (by omega) hne),h n (by omega) (by omega)]
      omega
theorem R_comb (n:Nat) (A:Nat→Nat→Int) (k j:Nat) (hk:k≤j) (hj:j<n):∃c:Nat→Int,∀i,R n A k i j=P n A k*A i j+sumTo k (fun s=>c s*A i s):=by
  refine⟨fun s=>sg (lowj k j) s n*F n A k (del (lowj k j) s),fun i=>?_⟩;have e0:∀l,l<n→∀S,F n (row A k i) k S=F n A k S:=fun l _ S=>F_congr (fun a b ha _ _=>by unfold row;rw[if_neg (by omega)]) (fun _ _=>rfl)
  unfold R;rw[F]
  rw [sumTo_single (j:=j) (g:=fun l=>if l<k then sg (lowj k j) l n*A i l*F n A k (del (lowj k j) l) else 0) hj (fun l hl hne=>by
    by_cases h:l<k
    · rw[if_pos (by simp[lowj,h]),if_pos h,e0 l hl]
      simp[row]
    · rw[if_neg (by simp[lowj,h,hne]),if_neg h]) (if_neg (by omega))]
  rw[if_pos (by simp[lowj]),e0 j hj]
  have e1:sg (lowj k j) j n=1:=by
    have:∀m,sg (lowj k j) j m=1:=by
      intro m
      induction m with
      |zero=>rfl
      | succ m ih=>
        rw[sg,ih,if_neg];simp[lowj];omega
    exact this n
  have e2:F n A k (del (lowj k j) j)=P n A k:=F_congr (fun _ _ _ _ _=>rfl) (fun l hl=>by
    unfold del lowj low;rw[Bool.eq_iff_iff];simp
    omega)
  rw[e1,e2]
  have e3:∀m,k≤m→sumTo m (fun l=>if l<k then sg (lowj k j) l n*A i l*F n A k (del (lowj k j) l) else 0)=sumTo k (fun s=>sg (lowj k j) s n*F n A k (del (lowj k j) s)*A i s):=by
    intro m hm
    induction m with
    | zero=>
      obtain rfl:k=0:=by omega
      rfl
    | succ m ih=>
      by_cases e:k=m+1
      · subst e
        exact sumTo_congr fun l hl=>by rw[if_pos hl,Int.mul_right_comm]
      · rw[sumTo,ih (by omega),if_neg (by omega),Int.add_zero]
  rw[e3 n (by omega)];simp[row,Int.mul_comm]
theorem block_inj (n:Nat) (A:Nat→Nat→Int):∀(k:Nat),k≤n→(∀m,m≤k→P n A m≠0)→∀e:Nat→Int,(∀i,i<k→sumTo k (fun s=>e s*A i s)=0)→∀s,s<k→e s=0
  |0,_,_,_,_,s,hs=>by omega
  | k + 1,hn,hp,e,he,s,hs=>by
    obtain⟨c,hc⟩:=R_comb n A k k (Nat.le_refl k) (by omega);have hpk:=hp k (by omega);have hq:=hp (k+1) (by omega)
    have key:∀i,P n A k*sumTo (k+1) (fun s=>e s*A i s)=e k*R n A k i k+sumTo k (fun s=>(P n A k*e s-e k*c s)*A i s):=by
      intro i;rw[hc i,sumTo,Int.mul_add,Int.mul_add,←sumTo_mul,←sumTo_mul]
      have e1:sumTo k (fun j=>P n A k*(e j*A i j))=sumTo k (fun s=>e k*(c s*A i s))+sumTo k (fun s=>(P n A k*e s-e k*c s)*A i s):=by
        rw[←sumTo_add];exact sumTo_congr fun j _=>by simp only[Int.sub_mul,Int.mul_assoc];omega
      rw[e1,Int.mul_left_comm (P n A k)];omega
    have hz:∀t,t<k→P n A k*e t-e k*c t=0:=block_inj n A k (by omega) (fun m hm=>hp m (by omega)) _ (fun i hi=>by
      have:=key i;rw[he i (by omega),R_above n A k i k hi,Int.mul_zero,Int.mul_zero]at this
      omega)
    have hek:e k=0:=by
      have h1:=key k;rw[he k (by omega),sumTo_zero (fun j hj=>by rw[hz j hj,Int.zero_mul]),Int.mul_zero,←P_succ]at h1;rcases Int.mul_eq_zero.1 (show e k*P n A (k+1)=0 by omega)with h|h
      · exact h
      · exact absurd h hq
    by_cases h:s=k
    · rw[h]
      exact hek
    · have h1:=hz s (by omega)
      rw[hek,Int.zero_mul,Int.sub_zero]at h1;rcases Int.mul_eq_zero.1 h1 with h2|h2
      · exact absurd h2 hpk
      · exact h2
theorem R_step(n:Nat)(A:Nat→Nat→Int)(k j:Nat)(hk:k<j)(hj:j<n)(hp:∀m,m≤k+1→P n A m≠0)(i:Nat):
    P n A k*R n A (k+1) i j=R n A k i j*R n A k k k-R n A k i k*R n A k k j:=by
  obtain⟨c,hc⟩:=R_comb n A k j (by omega) hj;obtain⟨d,hd⟩:=R_comb n A k k (by omega) (by omega);obtain⟨b,hb⟩:=R_comb n A (k+1) j (by omega) hj;have hq:=P_succ n A k
  obtain⟨e,he⟩:∃e:Nat→Int,∀i,P n A k*R n A (k+1) i j-(R n A k i j*R n A k k k-R n A k i k*R n A k k j)=sumTo (k+1) (fun s=>e s*A i s):=by
    refine⟨fun s=>if s=k then P n A k*b k+R n A k k j*P n A k else P n A k*b s-R n A k k k*c s+R n A k k j*d s,fun i=>?_⟩;rw[sumTo]
    dsimp only
    rw[if_pos rfl,sumTo_congr (g:=fun s=>P n A k*(b s*A i s)+((- R n A k k k)*(c s*A i s)+R n A k k j*(d s*A i s))) (fun s hs=>by
      rw[if_neg (by omega)];simp only[Int.sub_mul,Int.add_mul,Int.mul_assoc,Int.neg_mul]
      omega),sumTo_add,sumTo_add,sumTo_mul,sumTo_mul,sumTo_mul,hb i,hq,sumTo]
    have h1:=hc i;have h2:=hd i;generalize sumTo k (fun s=>b s*A i s)=X at *;generalize sumTo k (fun s=>c s*A i s)=Y at *;generalize sumTo k (fun s=>d s*A i s)=Z at *;rw[h1,h2];generalize R n A k k k=q at *;generalize R n A k k j=u at *;generalize P n A k=p at *;generalize A i j=x at *;generalize A i k=y at *;generalize b k=v at *
    grind
  have hz:∀s,s<k+1→e s=0:=block_inj n A (k+1) (by omega) hp e (fun r hr=>by
    rw[←he r,R_above n A (k+1) r j hr,Int.mul_zero];by_cases h:r=k
    · subst h
      rw[Int.mul_comm (R n A r r j)];omega
    · rw[R_above n A k r j (by omega),R_above n A k r k (by omega)]
      simp)
  have h1:=he i;rw[sumTo_zero (fun s hs=>by rw[hz s hs,Int.zero_mul])]at h1;omega
theorem P_zero(n:Nat)(A:Nat→Nat→Int):P n A 0=1:=by
  unfold P;rw[F,if_pos];intro l _;simp[low]
theorem F_swap_adj (n:Nat) (A:Nat→Nat→Int):∀(K r:Nat) (S:Nat→Bool),r+1<K→F n (swp A r (r+1)) K S= - F n A K S
  |0,r,S,h=>by omega
  | k + 1,r,S,h=>by
    by_cases e:r+1=k
    · subst e
      exact F_swap_last n A r S
    · rw[F,F,←sumTo_neg]
      refine sumTo_congr fun j _=>?_
      by_cases hj:S j=true
      · rw[if_pos hj,if_pos hj,F_swap_adj n A k r (del S j) (by omega)]
        have e1:swp A r (r+1) k=A k:=by unfold swp;rw[if_neg (by omega),if_neg (by omega)]
        rw[e1,Int.mul_neg]
      · rw[if_neg hj,if_neg hj]
        rfl
theorem swp_comp (A:Nat→Nat→Int) (a m:Nat) (h:a<m):swp A a (m+1)=swp (swp (swp A m (m+1)) a m) m (m+1):=by
  funext i
  unfold swp;by_cases h1:i=a
  · subst h1
    rw[if_pos rfl,if_neg (show¬i=m by omega),if_neg (show¬i=m+1 by omega),if_pos rfl,if_pos rfl]
  · by_cases h2:i=m
    · subst h2
      rw[if_neg h1,if_neg (show¬i=i+1 by omega),if_pos rfl,if_neg (show¬i+1=a by omega),if_neg (show¬i+1=i by omega),if_neg (show¬i+1=i by omega),if_pos rfl]
    · by_cases h3:i=m+1
      · subst h3
        rw[if_neg h1,if_pos rfl,if_neg h2,if_pos rfl,if_neg (show¬m=a by omega),if_pos rfl,if_neg (show¬a=m by omega),if_neg (show¬a=m+1 by omega)]
      · rw[if_neg h1,if_neg h3,if_neg h2,if_neg h3,if_neg h1,if_neg h2,if_neg h2,if_neg h3]
theorem F_swap(n:Nat)(K:Nat)(S:Nat→Bool):∀(d a:Nat) (A:Nat→Nat→Int),a+d+1<K→F n (swp A a (a+d+1)) K S= - F n A K S
  |0,a,A,h=>F_swap_adj n A K a S h
  | d+1,a,A,h=>by
    have e:swp A a (a+(d+1)+1)=swp (swp (swp A (a+d+1) (a+d+1+1)) a (a+d+1)) (a+d+1) (a+d+1+1):=swp_comp A a (a+d+1) (by omega);rw[e,F_swap_adj n _ K (a+d+1) S (by omega),F_swap n K S d a _ (by omega),F_swap_adj n _ K (a+d+1) S (by omega)];omega
theorem sg_flip {S T:Nat→Bool} {c c' j n:Nat} (hc:S c=true) (hc':T c'=true) (hd:del S c=del T c') (hcn:c<n) (hcn':c'<n) (h1:j≠c) (h2:j≠c'):
    sg T j n*sg (del S j) c n*sg (del T j) c' n=sg S c n*sg T c' n*sg S j n∨S j=false:=by
  by_cases hj:S j=true
  · left
    have hTj:T j=true:=by
      have:=congrFun hd j;unfold del at this;rw[hj,beq_eq_false_iff_ne.2 h1,beq_eq_false_iff_ne.2 h2]at this;simpa using this.symm
    by_cases hjn:j<n
    · have e:sg (del S c) j n=sg (del T c') j n:=by rw[hd]
      rcases Nat.lt_or_gt_of_ne h1 with a|a<;>rcases Nat.lt_or_gt_of_ne h2 with b|b
      · rw[sg_del_above hc a hcn,sg_del_above hc' b hcn']at e
        rw[show sg (del S j) c n=sg S c n from sg_del_below (by omega),show sg (del T j) c' n=sg T c' n from sg_del_below (by omega),show sg T j n=sg S j n by omega]
        grind
      · rw[sg_del_above hc a hcn,sg_del_below (S:=T) (show c'≤j by omega)]at e
        rw[sg_del_below (S:=S) (show j≤c by omega),sg_del_above hTj b hjn,←e]
        grind
      · rw[sg_del_below (S:=S) (show c≤j by omega),sg_del_above hc' b hcn']at e
        rw[sg_del_above hj a hjn,sg_del_below (S:=T) (show j≤c' by omega),e]
        grind
      · rw[sg_del_below (S:=S) (show c≤j by omega),sg_del_below (S:=T) (show c'≤j by omega)]at e
        rw[sg_del_above hj a hjn,sg_del_above hTj b hjn,e]
        grind
    · have z:∀(U V:Nat→Bool) (x:Nat),(∀l,l<n→U l=V l)→sg U x n=sg V x n:=fun U V x h=>sg_congr (fun l _ h2=>h l h2)
      have d1:∀l,l<n→del S j l=S l:=fun l hl=>by
        unfold del;rw[beq_eq_false_iff_ne.2 (show l≠j by omega)];simp
      have d2:∀l,l<n→del T j l=T l:=fun l hl=>by
        unfold del;rw[beq_eq_false_iff_ne.2 (show l≠j by omega)];simp
      rw[z _ _ c d1,z _ _ c' d2]
      have o:∀U:Nat→Bool,∀m,m≤j→sg U j m=1:=by
        intro U m hm
        induction m with
        |zero=>rfl
        |succ m ih=>rw[sg,if_neg (by omega),ih (by omega)]
      rw[o T n (by omega),o S n (by omega)]
      grind
  · right
    simpa using hj
theorem F_move (n:Nat):∀(k:Nat) (A B:Nat→Nat→Int) (S T:Nat→Bool) (c c':Nat),c<n→c'<n→S c=true→T c'=true→S c'=false→T c=false→del S c=del T c'→(∀i,B i c'=A i c)→(∀i j,S j=true→j≠c→B i j=A i j)→
    F n B k T=sg S c n*sg T c' n*F n A k S
  | 0,A,B,S,T,c,c',hc,hc',h1,h2,_,_,_,_,_=>by
    rw[F,F,if_neg (fun h=>by rw[h c' hc']at h2;cases h2),if_neg (fun h=>by rw[h c hc]at h1;cases h1),Int.mul_zero]
  | k + 1,A,B,S,T,c,c',hc,hc',h1,h2,h3,h4,hd,hB,hE=>by
    have hne:c≠c':=fun h=>by rw[h,h3]at h1;cases h1
    have hST:∀j,j≠c→j≠c'→T j=S j:=fun j ha hb=>by
      have:=congrFun hd j;unfold del at this;rw[beq_eq_false_iff_ne.2 ha,beq_eq_false_iff_ne.2 hb]at this;simpa using this.symm
    rw[F,F]
    rw [sumTo_single (j:=c') (g:=fun j=>if S j=true∧j≠c then sg S c n*sg T c' n*(sg S j n*A k j*F n A k (del S j)) else 0) hc' (fun j hj hjc=>by
      by_cases e:j=c
      · subst e
        rw[if_neg (by rw[h4];decide),if_neg (fun h=>h.2 rfl)]
      · by_cases hj':S j=true
        · rw[if_pos (by rw[hST j e hjc];exact hj'),if_pos ⟨hj',e⟩]
          have hrec:=F_move n k A B (del S j) (del T j) c c' hc hc' (by unfold del;rw[h1,beq_eq_false_iff_ne.2 (Ne.symm e)];rfl) (by unfold del;rw[h2,beq_eq_false_iff_ne.2 (Ne.symm hjc)];rfl) (by unfold del;rw[h3];rfl) (by unfold del;rw[h4];rfl)
            (by rw[del_comm S,hd,del_comm T]) hB (fun i l hl hlc=>hE i l (by unfold del at hl;rw[Bool.and_eq_true]at hl;exact hl.1) hlc)
          rw[hrec,hE k j hj' e];rcases sg_flip (S:=S) (T:=T) (j:=j) h1 h2 hd hc hc' e hjc with hs|hs
          · generalize sg T j n=a at *
            generalize sg (del S j) c n=b at *;generalize sg (del T j) c' n=d at *;generalize sg S c n=x at *;generalize sg T c' n=y at *;generalize sg S j n=w at *;generalize F n A k (del S j)=f at *;generalize A k j=g at *;have:a*g*(b*d*f)=(a*b*d)*(g*f):=by grind
            rw[this,hs]
            grind
          · rw[hs]at hj'
            cases hj'
        · rw[if_neg (by rw[hST j e hjc];exact hj'),if_neg (fun h=>hj' h.1)]) (if_neg (fun h=>by rw[h3]at h;cases h.1))]
    rw[sumTo_single (n:=n) (j:=c) (f:=fun j=>if S j=true then sg S j n*A k j*F n A k (del S j) else 0) (g:=fun j=>if S j=true∧j≠c then sg S j n*A k j*F n A k (del S j) else 0) hc (fun j _ hjc=>by
      by_cases hj:S j=true
      · rw[if_pos hj,if_pos ⟨hj,hjc⟩]
      · rw[if_neg hj,if_neg (fun h=>hj h.1)]) (if_neg (fun h=>h.2 rfl))]
    rw[if_pos h2,if_pos h1,Int.mul_add,←sumTo_mul,hB]
    have e1:F n B k (del T c')=F n A k (del S c):=F_congr (fun i j _ _ hj=>by
      rw[←hd]at hj;unfold del at hj;rw[Bool.and_eq_true]at hj
      exact hE i j hj.1 (by simpa using hj.2)) (fun l _=>by rw[hd])
    have e2:=sg_sq S c n;rw[e1]
    have e3:sumTo n (fun j=>if S j=true∧j≠c then sg S c n*sg T c' n*(sg S j n*A k j*F n A k (del S j)) else 0)=sumTo n (fun j=>sg S c n*sg T c' n*(if S j=true∧j≠c then sg S j n*A k j*F n A k (del S j) else 0)):=sumTo_congr fun j _=>by
      split
      · rfl
      · rw[Int.mul_zero]
    rw[e3]
    congr 1
    generalize sg S c n=x at *;generalize sg T c' n=y at *;generalize A k c=g at *;generalize F n A k (del S c)=f at *;have:x*y*(x*g*f)=(x*x)*(y*g*f):=by grind
    rw[this,e2,Int.one_mul]
def setc(A:Nat→Nat→Int)(c:Nat)(u:Nat→Int):Nat→Nat→Int:=fun i j=>if j=c then u i else A i j
theorem setc_at(A:Nat→Nat→Int)(c:Nat)(u:Nat→Int)(i:Nat):setc A c u i c=u i:=by unfold setc;rw[if_pos rfl]
theorem setc_ne(A:Nat→Nat→Int)(c:Nat)(u:Nat→Int)(i j:Nat)(h:j≠c):setc A c u i j=A i j:=by unfold setc;rw[if_neg h]
theorem F_eq_cols (n:Nat):∀(k:Nat) (A:Nat→Nat→Int) (S:Nat→Bool) (c c':Nat),c<n→c'<n→c≠c'→S c=true→S c'=true→(∀i,A i c=A i c')→F n A k S=0
  |0,A,S,c,c',hc,_,_,h1,_,_=>by rw[F,if_neg (fun h=>by rw[h c hc]at h1;cases h1)]
  | k + 1,A,S,c,c',hc,hc',hne,h1,h2,he=>by
    rw[F]
    rw [sumTo_single (j:=c) (g:=fun j=>if j=c' then sg S c' n*A k c'*F n A k (del S c') else 0) hc (fun j hj hjc=>by
      by_cases e:j=c'
      · subst e
        rw[if_pos h2,if_pos rfl]
      · rw[if_neg e]
        by_cases hj':S j=true
        · rw[if_pos hj',F_eq_cols n k A (del S j) c c' hc hc' hne (by unfold del;rw[h1,beq_eq_false_iff_ne.2 (Ne.symm hjc)];rfl) (by unfold del;rw[h2,beq_eq_false_iff_ne.2 (Ne.symm e)];rfl) he,Int.mul_zero]
        · rw[if_neg hj']) (if_neg hne)]
    rw[sumTo_single (n:=n) (j:=c') (g:=fun _=>0) hc' (fun j _ hj=>by rw[if_neg hj]) rfl,sumTo_zero (fun _ _=>rfl),if_pos h1,if_pos rfl];have hm:=F_move n k A A (del S c') (del S c) c c' hc hc' (by unfold del;rw[h1,beq_eq_false_iff_ne.2 hne];rfl) (by unfold del;rw[h2,beq_eq_false_iff_ne.2 (Ne.symm hne)];rfl) (by unfold del;simp) (by unfold del;simp) (del_comm S c' c) (fun i=>(he i).symm) (fun _ _ _ _=>rfl);have h3:=sg_two h1 h2 hc hc' hne;have h4:=sg_sq (del S c') c n;rw[hm,he k];generalize sg S c n=a at *;generalize sg (del S c) c' n=b at *;generalize sg S c' n=d at *;generalize sg (del S c') c n=e at *;generalize F n A k (del S c')=f at *;generalize A k c'=g at *;have:a*g*(e*b*f)=(a*b)*(e*g*f):=by grind
    rw[this,h3];have: -(d*e)*(e*g*f)= -((e*e)*(d*g*f)):=by grind
    rw[this,h4];omega
theorem F_lin (n:Nat) (m:Nat) (w:Nat→Int) (u:Nat→Nat→Int):∀(k:Nat) (A:Nat→Nat→Int) (S:Nat→Bool) (c:Nat),c<n→S c=true→F n (setc A c (fun i=>sumTo m fun s=>w s*u s i)) k S=sumTo m (fun s=>w s*F n (setc A c (u s)) k S)
  | 0,A,S,c,hc,h1=>by
    have e:∀B,F n B 0 S=0:=fun B=>by rw[F,if_neg (fun h=>by rw[h c hc]at h1;cases h1)]
    rw[e,sumTo_zero (fun s _=>by rw[e,Int.mul_zero])]
  | k + 1,A,S,c,hc,h1=>by
    rw[F];have e1:∀s,w s*F n (setc A c (u s)) (k+1) S=sumTo n (fun j=>w s*(if S j=true then sg S j n*setc A c (u s) k j*F n (setc A c (u s)) k (del S j) else 0)):=fun s=>by rw[F,sumTo_mul]
    rw[sumTo_congr (g:=fun s=>sumTo n (fun j=>w s*(if S j=true then sg S j n*setc A c (u s) k j*F n (setc A c (u s)) k (del S j) else 0))) (fun s _=>e1 s),sumTo_swap];refine sumTo_congr fun j hj=>?_
    by_cases hj':S j=true
    · rw [if_pos hj']
      by_cases e:j=c
      · subst e
        have e2:∀v,F n (setc A j v) k (del S j)=F n A k (del S j):=fun v=>F_congr (fun i l _ _ hl=>setc_ne A j v i l (by unfold del at hl;rw[Bool.and_eq_true]at hl;simpa using hl.2)) (fun _ _=>rfl)
        have e3:sumTo m (fun i=>w i*if S j=true then sg S j n*setc A j (u i) k j*F n (setc A j (u i)) k (del S j) else 0)=sg S j n*F n A k (del S j)*sumTo m (fun s=>w s*u s k):=by
          rw[←sumTo_mul]
          exact sumTo_congr fun s _=>by
            rw[if_pos hj',setc_at,e2];generalize sg S j n=x;generalize F n A k (del S j)=y
            grind
        rw[setc_at,e2,e3];generalize sumTo m (fun s=>w s*u s k)=v;generalize sg S j n=x;generalize F n A k (del S j)=y
        grind
      · rw[setc_ne _ _ _ _ _ e,F_lin n m w u k A (del S j) c hc (by unfold del;rw[h1,beq_eq_false_iff_ne.2 (Ne.symm e)];rfl),←sumTo_mul]
        exact sumTo_congr fun s _=>by rw[if_pos hj',setc_ne _ _ _ _ _ e];grind
    · rw[if_neg hj']
      exact(sumTo_zero fun s _=>by rw[if_neg hj',Int.mul_zero]).symm
theorem F_no_pivot (n:Nat) (A:Nat→Nat→Int) (k:Nat) (hk:k<n) (hp:P n A k≠0) (h:∀i,i<n→R n A k i k=0):F n A n (low n)=0:=by
  obtain⟨c,hc⟩:=R_comb n A k k (Nat.le_refl k) hk
  have e1:∀i,i<n→P n A k*A i k=sumTo k (fun s=>(- c s)*A i s):=fun i hi=>by
    have h1:=hc i;rw[h i hi]at h1;rw[sumTo_congr (g:=fun s=> - (c s*A i s)) (fun s _=>by rw[Int.neg_mul]),sumTo_neg];omega
  have hk':low n k=true:=by unfold low;simpa using hk
  have e2:P n A k*F n A n (low n)=F n (setc A k (fun i=>sumTo 1 fun _=>P n A k*A i k)) n (low n):=by
    rw[F_lin n 1 (fun _=>P n A k) (fun _ i=>A i k) n A (low n) k hk hk'];simp only[sumTo,Int.zero_add]
    congr 1
    exact F_congr (fun i j _ _ _=>by
      by_cases e:j=k
      · rw[e,setc_at]
      · rw[setc_ne _ _ _ _ _ e]) (fun _ _=>rfl)
  have e3:F n (setc A k (fun i=>sumTo 1 fun _=>P n A k*A i k)) n (low n)=F n (setc A k (fun i=>sumTo k fun s=>(- c s)*A i s)) n (low n):=F_congr (fun i j hi _ _=>by
      by_cases e:j=k
      · rw[e,setc_at,setc_at,sumTo,sumTo,Int.zero_add]
        exact e1 i hi
      · rw[setc_ne _ _ _ _ _ e,setc_ne _ _ _ _ _ e]) (fun _ _=>rfl)
  rw[e3,F_lin n k (fun s=> - c s) (fun s i=>A i s) n A (low n) k hk hk',sumTo_zero (fun s hs=>by
    rw[F_eq_cols n n (setc A k (fun i=>A i s)) (low n) k s hk (by omega) (by omega) hk' (by unfold low;simp;omega) (fun i=>by rw[setc_at,setc_ne _ _ _ _ _ (by omega)]),Int.mul_zero])]at e2
  rcases Int.mul_eq_zero.1 e2 with h1|h1
  · exact absurd h1 hp
  · exact h1
theorem cramer (N:Nat) (A:Nat→Nat→Int) (b:Nat→Int) (r:Nat) (hr:r<N):sumTo N (fun j=>A r j*F N (setc A j b) N (low N))=F N A N (low N)*b r:=by
  have hz:F (N+1) (row (setc A N b) N r) (N+1) (low (N+1))=0:=F_eq_rows (N+1) N r _ _ hr (by unfold row;rw[if_neg (by omega),if_pos rfl]);rw[F,sumTo]at hz
  have few:∀(B:Nat→Nat→Int) (k:Nat) (S:Nat→Bool),S N=false→F (N+1) B k S=F N B k S:=by
    intro B k
    induction k with
    | zero=>
      intro S hS;rw[F,F];by_cases h:∀l,l<N→S l=false
      · rw[if_pos h,if_pos (fun l hl=>by
          by_cases e:l=N
          · rw[e];exact hS
          · exact h l (by omega))]
      · rw[if_neg h,if_neg (fun h'=>h (fun l hl=>h' l (by omega)))]
    | succ k ih=>
      intro S hS;rw[F,F,sumTo,if_neg (by rw[hS];decide),Int.add_zero];refine sumTo_congr fun j hj=>?_
      by_cases h:S j=true
      · rw[if_pos h,if_pos h,ih (del S j) (by unfold del;rw[hS];rfl),sg,if_neg (fun h'=>by rw[hS]at h';cases h'.2)]
      · rw[if_neg h,if_neg h]
  have hl1:∀j,j≤N→low (N+1) j=true:=fun j hj=>by unfold low;simp;omega
  have hrow:∀(i j:Nat),i<N→row (setc A N b) N r i j=setc A N b i j:=fun i j hi=>by unfold row;rw[if_neg (by omega)]
  have eN:sg (low (N+1)) N (N+1)*row (setc A N b) N r N N*F (N+1) (row (setc A N b) N r) N (del (low (N+1)) N)=F N A N (low N)*b r:=by
    have e1:sg (low (N+1)) N (N+1)=1:=by
      have:∀m,m≤N+1→sg (low (N+1)) N m=1:=by
        intro m hm
        induction m with
        |zero=>rfl
        |succ m ih=>rw[sg,if_neg (by omega),ih (by omega)]
      exact this _ (Nat.le_refl _)
    have e2:row (setc A N b) N r N N=b r:=by unfold row;rw[if_pos rfl,setc_at]
    rw[e1,e2,few _ _ _ (by unfold del low;simp),F_congr (A:=row (setc A N b) N r) (B:=A) (T:=low N) (fun i j hi hj _=>by rw[hrow i j hi,setc_ne _ _ _ _ _ (by omega)]) (fun l hl=>by unfold del low;rw[beq_eq_false_iff_ne.2 (show l≠N by omega)];simp;omega)]
    grind
  have ej :∀j,j<N→sg (low (N+1)) j (N+1)*row (setc A N b) N r N j*F (N+1) (row (setc A N b) N r) N (del (low (N+1)) j)= - (A r j*F N (setc A j b) N (low N)):=by
    intro j hj;have e2:row (setc A N b) N r N j=A r j:=by unfold row;rw[if_pos rfl,setc_ne _ _ _ _ _ (by omega)]
    have hm:=F_move (N+1) N (setc A N b) (setc A j b) (del (low (N+1)) j) (low N) N j (by omega) (by omega) (by unfold del low;simp;omega) (by unfold low;simp;omega) (by unfold del;simp) (by unfold low;simp)
      (by
        funext l
        unfold del low;rw[Bool.eq_iff_iff];simp
        omega) (fun i=>by rw[setc_at,setc_at]) (fun i l hl hlN=>by
        have hlj:l≠j:=by
          unfold del at hl;rw[Bool.and_eq_true]at hl;simpa using hl.2
        rw[setc_ne _ _ _ _ _ hlj,setc_ne _ _ _ _ _ hlN])
    have e3:F (N+1) (row (setc A N b) N r) N (del (low (N+1)) j)=F (N+1) (setc A N b) N (del (low (N+1)) j):=F_congr (fun i l hi _ _=>hrow i l hi) (fun _ _=>rfl)
    have e4:sg (del (low (N+1)) j) N (N+1)=1:=by
      have:∀m,m≤N+1→sg (del (low (N+1)) j) N m=1:=by
        intro m hm
        induction m with
        |zero=>rfl
        |succ m ih=>rw[sg,if_neg (by omega),ih (by omega)]
      exact this _ (Nat.le_refl _)
    have e5:sg (low N) j (N+1)= - sg (low (N+1)) j (N+1):=by
      have h1:sg (del (low (N+1)) N) j (N+1)= - sg (low (N+1)) j (N+1):=sg_del_above (hl1 N (Nat.le_refl N)) hj (by omega);rw[←h1]
      exact sg_congr fun l _ hl=>by
        unfold del low;rw[Bool.eq_iff_iff];simp;omega
    rw[few _ _ _ (by unfold low;simp),e4,e5]at hm;rw[e2,e3,hm];have e6:=sg_sq (low (N+1)) j (N+1);generalize sg (low (N+1)) j (N+1)=x at *;generalize F (N+1) (setc A N b) N (del (low (N+1)) j)=y at *
    grind
  rw[if_pos (hl1 N (Nat.le_refl N)),eN,sumTo_congr (g:=fun j=> - (A r j*F N (setc A j b) N (low N))) (fun j hj=>by rw[if_pos (hl1 j (by omega)),ej j hj]),sumTo_neg]at hz;omega
def pivot(m:Nat→Nat→Int)(c:Nat):Nat→Nat→Option Nat
  |_,0=>none
  |k,d+1=>if m k c≠0 then some k else pivot m c (k+1) d
theorem pivot_some{m:Nat→Nat→Int}{c:Nat}:∀{d k p:Nat},pivot m c k d=some p→k≤p∧p<k+d∧m p c≠0
  |0,k,p,h=>by cases h
  | d +1,k,p,h=>by
    rw[pivot]at h;by_cases hm:m k c≠0
    · rw[if_pos hm]at h
      cases h;exact⟨Nat.le_refl _,by omega,hm⟩
    · rw[if_neg hm]at h
      obtain⟨h1,h2,h3⟩:=pivot_some h;exact⟨by omega,by omega,h3⟩
theorem pivot_none {m:Nat→Nat→Int} {c:Nat}:∀{d k:Nat},pivot m c k d=none→∀p,k≤p→p<k+d→m p c=0
  |0,k,_,p,h1,h2=>by omega
  | d + 1,k,h,p,h1,h2=>by
    rw[pivot]at h;by_cases hm:m k c≠0
    · rw[if_pos hm]at h
      cases h
    · rw[if_neg hm]at h
      by_cases e:p=k
      · rw[e]
        exact Decidable.not_not.1 hm
      · exact pivot_none h p (by omega) (by omega)
def stepM(k:Nat)(m:Nat→Nat→Int)(last:Int):Nat→Nat→Int:=fun i j=>if k<i∧k<j then(m i j*m k k-m i k*m k j).tdiv last else m i j
def elim (n:Nat):Nat→Nat→(Nat→Nat→Int)→Int→Int→Int
  |0,_,_,sign,last=>sign*last
  | d+1,k,m,sign,last=>match pivot m k k (n-k)with
    |none=>0
    |some p=>elim n d (k+1) (stepM k (if p=k then m else swp m k p) last) (if p=k then sign else -sign) ((if p=k then m else swp m k p) k k)
structure Stage(n:Nat)(D:Int)(k:Nat)(m:Nat→Nat→Int)(sign last:Int)(A:Nat→Nat→Int):Prop where
  ent:∀i j,k≤i→i<n→k≤j→j<n→m i j=R n A k i j
  last:last=P n A k
  lead:∀q,q≤k→P n A q≠0
  det:sign*F n A n (low n)=D
theorem R_swp(n:Nat)(A:Nat→Nat→Int)(k p i j:Nat)(hp:k<p)(hi:k≤i):R n (swp A k p) k i j=R n A k (if i=k then p else if i=p then k else i) j:=by
  unfold R;refine F_congr (fun r c hr _ _=>?_) (fun _ _=>rfl);unfold row;by_cases e:r=k
  · rw[if_pos e,if_pos e]
    unfold swp;by_cases h1:i=k
    · rw[if_pos h1,if_pos h1]
    · by_cases h2:i=p
      · rw[if_neg h1,if_pos h2,if_neg h1,if_pos h2]
      · rw[if_neg h1,if_neg h2,if_neg h1,if_neg h2]
  · rw[if_neg e,if_neg e]
    unfold swp;rw[if_neg e,if_neg (by omega)]
theorem P_swp(n:Nat)(A:Nat→Nat→Int)(k p q:Nat)(hp:k<p)(hq:q≤k):P n (swp A k p) q=P n A q:=by
  unfold P;refine F_congr (fun r c hr _ _=>?_) (fun _ _=>rfl);unfold swp;rw[if_neg (by omega),if_neg (by omega)]
theorem Stage.pivot {n k p:Nat} {D sign last:Int} {m A:Nat→Nat→Int} (h:Stage n D k m sign last A) (hk:k≤p) (hp:p<n):
    Stage n D k (if p=k then m else swp m k p) (if p=k then sign else -sign) last (if p=k then A else swp A k p):=by
  by_cases e:p=k
  · rw[if_pos e,if_pos e,if_pos e]
    exact h
  · rw [if_neg e,if_neg e,if_neg e]
    have hlt:k<p:=by omega
    refine⟨fun i j hi hin hj hjn=>?_,?_,fun q hq=>?_,?_⟩
    · rw [R_swp n A k p i j hlt hi]
      unfold swp;by_cases h1:i=k
      · rw[if_pos h1,if_pos h1]
        exact h.ent p j hk hp hj hjn
      · by_cases h2:i=p
        · rw[if_neg h1,if_pos h2,if_neg h1,if_pos h2]
          exact h.ent k j (Nat.le_refl k) (by omega) hj hjn
        · rw[if_neg h1,if_neg h2,if_neg h1,if_neg h2]
          exact h.ent i j hi hin hj hjn
    · rw[P_swp n A k p k hlt (Nat.le_refl k)]
      exact h.last
    · rw[P_swp n A k p q hlt hq]
      exact h.lead q hq
    · obtain⟨d,rfl⟩:∃d,p=k+d+1:=⟨p-k-1,by omega⟩
      rw[F_swap n n (low n) d k A hp,←h.det]
      grind
theorem Stage.next{n k:Nat}{D sign last:Int}{m A:Nat→Nat→Int}(h:Stage n D k m sign last A)(hk:k<n)(hp:m k k≠0):Stage n D (k+1) (stepM k m last) sign (m k k) A:=by
  have hkk:=h.ent k k (Nat.le_refl k) hk (Nat.le_refl k) hk
  have hlead:∀q,q≤k+1→P n A q≠0:=fun q hq=>by
    by_cases e:q=k+1
    · rw[e,P_succ,←hkk]
      exact hp
    · exact h.lead q (by omega)
  refine⟨fun i j hi hin hj hjn=>?_,(by rw[P_succ];exact hkk),hlead,h.det⟩;unfold stepM;rw[if_pos ⟨by omega,by omega⟩,h.ent i j (by omega) hin (by omega) hjn,hkk,h.ent i k (by omega) hin (Nat.le_refl k) hk,h.ent k j (Nat.le_refl k) hk (by omega) hjn,←R_step n A k j (by omega) hjn hlead i,h.last];exact Int.mul_tdiv_cancel_left _ (h.lead k (Nat.le_refl k))
theorem stage_zero (n : Nat) (A : Nat → Nat → Int) : Stage n (F n A n (low n)) 0 A 1 1 A:=
  ⟨fun i j _ _ _ hj => (R_zero n A i j hj).symm, (P_zero n A).symm, fun q hq => by obtain rfl:q=0:=by omega
                                                                                   rw[P_zero];decide,by omega⟩
def ab(x:Int):Int:=(x.natAbs:Int)
theorem ab_nonneg(x:Int):0≤ab x:=by unfold ab;omega
theorem ab_mul(x y:Int):ab (x*y)=ab x*ab y:=by unfold ab;rw[Int.natAbs_mul];simp
theorem ab_le{x B:Int}:ab x≤B↔ -B≤x∧x≤B:=by unfold ab;omega
theorem ab_sg(S:Nat→Bool)(j n:Nat):ab (sg S j n)=1:=by
  have h:sg S j n=1∨sg S j n= -1:=by
    induction n with
    |zero=>exact .inl rfl
    | succ n ih=>
      simp only[sg];split
      · rcases ih with h|h<;>rw[h]<;>omega
      · exact ih
  rcases h with h|h<;>rw[h]<;>rfl
theorem ab_sum(n:Nat)(f:Nat→Int):ab (sumTo n f)≤sumTo n (fun j=>ab (f j)):=by
  induction n with
  |zero=>exact Int.le_refl _
  | succ n ih=>
    simp only[sumTo];unfold ab at *;omega
theorem sumTo_le'{n:Nat}{f g:Nat→Int}(h:∀j,j<n→f j≤g j):sumTo n f≤sumTo n g:=by
  induction n with
  |zero=>exact Int.le_refl _
  | succ n ih=>
    have h1:=ih (fun j hj=>h j (by omega));have h2:=h n (by omega);simp only[sumTo];omega
def prodTo(x:Nat→Int):Nat→Int
  |0=>1
  |k+1=>prodTo x k*x k
theorem prodTo_pos{x:Nat→Int}:∀{k:Nat},(∀r,r<k→1≤x r)→1≤prodTo x k
  |0,_=>Int.le_refl _
  | k+1,h=>by
    have h1:=prodTo_pos (x:=x) (k:=k) (fun r hr=>h r (by omega));have h2:=h k (by omega);rw[prodTo];have:=Int.mul_le_mul h1 h2 (by omega) (by omega);omega
theorem prodTo_congr{x y:Nat→Int}:∀{k:Nat},(∀r,r<k→x r=y r)→prodTo x k=prodTo y k
  |0,_=>rfl
  |k+1,h=>by rw[prodTo,prodTo,prodTo_congr (k:=k) (fun r hr=>h r (by omega)),h k (by omega)]
theorem prodTo_mono{x:Nat→Int}{k n:Nat}(hk:k≤n)(h:∀r,r<n→1≤x r):prodTo x k≤prodTo x n:=by
  induction n with
  | zero=>
    obtain rfl:k=0:=by omega
    exact Int.le_refl _
  | succ n ih=>
    by_cases e:k=n+1
    · rw[e]
      exact Int.le_refl _
    · have h1:=ih (by omega) (fun r hr=>h r (by omega))
      have h2:=prodTo_pos (x:=x) (k:=n) (fun r hr=>h r (by omega));have h3:=h n (by omega);rw[prodTo];have:=Int.mul_le_mul_of_nonneg_left h3 (by omega:0≤prodTo x n);omega
theorem prodTo_one{x:Nat→Int}{k i n:Nat}(hk:k≤i)(hi:i<n)(h:∀r,r<n→1≤x r):prodTo x k*x i≤prodTo x n:=by
  induction n with
  |zero=>omega
  | succ n ih=>
    have hp:=prodTo_pos (x:=x) (k:=n) (fun r hr=>h r (by omega));by_cases e:i=n
    · subst e
      rw[prodTo];exact Int.mul_le_mul_of_nonneg_right (prodTo_mono hk (fun r hr=>h r (by omega))) (by have:=h i (by omega);omega)
    · have h1:=ih (by omega) (fun r hr=>h r (by omega))
      have h3:=h n (by omega);rw[prodTo];have:=Int.mul_le_mul_of_nonneg_left h3 (by omega:0≤prodTo x n);omega
def RowsLe(n s:Nat)(c:Int)(x:Nat→Int)(K:Nat)(A:Nat→Nat→Int):Prop:=
  ∀r,r<K→1≤x r∧sumTo n (fun j=>if j=s then 0 else ab (A r j))≤x r∧ab (A r s)≤c*x r
theorem F_bound {n s:Nat} {c:Int} (hc:0≤c) {x:Nat→Int} {A:Nat→Nat→Int}:∀(k:Nat) (S:Nat→Bool),RowsLe n s c x k A→ab (F n A k S)≤(k*c+1)*prodTo x k
  | 0,S,_=>by
    rw[F,prodTo];split<;>simp[ab]
  | k + 1,S,h=>by
    obtain⟨h1,h2,h3⟩:=h k (by omega);have hr:RowsLe n s c x k A:=fun r hr=>h r (by omega)
    have hp:=prodTo_pos (x:=x) (k:=k) (fun r hr'=>(h r (by omega)).1);have ih:=fun S=>F_bound hc k S hr
    have hkc:0≤(k:Int)*c:=Int.mul_nonneg (by omega) hc;have hB:0≤((k:Int)*c+1)*prodTo x k:=Int.mul_nonneg (by omega) (by omega)
    have free:∀(q:Nat) (T:Nat→Bool),RowsLe n s c x q A→T s=false→ab (F n A q T)≤prodTo x q:=by
      intro q
      induction q with
      | zero=>
        intro T _ _;rw[F,prodTo];split<;>simp[ab]
      | succ q ihq=>
        intro T hq hT;obtain⟨g1,g2,g3⟩:=hq q (by omega);have hrq:RowsLe n s c x q A:=fun r hr=>hq r (by omega)
        have hpq:=prodTo_pos (x:=x) (k:=q) (fun r hr'=>(hq r (by omega)).1);rw[F,prodTo];refine Int.le_trans (ab_sum _ _) ?_
        have e:sumTo n (fun j=>ab (if T j=true then sg T j n*A q j*F n A q (del T j) else 0))≤sumTo n (fun j=>prodTo x q*(if j=s then 0 else ab (A q j))):=sumTo_le' fun j _=>by
          by_cases hj:T j=true
          · rw[if_pos hj,if_neg (fun e=>by rw[e,hT]at hj;cases hj),ab_mul,ab_mul,ab_sg,Int.one_mul,Int.mul_comm]
            exact Int.mul_le_mul_of_nonneg_right (ihq (del T j) hrq (by unfold del;rw[hT];rfl)) (ab_nonneg _)
          · rw[if_neg hj]
            have:0≤(if j=s then 0 else ab (A q j)):=by split;omega;exact ab_nonneg _
            exact Int.mul_nonneg (by omega) this
        rw[sumTo_mul]at e;exact Int.le_trans e (Int.mul_le_mul_of_nonneg_left g2 (by omega))
    rw[F,prodTo];refine Int.le_trans (ab_sum _ _) ?_
    have e:sumTo n (fun j=>ab (if S j=true then sg S j n*A k j*F n A k (del S j) else 0))≤sumTo n (fun j=>((k:Int)*c+1)*prodTo x k*(if j=s then 0 else ab (A k j))+(if j=s then c*x k*prodTo x k else 0)):=sumTo_le' fun j _=>by
      have n1:0≤c*x k*prodTo x k:=Int.mul_nonneg (Int.mul_nonneg hc (by omega)) (by omega);by_cases hj:S j=true
      · rw[if_pos hj,ab_mul,ab_mul,ab_sg,Int.one_mul]
        by_cases es:j=s
        · subst es
          rw[if_pos rfl,if_pos rfl,Int.mul_zero,Int.zero_add];exact Int.mul_le_mul h3 (free k (del S j) hr (by unfold del;simp)) (ab_nonneg _) (Int.mul_nonneg hc (by omega))
        · rw[if_neg es,if_neg es,Int.add_zero,Int.mul_comm]
          exact Int.mul_le_mul_of_nonneg_right (ih (del S j)) (ab_nonneg _)
      · rw[if_neg hj]
        have n2:0≤(if j=s then 0 else ab (A k j)):=by split;omega;exact ab_nonneg _
        have n3:0≤(if j=s then c*x k*prodTo x k else 0):=by split;exact n1;omega
        have n4:=Int.mul_nonneg hB n2;show(0:Int)≤_;omega
    rw[sumTo_add,sumTo_mul]at e
    have e2:sumTo n (fun j=>if j=s then c*x k*prodTo x k else 0)≤c*x k*prodTo x k:=by
      have n1:0≤c*x k*prodTo x k:=Int.mul_nonneg (Int.mul_nonneg hc (by omega)) (by omega);by_cases hs:s<n
      · rw[sumTo_single (j:=s) (g:=fun _=>0) hs (fun l _ hl=>if_neg hl) rfl,if_pos rfl,sumTo_zero (fun _ _=>rfl)]
        omega
      · rw[sumTo_zero (fun j hj=>if_neg (by omega))]
        exact n1
    have e3:=Int.mul_le_mul_of_nonneg_left h2 hB
    have e4:((k:Int)*c+1)*prodTo x k*x k+c*x k*prodTo x k=(((k+1:Nat):Int)*c+1)*(prodTo x k*x k):=by
      rw[Int.natCast_add]
      grind
    omega
def Bnd(n s:Nat)(c X:Int)(A:Nat→Nat→Int):Prop:=∃x:Nat→Int,RowsLe n s c x n A∧prodTo x n≤X
theorem R_bound{n s:Nat}{c X:Int}(hc:0≤c){A:Nat→Nat→Int}(h:Bnd n s c X A){k i j:Nat}(hk:k≤i)(hi:i<n):ab (R n A k i j)≤(n*c+1)*X:=by
  obtain⟨x,hx,hX⟩:=h;unfold R
  have h1:RowsLe n s c (fun r=>if r=k then x i else x r) (k+1) (row A k i):=by
    intro r hr;unfold row
    dsimp only
    by_cases e:r=k
    · rw[if_pos e,if_pos e]
      exact hx i hi
    · rw[if_neg e,if_neg e]
      exact hx r (by omega)
  have h2:=F_bound hc (k+1) (lowj k j) h1
  have h3:prodTo (fun r=>if r=k then x i else x r) (k+1)=prodTo x k*x i:=by
    rw[prodTo,if_pos rfl,prodTo_congr (y:=x) (fun r hr=>if_neg (by omega))]
  have h4:=prodTo_one hk hi (fun r hr=>(hx r hr).1);have h5:=prodTo_pos (x:=x) (k:=k) (fun r hr=>(hx r (by omega)).1);rw[h3]at h2;refine Int.le_trans h2 (Int.mul_le_mul ?_ (Int.le_trans h4 hX) ?_ ?_)
  · have:((k+1:Nat):Int)*c≤(n:Int)*c:=Int.mul_le_mul_of_nonneg_right (by omega) hc
    omega
  · exact Int.mul_nonneg (by omega) (by have:=(hx i hi).1;omega)
  · have:=Int.mul_nonneg (show(0:Int)≤n by omega) hc
    omega
theorem prodTo_swap (x:Nat→Int) (a b:Nat) (hab:a<b):∀n,b<n→prodTo (fun r=>if r=a then x b else if r=b then x a else x r) n=prodTo x n:=by
  have key:∀(y:Nat→Int) (m:Nat),a<b→prodTo y m=(if a<m then y a else 1)*(if b<m then y b else 1)*prodTo (fun r=>if r=a∨r=b then 1 else y r) m:=by
    intro y m hab
    induction m with
    |zero=>simp[prodTo]
    | succ m ih=>
      rw[prodTo,ih,prodTo];by_cases h1:m=a
      · subst h1
        rw[if_neg (by omega),if_neg (by omega),if_pos (by omega),if_neg (by omega),if_pos (.inl rfl)]
        grind
      · by_cases h2:m=b
        · subst h2
          rw[if_pos hab,if_neg (by omega),if_pos (by omega),if_pos (by omega),if_pos (.inr rfl)]
          grind
        · rw[if_neg (by omega:¬(m=a∨m=b))]
          have c1:(a<m)=(a<m+1):=by rw[eq_iff_iff];omega
          have c2:(b<m)=(b<m+1):=by rw[eq_iff_iff];omega
          simp only[c1,c2]
          grind
  intro n hn;rw[key _ n hab,key x n hab,if_pos (by omega),if_pos hn,if_pos rfl,if_neg (by omega),if_pos rfl,if_pos (by omega),if_pos hn]
  rw[prodTo_congr (x:=fun r=>if r=a∨r=b then 1 else if r=a then x b else if r=b then x a else x r) (y:=fun r=>if r=a∨r=b then 1 else x r) (fun r _=>by
    by_cases h:r=a∨r=b
    · rw[if_pos h,if_pos h]
    · rw[if_neg h,if_neg h,if_neg (fun e=>h (.inl e)),if_neg (fun e=>h (.inr e))])]
  grind
theorem Bnd.swp{n s:Nat}{c X:Int}{A:Nat→Nat→Int}(h:Bnd n s c X A){a b:Nat}(hab:a<b)(hb:b<n):Bnd n s c X (swp A a b):=by
  obtain⟨x,hx,hX⟩:=h;refine⟨fun r=>if r=a then x b else if r=b then x a else x r,fun r hr=>?_,(by rw[prodTo_swap x a b hab n hb];exact hX)⟩;unfold Det.swp
  dsimp only
  by_cases h1:r=a
  · rw[if_pos h1,if_pos h1]
    exact hx b hb
  · by_cases h2:r=b
    · rw[if_neg h1,if_pos h2,if_neg h1,if_pos h2]
      exact hx a (by omega)
    · rw[if_neg h1,if_neg h2,if_neg h1,if_neg h2]
      exact hx r hr
theorem cube_le:∀d:Nat,d*d*d≤3 ^ d
  |0=>by decide
  |1=>by decide
  |2=>by decide
  |3=>by decide
  | d +4=>by
    have ih:=cube_le (d+3);rw[show d+4=(d+3)+1 by omega,Nat.pow_succ]
    have:(d+3+1)*(d+3+1)*(d+3+1)≤(d+3)*(d+3)*(d+3)*3:=by
      have e:(d+3)*(d+3)*(d+3)*3=(d+3+1)*(d+3+1)*(d+3+1)+(2*d*d*d+15*d*d+33*d+17):=by grind
      omega
    omega
end Det
end Go.Proofs.YtmgkbhhnchnkcaaGreatDoor
