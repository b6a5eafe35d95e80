/- Proved on the way: The row of TopRound: for every input the. Each theorem states its own conditions. -/
import Derived.Test.YtaeiifngjglchaaGreatDoorM26
import Derived.Lib.LaidU8T
import Derived.Lib.LaidCaseMet
import Derived.PinnedBridge
import Derived.Deep.DeepWitnessRowRef
set_option maxHeartbeats 16000000
set_option maxRecDepth 1000000
set_option linter.unusedVariables false
section
namespace Go.Proofs.YtaeiifngjglchaaGreatDoor.Lr
open Go.Proofs.Tryz
open Go.Shelf Go.Proofs.YtaeiifngjglchaaGreatDoor
open Go.ChangeShapes Go.WideShapes Go.ChangeAt Go.RowKit Go.Lib
open Go.ChangeMaps (open_string shut_string)
theorem own:ownKnob prog.godebug=none:=by kernel_rfl
theorem acc_eq:(Rows.laid_unicode_utf8_acceptRanges:DataW Unit)=acceptData:=by kernel_rfl
def laids:List (String × DataW Unit):=[("unicode/utf8.acceptRanges",acceptData),("unicode.CaseRanges",caseData),("unicode/utf8.first",firstData)]
theorem zn7:Rows.topRoundRow.laid=laids:=by
 show [("unicode/utf8.acceptRanges",Rows.laid_unicode_utf8_acceptRanges),("unicode.CaseRanges",Go.Pinned.caseRanges),("unicode/utf8.first",Go.Pinned.utf8First)]=_;rw[acc_eq,Pinned.caseRanges_eq,Pinned.utf8First_eq];rfl
theorem L274:Lays.n274 prog Tryz.lays204_ren:={ Tryz.lays204 with }
theorem zbm:CaseExtra prog Tryz.lays204_ren:=⟨by kernel_rfl,by kernel_rfl,by kernel_rfl,by kernel_rfl,by kernel_rfl,by kernel_rfl⟩
theorem t206:prog.underlying (Tryz.lays204_ren.t 206)=some (.array 3 (Tryz.lays204_ren.t 21)):=by kernel_rfl
theorem zoo {w:World} (R:Nat) (t:TypeId) (hR:4≠R) (hvar:w.heap[(4:Nat)]?=some (.cells #[.slice (some ⟨R,0,none⟩) caseA.size caseA.size] (Tryz.lays204_ren.t 162) (0,0)))
    (hblk:w.heap[R]?=some (.cells caseCells5 t (0,0))):LaidIn prog w [("unicode.CaseRanges",caseData)] [4,R]:=by
 have hT:=caseTab_of_block hblk;have hread:=case_slice_reads L274 t206 zbm hT caseA_wf (by rw[caseA_size];unfold maxLen;omega) 0;rw[case_rows_data]at hread;have hv:w.var? prog "unicode.CaseRanges" = some #[.slice (some ⟨R,0,none⟩) caseA.size caseA.size]:=by
  have hg:prog.globalNamed "unicode.CaseRanges" = some 4:=zbm.n13;simp[World.var?,hg,hvar]
 refine LaidIn.one (g:=4) (t:=Tryz.lays204_ren.t 162) (p:=MemPlace.row ⟨R,0,none⟩ (caseA.size*5)) _ zbm.n13 zbm.y13 hv hread ?_ ?_ ?_
 · refine List.nodup_append.2 ⟨row_nodup _ _,row_nodup _ _,?_⟩;intro a ha b hb e;obtain ⟨i,_,rfl⟩:=MemPlace.mem_row.1 ha;obtain ⟨j,_,rfl⟩:=MemPlace.mem_row.1 hb;simp at e;exact hR e.1
 · intro b off hp;rcases List.mem_append.1 hp with hp | hp
   · obtain ⟨i,hi,e⟩:=MemPlace.mem_row.1 hp;cases e
     refine ⟨⟨_,_,hvar⟩,fun u v hc=>?_⟩;obtain rfl:i=0:=by
      have:i<1:=hi;omega
     rw[Lib.cell_of_heap hvar]at hc;simp at hc
   · obtain ⟨i,hi,e⟩:=MemPlace.mem_row.1 hp;cases e
     refine ⟨⟨_,_,hblk⟩,fun u v hc=>?_⟩;have hi336:i<336*5:=(by rw[caseA_size]at hi;exact hi);obtain ⟨c0,c1,c2,c3,c4⟩:=hT (i / 5) (by rw[caseA_size];omega);have hi5:0+i=0+i / 5*5+i % 5:=(by omega);simp only at hc;rw[hi5]at hc;have hm:i % 5<5:=Nat.mod_lt _ (by omega)
     match hk:i % 5,hm with
     | 0,_=>rw[hk,Nat.add_zero,c0]at hc;cases hc
     | 1,_=>rw[hk,c1]at hc;cases hc
     | 2,_=>rw[hk,c2]at hc;cases hc
     | 3,_=>rw[hk,c3]at hc;cases hc
     | 4,_=>rw[hk,c4]at hc;cases hc
 · intro x hx;rcases List.mem_append.1 hx with hx | hx
   · obtain ⟨i,_,rfl⟩:=MemPlace.mem_row.1 hx;exact List.mem_cons_self
   · obtain ⟨i,_,rfl⟩:=MemPlace.mem_row.1 hx;exact List.mem_cons_of_mem _ List.mem_cons_self
noncomputable def laidWorld (os:Os):World:=
 let N:=(World.settled prog os).heap.size
 let w0:=World.holding prog os ⟨#[.cells Lib.caseCells5 (Tryz.lays204_ren.t 208)],#[],[]⟩
 let put (h:Array Obj) (g:Nat) (cs:Array Value):Array Obj:=h.modify g fun
  | .cells _ t frozen=>.cells cs t frozen
  | o=>o
 let h1:=put w0.heap 0 (Lib.firstTab.map fun z=>Value.int .u8 z).toArray
 let h2:=put h1 1 ((List.range 16).flatMap fun i=>[Value.int .u8 (Lib.accLo i),Value.int .u8 (Lib.accHi i)]).toArray
 let h3:=put h2 4 #[.slice (some ⟨N,0,none⟩) 336 336]
 { w0 with heap:=h3 }
noncomputable abbrev N0:Nat:=(World.settled prog default).heap.size
theorem piece1 (os:Os) (args:Array Value):LaidIn prog ((laidWorld os).forCall (fun _ _=>0) ⟨#[],args,[]⟩).memory [("unicode/utf8.acceptRanges",acceptData)] [1]:=
 LaidIn.of_run [1] 8 (by kernel_rfl) (by kernel_rfl) (by kernel_rfl) (by kernel_rfl)
theorem piece3 (os:Os) (args:Array Value):LaidIn prog ((laidWorld os).forCall (fun _ _=>0) ⟨#[],args,[]⟩).memory [("unicode/utf8.first",firstData)] [0]:=
 LaidIn.of_run [0] 8 (by kernel_rfl) (by kernel_rfl) (by kernel_rfl) (by kernel_rfl)
theorem piece2 (os:Os) (args:Array Value):LaidIn prog ((laidWorld os).forCall (fun _ _=>0) ⟨#[],args,[]⟩).memory [("unicode.CaseRanges",caseData)] [4,N0]:=
 zoo N0 (Tryz.lays204_ren.t 208) (oT (by kernel_rfl)) (by kernel_rfl) (by kernel_rfl)
theorem zmk (os:Os) (args:Array Value):laidMet prog laids ((laidWorld os).forCall (fun _ _=>0) ⟨#[],args,[]⟩).memory:=
 (((piece1 os args).append (piece2 os args) (by kernel_rfl)).append (piece3 os args) (by kernel_rfl)).met
theorem zgO (os:Os) {H:Type} (enc:TypeId × Value->H) :
    (OpenSpec.ofChange Rows.topRoundSpec).preRow enc prog f3 Rows.topRoundRow.domain false laids ((laidWorld os).forCall (fun _ _=>0) ⟨#[],#[.string ByteArray.empty],[]⟩).memory #[.string ByteArray.empty]:=by
 have hw:(DataW.whole enc prog ((laidWorld os).forCall (fun _ _=>0) ⟨#[],#[.string ByteArray.empty],[]⟩).memory Tryz.f3.params.toList (OpenSpec.ofChange Rows.topRoundSpec).vars false #[Value.string ByteArray.empty].toList 8).map (fun x=>(x.1,x.2.1)) =
     some ([.lit (.string [])],[]):=by kernel_rfl
 obtain ⟨⟨x1,x2,x3⟩,hx,hx1⟩:=Option.map_eq_some_iff.1 hw;simp only[Prod.mk.injEq]at hx1;obtain ⟨rfl,rfl⟩:=hx1;exact OpenSpec.preRow_of_cond 8 hx (by kernel_rfl) (fun k hk=>by cases hk) (by kernel_rfl) (zmk os _)
theorem lifted (os:Os) (started:os.Started) (H:Type) (enc:TypeId × Value->H) (F:Stop.Interp) :
    ReturnsInHanded {} Tryz.checked os 3 .any ((OpenSpec.ofChange Rows.topRoundSpec).preRow enc prog f3 Rows.topRoundRow.domain false laids) (((OpenSpec.ofChange Rows.topRoundSpec).at F).post enc prog f3 false true false false):=by
 refine returnsInHanded_of_row (C:=Tryz.checked) (s:=OpenSpec.ofChange Rows.topRoundSpec) own started (by kernel_rfl) func3
  (witness_row_atRef (enc:=enc) (C:=Tryz.checked) false (laidWorld os) #[.string ByteArray.empty] rfl (by kernel_rfl) (by kernel_rfl) (by kernel_rfl) (zgO os enc)) ?_
 intro W base args ds gs before hval0 hW _ _ _ hL0 hsh _;have hL:laidMet prog laids W:=hL0;have hval:∀(j:Nat) t v,Tryz.f3.params[j]?=some t->args[j]?=some v->Value.okWide prog W .any base t v:=hval0;have hW':=hW;obtain ⟨p,q,hA0,hV0,rfl,_,_⟩:=hW;have hA:DataW.TrodAll enc prog W 0 (fun _=>true) true Tryz.f3.params.toList args.toList ds p:=hA0;rw[Tryz.params3]at hA hval;obtain ⟨v0,d0,rfl,rfl,h0⟩:=trodAll_one hA;obtain ⟨rfl,rfl⟩:=trodVars_none hV0;obtain ⟨a0,rfl,rfl,rfl,y0⟩:=open_string underlying9 (hval 0 9 v0 rfl rfl) h0;clear hA0 hV0 hval0;obtain ⟨m,hm⟩:∃m,W.cell? ⟨2,0,none⟩=some (.int .i64 m):=Tryz.laysM219.s1_3 W hsh
 have htab:Lib.Utf8Tabs 0 1 W:=
  utf8Tabs_of_readsT (U8Types.of196 Tryz.valid) ⟨by kernel_rfl,by kernel_rfl,by kernel_rfl,by kernel_rfl,by kernel_rfl,by kernel_rfl,by kernel_rfl⟩ (Lib.laidMet.reads hL (.tail _ (.tail _ (.head _)))) (Lib.laidMet.reads hL (.head _))
 have h4:4<=W.heap.size:=by
  obtain ⟨g,t,cs,fuel,pp,hg,hty,hvar,hd⟩:=Lib.laidMet.reads hL (.tail _ (.head _));obtain rfl:(4:Nat)=g:=Option.some.inj ((show prog.globalNamed "unicode.CaseRanges" = some 4 from zbm.n13).symm.trans hg);rcases Nat.lt_or_ge 4 W.heap.size with h | h
  · omega
  · have hn:W.heap[(4:Nat)]?=none:=Array.getElem?_eq_none h;simp[World.var?,hg,hn]at hvar
 have hs0:str a0.data.toList=a0:=(by cases a0;rfl);have hwk:=ze0 a0.data.toList W h4 ⟨htab,m,hm⟩;rw[hs0]at hwk;refine hwk.mono ?_;rintro e W' ⟨rfl,bel⟩;have e1:((OpenSpec.ofChange Rows.topRoundSpec).at F).fn H ([DataW.lit (Lit.string a0.data.toList)]++[])={ results:=[.lit (.bool true)],args:=[DataW.lit (Lit.string a0.data.toList)] }:=rfl;refine ⟨_,rfl,_,_,_,[],[],[],hW',?_,?_,?_,bel.frame _,fun h=>by cases h⟩
 · rw[e1];exact trodAll_mk1 (shut_bool underlying4 true)
 · rw[e1];exact trodAll_mk1 (shut_string underlying9 y0)
 · rw[e1];rfl
end Go.Proofs.YtaeiifngjglchaaGreatDoor.Lr
end
