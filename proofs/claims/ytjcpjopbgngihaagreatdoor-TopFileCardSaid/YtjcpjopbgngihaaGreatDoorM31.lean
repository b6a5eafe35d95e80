/- The tied card of TopFile: for every slice of bytes the law returns true and leaves its argument as it was; the three tables that it lists are tied to the program's text. -/
import Derived.Test.YtjcpjopbgngihaaGreatDoorM29
import Derived.Test.YtjcpjopbgngihaaGreatDoorM30
import Derived.Lib.LaidU8T
import Derived.Lib.LaidCaseMet
import Derived.PinnedBridge
import Derived.Deep.DeepWitnessRowRef
import Derived.Test.YtjcpjopbgngihaaGreatDoorCards
import Derived.Test.YtjcpjopbgngihaaGreatDoorTie
set_option maxHeartbeats 16000000
set_option maxRecDepth 1000000
set_option linter.unusedSimpArgs false
set_option linter.unusedVariables false
section
namespace Go.Proofs.YtjcpjopbgngihaaGreatDoor
open Go.Proofs.Tryz
open Go.RowKit Go.Lib Tv Go.Sort
open Go.Proofs.YtjcpjopbgngihaaGreatDoorW.PrintLast
theorem boxUnpack0 (A:Option Addr) (c:Nat) (b:List UInt8) (w:World) (h6:b.length<6):Calls prog 15 #[.slice A b.length c] w (UnpAns w b):=by
 have HN:=hid (Bx.zcV (zeW h6));have h6z:(b.length:Int)<6:=(by omega);go_enter func15,ntmps15
 go_wp2;go_ret2;exact UnpAns.no HN.out rfl br
theorem decode0 (A:Option Addr) (c:Nat) (b:Bs) (w:World) (h6:b.length<6):Calls prog 5 #[.slice A b.length c] w (DecAns w b):=by
 have HUN:=hid (boxUnpack0 A c b w h6);have H6:=hid h6;clear h6;go_enter func5,ntmps5
 go_wp2_with fail
 refine HUN.out.mono ?_;rintro e w1 ⟨⟨xs,v,hbx,rfl,hrow,hpart⟩ | ⟨hno,rfl⟩,hb1⟩
 · exfalso;have h1:=Bx.zcz (secs xs);rw[hbx.2]at h1;have:=H6.out;omega
 · have HN:=hid (zkR hno);have HB1:=hid hb1;clear hno hb1;go_wp2;go_ret2;exact DecAns.no HN.out rfl HB1.out
theorem zjT (A:Option Addr) (c:Nat) (b:Bs) (w:World) (h4:4<=w.heap.size) (hl:Lay w) (h:Fd.Seg w A b.length (Fd.bys b)) (hA:0<b.length->∃g,A=some ⟨g,0,none⟩) (hc:b.length<=c) (hlen:b.length<=20000) :
    Calls prog 5 #[.slice A b.length c] w (DecAns w b):=by
 by_cases h0:b.length<6
 · exact decode0 A c b w h0
 · obtain ⟨g,rfl⟩:=hA (by omega);exact zgZ g c b w h4 hl h hc hlen
theorem zf6 (A:Option Addr) (c:Nat) (b:Bs) (w:World) (h4:4<=w.heap.size) (ht:Lay w) (hs:Fd.Seg w A b.length (Fd.bys b)) (hc:b.length<=c) :
    Calls prog 3 #[.slice A b.length c] w fun e w'=>e=.returned (.bool true)/\Below w.heap.size w w':=by
 by_cases hbig:20000<b.length
 · have hz:(20000:Int)<(b.length:Int):=(by omega);go_enter func3,ntmps3
   go_wp2;go_ret;exact ⟨rfl,br⟩
 · have hz:¬(20000:Int)<(b.length:Int):=(by omega);have HS:=hid hs;have HLY:Hid (∀W,Below w.heap.size w W->Lay W):=fun W hW=>ht.below hW;obtain ⟨i0,hi,hz0,hz1,hz2⟩:=info_parts Fd.info5;obtain ⟨n,hn⟩:∃n,b.length=n:=⟨_,rfl⟩;have HN:=hid hn;rw[hn]at hz hc hbig ⊢;have HSn:Hid (∀W,Below w.heap.size w W->Fd.Seg W A n (Fd.bys b)):=fun W hW=>by
    have:=HS.out.below hW;rw[hn]at this;exact this
   clear hs ht hn;go_enter func3,ntmps3
   go_wp2_with (at_builtin;refine Fd.zah _ rfl _ _ 22 rfl w.heap.size 5 i0 (.int .u8 0) 1 underlying22 hi hz0 hz1 hz2 rfl _ 0 [] rfl (World.ownsRow_made w #[] 0 nL (Nat.zero_le _) (by simp)) A n c (Fd.bys b) rfl (HSn.out _ ((Below.refl _ w).alloc nL _)) (Fd.zaV _) ?f1 ?f2 ?f3 ?_)
   case f1=>unfold maxLen;omega
   case f2=>omega
   intro v2 w2 hown2 hg2;have hb2:Below w.heap.size w w2:=((Below.refl _ w).alloc nL (.cells #[] 5)).grown hg2 (by simp) (fun k hk=>by injection hk with hk;exact Nat.le_of_eq hk);have hA2:0<n->∃g cap,v2=.slice (some ⟨g,0,none⟩) n cap:=fun h=>by
    rcases hown2.2 with ⟨_,h0⟩ | ⟨g,cap,cur,rfl,_⟩
    · omega
    · exact ⟨g,cap,rfl⟩
   obtain ⟨A2,c2,rfl⟩:=Fd.zac hown2;have HB2:=hid hb2;have hde:=zjT A2 c2 b w2 (by have:=hb2.size;omega) (HLY.out _ hb2) (by rw[HN.out];exact Fd.Seg.of_own hown2) (fun h=>by
    obtain ⟨g,cap,e⟩:=hA2 (by rw[HN.out]at h;exact h);injection e with e;exact ⟨g,e⟩) (by rw[HN.out];exact Fd.own_le' hown2) (by rw[HN.out];omega)
   rw[HN.out]at hde;have HDE:=hid hde;clear hown2 hg2 hb2 hA2 hde;go_wp2_with fail
   refine HDE.out.mono ?_;rintro e w3 ⟨hor3,hb3⟩;have HB3:=hid (HB2.out.trans (hb3.mono HB2.out.size));have hre:=zeB A c b w3 (by have:=HB3.out.size;omega) (HLY.out _ HB3.out) (HS.out.below HB3.out) (by rw[HN.out];exact hc) (by rw[HN.out];omega);rw[HN.out]at hre;have HRE:=hid hre;have HCV:Hid (∀W,Below w.heap.size w W->(convert 22 9 (.slice A n c)).run prog W=.ok (.string (str b)) W):=fun W hW=>Fd.zaG W A n c b (HSn.out W hW);have HKN:Hid (∀W,Below w.heap.size w W->Calls prog 8 #[] W fun e w'=>e=.returned (.bool true)/\Below W.heap.size W w'):=fun W hW=>zhT W (by have:=hW.size;omega) (HLY.out _ hW);clear hre HDE HB2;rcases hor3 with ⟨S,v,L,ts,hfile,hst,rfl⟩ | ⟨hno,rfl⟩
   · have HST:=hid hst;have HFI:=hid hfile;clear hst hfile hb3;go_wp2_with fail
     refine HRE.out.mono ?_;rintro e w4 ⟨⟨S',v',L',ts',hfile',hst',rfl⟩ | ⟨hno',rfl⟩,hb4⟩
     · have HB4:=hid (HB3.out.trans (hb4.mono HB3.out.size));have HST4:=hid (HST.out.below hb4);clear hfile' hst' hb4 HRE;have HEN:Hid (∀W,Below w4.heap.size w4 W->Calls prog 7 #[.pointer (some ⟨S,0,none⟩)] W fun e w'=>∃A c,e=.returned (.slice A (fileN ts L).length c)/\w'.ownsRow W.heap.size 5 1 (.slice A (fileN ts L).length c) (fileN ts L).length (Fd.bys (fileN ts L))/\Below W.heap.size W w'):=fun W hW=>zc5 S v L ts W (HST4.out.below hW);go_wp2_with fail
       have HBD:Hid (Below w4.heap.size w4 w4.drew):=⟨rfl,rfl,rfl,nL,fun _ _=>rfl⟩;refine sH 14 HCV.out (HB4.out.trans (HBD.out.mono HB4.out.size)) (fun hHeld=>?_);refine pU 0 ?_;refine pU 1 ?_;refine pU 2 ?_;refine pU 3 ?_;refine pU 6 ?_;refine tK 7 hHeld ?_;refine oN 4 (fun K hK=>?_);refine cL func7 #[.pointer (some ⟨S,0,none⟩)] ?_;refine (HEN.out _ HBD.out).mono ?_;rintro e w5 ⟨A5,c5,rfl,hown5,hb5⟩;refine ⟨_,rfl,?_⟩;have HB5:=hid (HB4.out.trans ((HBD.out.trans hb5).mono HB4.out.size));have hcv5:=Fd.zaG w5 A5 _ c5 _ (Fd.Seg.of_own hown5);rw[HFI.out]at hcv5;clear hown5 hb5;refine oU hK (HCV.out _ HB5.out) (fun hHeld=>?_);clear hK K;refine oN 5 (fun K hK=>?_);refine zbc (by rfl) rfl (v:=.string (str b)) (w1:=w5) (by rw[HFI.out];go_simp) ?_;refine oU hK (HCV.out _ HB5.out) (fun hHeld=>?_);clear hK K;clear hcv5;refine pU 8 ?_;refine pU 9 ?_;refine pU 10 ?_;refine oN 11 (fun K hK=>?_);refine goes_ func8 (by kernel_rfl) rfl #[] (by rfl) rfl rfl (by simp only[List.map_toArray,List.map_nil]) ?_;refine (HKN.out _ HB5.out).mono ?_;rintro e w6 ⟨rfl,hb6⟩;refine ⟨_,rfl,?_⟩;have HB6:=hid (HB5.out.trans (hb6.mono HB5.out.size));refine oU hK (HCV.out _ HB6.out) (fun hHeld=>?_);clear hK K;refine pU 12 ?_;refine pU 13 ?_;refine done_ (by kernel_rfl) ?_;clear hHeld;go_wp2;go_ret;exact ⟨rfl,HB6.out⟩
     · exact absurd ⟨L,ts,HST.out.ok,HFI.out⟩ hno'
   · have HNO:=hid hno;clear hno hb3;go_wp2_with fail
     refine HRE.out.mono ?_;rintro e w4 ⟨⟨S',v',L',ts',hfile',hst',rfl⟩ | ⟨hno',rfl⟩,hb4⟩
     · exact absurd ⟨L',ts',hst'.ok,hfile'⟩ HNO.out
     · have HB4:=hid (HB3.out.trans (hb4.mono HB3.out.size));clear hno' hb4 HRE;go_wp2_with fail
       have HBD:Hid (Below w.heap.size w w4.drew):=HB4.out.trans ⟨rfl,rfl,rfl,nL,fun _ _=>rfl⟩;refine sT 14 (fun hHeld=>?_);refine pU 0 ?_;refine pU 1 ?_;refine pU 2 ?_;refine pS 3 ?_;refine pS 4 ?_;refine pS 5 ?_;refine pS 6 ?_;refine pS 7 ?_;refine pS 8 ?_;refine pU 9 ?_;refine pU 10 ?_;refine oN 11 (fun K hK=>?_);refine goes_ func8 (by kernel_rfl) rfl #[] (by rfl) rfl rfl (by simp only[List.map_toArray,List.map_nil]) ?_;refine (HKN.out _ HBD.out).mono ?_;rintro e w6 ⟨rfl,hb6⟩;refine ⟨_,rfl,?_⟩;have HB6:=hid (HBD.out.trans (hb6.mono HBD.out.size));refine oU hK trivial (fun hHeld=>?_);clear hK K;refine pU 12 ?_;refine pU 13 ?_;refine done_ (by kernel_rfl) ?_;clear hHeld;go_wp2;go_ret;exact ⟨rfl,HB6.out⟩
end Go.Proofs.YtjcpjopbgngihaaGreatDoor
end
section
namespace Go.Proofs.YtjcpjopbgngihaaGreatDoor.Lf
open Go.Proofs.Tryz
open Go.Shelf Go.Proofs.YtjcpjopbgngihaaGreatDoor
open Go.ChangeShapes Go.WideShapes Go.ChangeAt Go.RowKit Go.Lib
section
variable {H:Type} {enc':TypeId × Value->H} {w:World} {base:Nat} {spare:Nat->Bool} {held:Bool}
theorem zjv {A:Option Addr} {n c fuel:Nat} {x:DataW H × List MemPlace}
    (h:DataW.trod enc' prog w base spare held fuel 22 [.slice A n c]=some x):∃l:List UInt8,l.length=n/\Fd.Seg w A n (Fd.bys l)/\n<=c:=by
 rcases open_ints underlying22 underlying5 (by kernel_rfl) h with ⟨hcs,hx⟩ | ⟨a,len,cap,zs,hcs,hlc,hl,_,hss,hx,hcell,hwz⟩
 · simp at hcs;obtain ⟨rfl,rfl,rfl⟩:=hcs;exact ⟨[],rfl,⟨rfl,fun h=>absurd h (by omega)⟩,Nat.zero_le _⟩
 · simp at hcs;obtain ⟨rfl,rfl,rfl⟩:=hcs;have hle:n<=zs.length:=(by rw[hss];split<;>omega);refine ⟨(zs.take n).map fun z=>UInt8.ofNat z.toNat,by simp;omega,⟨by simp[Fd.bys];omega,fun _=>⟨a,rfl,fun i u hu=>?_⟩⟩,by omega⟩;have hi:i<n:=by
    have:=(List.getElem?_eq_some_iff.1 hu).1;simp[Fd.bys]at this;omega
   have hw:=hwz (zs[i]'(by omega)) (List.getElem_mem _);simp[Lit.wf,show IntKind.u8.min=0 from rfl,show IntKind.u8.max=255 from rfl]at hw;rw[hcell i (by omega),<-hu,<-List.getElem_eq_getD (h:=show i<zs.length by omega)];have e:(((UInt8.ofNat (zs[i]'(by omega)).toNat).toNat:Nat):Int)=zs[i]'(by omega):=by
    rw[UInt8.toNat_ofNat'];omega
   simp only[Fd.bys,List.map_map,List.getElem?_map,List.getElem?_take_of_lt hi,List.getElem?_eq_getElem (show i<zs.length by omega),Option.map_some,Function.comp,e]
end
theorem own:ownKnob prog.godebug=none:=by kernel_rfl
theorem laidOut:laidOutB prog=true:=by kernel_rfl
theorem acc_eq:(Rows.laid_unicode_utf8_acceptRanges:DataW Unit)=acceptData:=by kernel_rfl
def laids:List (String × DataW Unit):=[("unicode/utf8.acceptRanges",acceptData),("unicode.CaseRanges",caseData),("unicode/utf8.first",firstData)]
theorem zoz:Rows.topFileRow.laid=laids:=by
 show [("unicode/utf8.acceptRanges",Rows.laid_unicode_utf8_acceptRanges),("unicode.CaseRanges",Go.Pinned.caseRanges),("unicode/utf8.first",Go.Pinned.utf8First)]=_;rw[acc_eq,Pinned.caseRanges_eq,Pinned.utf8First_eq];rfl
theorem L274:Lays.n274 prog Tryz.lays204_ren:={ Tryz.lays204 with }
theorem zbr:CaseExtra prog Tryz.lays204_ren:=⟨by kernel_rfl,by kernel_rfl,by kernel_rfl,by kernel_rfl,by kernel_rfl,by kernel_rfl⟩
theorem t206:prog.underlying (Tryz.lays204_ren.t 206)=some (.array 3 (Tryz.lays204_ren.t 21)):=by kernel_rfl
theorem zoO {w:World} (R:Nat) (t:TypeId) (hR:3≠R) (hvar:w.heap[(3:Nat)]?=some (.cells #[.slice (some ⟨R,0,none⟩) caseA.size caseA.size] (Tryz.lays204_ren.t 162) (0,0)))
    (hblk:w.heap[R]?=some (.cells caseCells5 t (0,0))):LaidIn prog w [("unicode.CaseRanges",caseData)] [3,R]:=by
 have hT:=caseTab_of_block hblk;have hread:=case_slice_reads L274 t206 zbr hT caseA_wf (by rw[caseA_size];unfold maxLen;omega) 0;rw[case_rows_data]at hread;have hv:w.var? prog "unicode.CaseRanges" = some #[.slice (some ⟨R,0,none⟩) caseA.size caseA.size]:=by
  have hg:prog.globalNamed "unicode.CaseRanges" = some 3:=zbr.n13;simp[World.var?,hg,hvar]
 refine LaidIn.one (g:=3) (t:=Tryz.lays204_ren.t 162) (p:=MemPlace.row ⟨R,0,none⟩ (caseA.size*5)) _ zbr.n13 zbr.y13 hv hread ?_ ?_ ?_
 · refine List.nodup_append.2 ⟨row_nodup _ _,row_nodup _ _,?_⟩;intro a ha b hb e;obtain ⟨i,_,rfl⟩:=MemPlace.mem_row.1 ha;obtain ⟨j,_,rfl⟩:=MemPlace.mem_row.1 hb;simp at e;exact hR e.1
 · intro b off hp;rcases List.mem_append.1 hp with hp | hp
   · obtain ⟨i,hi,e⟩:=MemPlace.mem_row.1 hp;cases e
     refine ⟨⟨_,_,hvar⟩,fun u v hc=>?_⟩;obtain rfl:i=0:=by
      have:i<1:=hi;omega
     rw[Lib.cell_of_heap hvar]at hc;simp at hc
   · obtain ⟨i,hi,e⟩:=MemPlace.mem_row.1 hp;cases e
     refine ⟨⟨_,_,hblk⟩,fun u v hc=>?_⟩;have hi336:i<336*5:=(by rw[caseA_size]at hi;exact hi);obtain ⟨c0,c1,c2,c3,c4⟩:=hT (i / 5) (by rw[caseA_size];omega);have hi5:0+i=0+i / 5*5+i % 5:=(by omega);simp only at hc;rw[hi5]at hc;have hm:i % 5<5:=Nat.mod_lt _ (by omega)
     match hk:i % 5,hm with
     | 0,_=>rw[hk,Nat.add_zero,c0]at hc;cases hc
     | 1,_=>rw[hk,c1]at hc;cases hc
     | 2,_=>rw[hk,c2]at hc;cases hc
     | 3,_=>rw[hk,c3]at hc;cases hc
     | 4,_=>rw[hk,c4]at hc;cases hc
 · intro x hx;rcases List.mem_append.1 hx with hx | hx
   · obtain ⟨i,_,rfl⟩:=MemPlace.mem_row.1 hx;exact List.mem_cons_self
   · obtain ⟨i,_,rfl⟩:=MemPlace.mem_row.1 hx;exact List.mem_cons_of_mem _ List.mem_cons_self
noncomputable def laidWorld (os:Os):World:=
 let N:=(World.settled prog os).heap.size
 let w0:=World.holding prog os ⟨#[.cells Lib.caseCells5 (Tryz.lays204_ren.t 208)],#[],[]⟩
 let put (h:Array Obj) (g:Nat) (cs:Array Value):Array Obj:=h.modify g fun
  | .cells _ t frozen=>.cells cs t frozen
  | o=>o
 let h1:=put w0.heap 0 (Lib.firstTab.map fun z=>Value.int .u8 z).toArray
 let h2:=put h1 1 ((List.range 16).flatMap fun i=>[Value.int .u8 (Lib.accLo i),Value.int .u8 (Lib.accHi i)]).toArray
 let h3:=put h2 3 #[.slice (some ⟨N,0,none⟩) 336 336]
 { w0 with heap:=h3 }
noncomputable abbrev N0:Nat:=(World.settled prog default).heap.size
theorem piece1 (os:Os) (args:Array Value):LaidIn prog ((laidWorld os).forCall (fun _ _=>0) ⟨#[],args,[]⟩).memory [("unicode/utf8.acceptRanges",acceptData)] [1]:=
 LaidIn.of_run [1] 8 (by kernel_rfl) (by kernel_rfl) (by kernel_rfl) (by kernel_rfl)
theorem piece3 (os:Os) (args:Array Value):LaidIn prog ((laidWorld os).forCall (fun _ _=>0) ⟨#[],args,[]⟩).memory [("unicode/utf8.first",firstData)] [0]:=
 LaidIn.of_run [0] 8 (by kernel_rfl) (by kernel_rfl) (by kernel_rfl) (by kernel_rfl)
theorem piece2 (os:Os) (args:Array Value):LaidIn prog ((laidWorld os).forCall (fun _ _=>0) ⟨#[],args,[]⟩).memory [("unicode.CaseRanges",caseData)] [3,N0]:=
 zoO N0 (Tryz.lays204_ren.t 208) (oT (by kernel_rfl)) (by kernel_rfl) (by kernel_rfl)
theorem zmS (os:Os) (args:Array Value):laidMet prog laids ((laidWorld os).forCall (fun _ _=>0) ⟨#[],args,[]⟩).memory:=
 (((piece1 os args).append (piece2 os args) (by kernel_rfl)).append (piece3 os args) (by kernel_rfl)).met
theorem zhc (os:Os) {H:Type} (enc:TypeId × Value->H) :
    (OpenSpec.ofChange Rows.topFileSpec).preRow enc prog f3 Rows.topFileRow.domain false laids ((laidWorld os).forCall (fun _ _=>0) ⟨#[],#[.slice none 0 0],[]⟩).memory #[.slice none 0 0]:=by
 have hw:(DataW.whole enc prog ((laidWorld os).forCall (fun _ _=>0) ⟨#[],#[.slice none 0 0],[]⟩).memory Tryz.f3.params.toList (OpenSpec.ofChange Rows.topFileSpec).vars false #[Value.slice none 0 0].toList 8).map (fun x=>(x.1,x.2.1)) =
     some ([.nil],[]):=by kernel_rfl
 obtain ⟨⟨x1,x2,x3⟩,hx,hx1⟩:=Option.map_eq_some_iff.1 hw;simp only[Prod.mk.injEq]at hx1;obtain ⟨rfl,rfl⟩:=hx1;exact OpenSpec.preRow_of_cond 8 hx (by kernel_rfl) (fun k hk=>by cases hk) (by kernel_rfl) (zmS os _)
theorem lifted (os:Os) (started:os.Started) (H:Type) (enc:TypeId × Value->H) (F:Stop.Interp) :
    ReturnsInHanded {} Tryz.checked os 3 .any ((OpenSpec.ofChange Rows.topFileSpec).preRow enc prog f3 Rows.topFileRow.domain false laids) (((OpenSpec.ofChange Rows.topFileSpec).at F).post enc prog f3 false true false false):=by
 refine returnsInHanded_of_row (C:=Tryz.checked) (s:=OpenSpec.ofChange Rows.topFileSpec) own started (by kernel_rfl) func3
  (witness_row_atRef (enc:=enc) (C:=Tryz.checked) false (laidWorld os) #[.slice none 0 0] rfl (by kernel_rfl) (by kernel_rfl) (by kernel_rfl) (zhc os enc)) ?_
 intro W base args ds gs before hval0 hW _ _ _ hL0 hsh _;have hL:laidMet prog laids W:=hL0;have hval:∀(j:Nat) t v,Tryz.f3.params[j]?=some t->args[j]?=some v->Value.okWide prog W .any base t v:=hval0;have hW':=hW;obtain ⟨p,q,hA0,hV0,rfl,_,_⟩:=hW;have hA:DataW.TrodAll enc prog W 0 (fun _=>true) true Tryz.f3.params.toList args.toList ds p:=hA0;rw[Tryz.params3]at hA hval;obtain ⟨v0,d0,rfl,rfl,h0⟩:=trodAll_one hA;obtain ⟨rfl,rfl⟩:=trodVars_none hV0;obtain ⟨a0,n0,c0,rfl⟩:=okWide_slice underlying22 (hval 0 22 v0 rfl rfl);have k0:=h0;have lt0:∀x∈p,x.block<W.heap.size:=(by obtain ⟨m,hm⟩:=k0;exact DataW.trod_lt m _ _ _ hm);obtain ⟨l0,hl0,w0,z0⟩:∃l:List UInt8,l.length=n0/\Fd.Seg W a0 n0 (Fd.bys l)/\n0<=c0:=by
  obtain ⟨fuel,hf⟩:=h0;exact zjv (by simpa [Value.cells] using hf)
 subst hl0;clear hA0 hV0 hval0;obtain ⟨m,hm⟩:∃m,W.cell? ⟨2,0,none⟩=some (.int .i64 m):=Tryz.laysM219.s1_3 W hsh
 have htab:Lib.Utf8Tabs 0 1 W:=
  utf8Tabs_of_readsT (U8Types.of196 Tryz.valid) ⟨by kernel_rfl,by kernel_rfl,by kernel_rfl,by kernel_rfl,by kernel_rfl,by kernel_rfl,by kernel_rfl⟩ (Lib.laidMet.reads hL (.tail _ (.tail _ (.head _)))) (Lib.laidMet.reads hL (.head _))
 have h4:4<=W.heap.size:=by
  obtain ⟨g,t,cs,fuel,pp,hg,hty,hvar,hd⟩:=Lib.laidMet.reads hL (.tail _ (.head _));obtain rfl:(3:Nat)=g:=Option.some.inj ((show prog.globalNamed "unicode.CaseRanges" = some 3 from zbr.n13).symm.trans hg);rcases Nat.lt_or_ge 3 W.heap.size with h | h
  · exact h
  · have hn:W.heap[(3:Nat)]?=none:=Array.getElem?_eq_none h;simp[World.var?,hg,hn]at hvar
 refine (zf6 a0 c0 l0 W h4 ⟨htab,m,hm⟩ w0 z0).mono ?_;rintro e W' ⟨rfl,bel⟩;have e1:((OpenSpec.ofChange Rows.topFileSpec).at F).fn H ([d0]++[])={ results:=[.lit (.bool true)],args:=[d0] }:=rfl;refine ⟨_,rfl,_,_,_,[],p,[],hW',?_,?_,?_,bel.frame _,fun h=>by cases h⟩
 · rw[e1];exact trodAll_mk1 (shut_bool underlying4 true)
 · rw[e1];exact trodAll_mk1 (Below.trod laidOut (by kernel_rfl) (oT (by kernel_rfl)) k0 bel lt0)
 · rw[e1];rfl
theorem holds:Rows.TopFileSaid:=
 OpenClaim.holds_of_cond 3 f3 rfl rfl rfl rfl rfl rfl rfl ⟨rfl,rfl,rfl,rfl,rfl⟩ rfl rfl rfl rfl rfl (by kernel_rfl) func3 (by kernel_rfl)
  (oT (by kernel_rfl)) (by unfold Func.isWrapper;first | (rw[if_pos (by decide +kernel)];kernel_rfl) | (rw[if_neg (by decide +kernel)];exact ⟨rfl,rfl⟩))
  (fun os started H enc _ F0=>by rw[OpenClaim.pre_eq_preRow,zoz];exact lifted os started H enc F0)
end Go.Proofs.YtjcpjopbgngihaaGreatDoor.Lf
end
section
namespace Go.Proofs.YtjcpjopbgngihaaGreatDoor
open Go.Proofs.Tryz
open Go
theorem topFileCard_holds:Rows.TopFileCardSaid:=
 Claim7.holds_tied_plain_at .later [] [.data,.pinned,.pinned] true (true, "4e9a5a303042c3de69b2efc9012d2df5e60c5b6140503db27b63464468aecdfa") false
  Lf.holds (fun _ h=>by cases h) (by kernel_rfl) (fun _ h=>by cases h) topFile_row_tie rfl ⟨rfl,rfl⟩ (by kernel_rfl) rfl
  (fun f fn hf hfn=>by
   obtain rfl:f=3:=Option.some.inj ((show prog.funcNamed "trivium/triviumtop.TopFile" = some 3 by kernel_rfl).symm.trans hf) |>.symm;obtain rfl:fn=f3:=(Option.some.inj (func3.symm.trans hfn)).symm;exact ⟨by kernel_rfl,fun j t ht=>by
    rw[Tryz.params3]at ht;have h3:t=22:=by
     rcases j with _ | j
     · simpa using ht.symm
     · simp at ht
    subst h3;exact (show prog.wantsStandIn 22=false by kernel_rfl)⟩)
  (by kernel_rfl)
end Go.Proofs.YtjcpjopbgngihaaGreatDoor
end
