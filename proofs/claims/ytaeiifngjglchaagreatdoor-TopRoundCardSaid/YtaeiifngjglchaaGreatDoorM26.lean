/- Proved on the way: The document's store of sorted triples: ; Package store: Load; the law's known(); The document's Load; The law TopRound: its walk. Each theorem states its own conditions. -/
import Derived.Test.YtaeiifngjglchaaGreatDoorM19
import Derived.Test.YtaeiifngjglchaaGreatDoorM25
set_option maxHeartbeats 16000000
set_option maxRecDepth 1000000
set_option linter.unusedSimpArgs false
section
namespace Go.Proofs.YtaeiifngjglchaaGreatDoor
open Go.Proofs.Tryz
open Go.RowKit Go.Lib Tv Go.Sort
open Go.Proofs.YtaeiifngjglchaaGreatDoorW.PrintLast
structure OSt (w wr:World) (S:Nat) (vT vE vS vI:Value) (ts:List VTm) (ss:List ByteArray) (ids:List Ids):Prop where
 blk:wr.heap[S]?=some (.cells #[vT,vE,vS,vI] 41 (0,0))
 rE:RowM wr (S+1) vE ts
 rS:wr.ownsRow (S+1) 9 1 vS ss.length (Fd.sts ss)
 rI:wr.ownsRow (S+1) 103 3 vI ids.length (ids.flatMap encI)
 below:Below w.heap.size w wr
 ge:w.heap.size<=S
section
variable {w wr w1 W:World} {S:Nat} {vT vE vS vI:Value} {ts:List VTm} {ss:List ByteArray} {ids:List Ids}
theorem OSt.lt (h:OSt w wr S vT vE vS vI ts ss ids):S<wr.heap.size:=(Array.getElem?_eq_some_iff.1 h.blk).1
theorem OSt.step (h:OSt w wr S vT vE vS vI ts ss ids) (hb:Below wr.heap.size wr w1):OSt w w1 S vT vE vS vI ts ss ids:=
 ⟨(hb.block S h.lt).trans h.blk,Fd.own_below h.rE hb,Fd.own_below h.rS hb,Fd.own_below h.rI hb,h.below.trans (hb.mono h.below.size),h.ge⟩
theorem OSt.cells (h:OSt w wr S vT vE vS vI ts ss ids):wr.cell? ⟨S,1,none⟩=some vE/\wr.cell? ⟨S,2,none⟩=some vS/\wr.cell? ⟨S,3,none⟩=some vI/\(∀j,wr.frozen? ⟨S,j,none⟩=false):=
 ⟨by rw[cell_of_heap h.blk];rfl,by rw[cell_of_heap h.blk];rfl,by rw[cell_of_heap h.blk];rfl,fun j=>frozen_of_heap h.blk j⟩
theorem za4 {e:TypeId} {s n:Nat} {v:Value} {xs:List Value} (h:w1.ownsRow (S+1) e s v n xs) (o:Nat) (u:Value):(w1.setCell ⟨S,o,none⟩ u).ownsRow (S+1) e s v n xs:=
 ((Fr.refl w1 (fun k=>k=S)).set_ (p:=⟨S,o,none⟩) (.inl rfl) u).own h fun k hk e=>by have:=(h.lt k hk).1;omega
theorem OSt.setE {vE':Value} {ts':List VTm} (h:OSt w wr S vT vE vS vI ts ss ids) (hr:RowM wr (S+1) vE' ts'):OSt w (wr.setCell ⟨S,1,none⟩ vE') S vT vE' vS vI ts' ss ids:=by
 refine ⟨?_,za4 hr 1 _,za4 h.rS 1 _,za4 h.rI 1 _,h.below.setCell h.ge _,h.ge⟩;simp[World.setCell,Array.getElem?_modify,h.blk]
theorem OSt.putS {vS':Value} {ss':List ByteArray} (h:OSt w wr S vT vE vS vI ts ss ids) (hg:wr.grownBy w1 vS.ownBlock) (hown:w1.ownsRow (S+1) 9 1 vS' ss'.length (Fd.sts ss')):OSt w (w1.setCell ⟨S,2,none⟩ vS') S vT vE vS' vI ts ss' ids:=by
 have hne:some S≠vS.ownBlock:=fun e=>(by have:=(h.rS.lt S e.symm).1;omega);have hb1:w1.heap[S]?=some (.cells #[vT,vE,vS,vI] 41 (0,0)):=(hg.block S h.lt hne).trans h.blk;have hE:w1.ownsRow (S+1) 62 3 vE ts.length (ts.flatMap encM):=World.ownsRow.kept h.rE hg (Fd.own_ne h.rE h.rS (by decide));have hI:=h.rI.kept hg (Fd.own_ne h.rI h.rS (by decide));refine ⟨?_,za4 hE 2 _,za4 hown 2 _,za4 hI 2 _,(h.below.grown hg h.below.size fun k hk=>by have:=(h.rS.lt k hk).1;have:=h.ge;omega).setCell h.ge _,h.ge⟩;simp[World.setCell,Array.getElem?_modify,hb1]
theorem OSt.putI {vI':Value} {ids':List Ids} (h:OSt w wr S vT vE vS vI ts ss ids) (hg:wr.grownBy w1 vI.ownBlock) (hown:w1.ownsRow (S+1) 103 3 vI' ids'.length (ids'.flatMap encI)):OSt w (w1.setCell ⟨S,3,none⟩ vI') S vT vE vS vI' ts ss ids':=by
 have hne:some S≠vI.ownBlock:=fun e=>(by have:=(h.rI.lt S e.symm).1;omega);have hb1:w1.heap[S]?=some (.cells #[vT,vE,vS,vI] 41 (0,0)):=(hg.block S h.lt hne).trans h.blk;have hE:w1.ownsRow (S+1) 62 3 vE ts.length (ts.flatMap encM):=World.ownsRow.kept h.rE hg (Fd.own_ne h.rE h.rI (by decide));have hS:=h.rS.kept hg (Fd.own_ne h.rS h.rI (by decide));refine ⟨?_,za4 hE 3 _,za4 hS 3 _,za4 hown 3 _,(h.below.grown hg h.below.size fun k hk=>by have:=(h.rI.lt k hk).1;have:=h.ge;omega).setCell h.ge _,h.ge⟩;simp[World.setCell,Array.getElem?_modify,hb1]
end
structure RefIs (w:World) (S:Nat) (vT:Value) (L:List VTri) (ts:List VTm):Prop where
 ex:∃vE vS vI,w.heap[S]?=some (.cells #[vT,vE,vS,vI] 41 (0,0))/\RowM w 0 vE ts/\w.ownsRow 0 9 1 vS ts.length (Fd.sts (tsS ts))/\w.ownsRow 0 103 3 vI L.length ((L.map (idsOf ts)).flatMap encI)
 row:RowV w 0 vT L
 ok:StP L ts
theorem zi6 (L:List VTri) (v:Value) (w:World) (h:RowV w 0 v L) (hr:Rise (ltOf cmpV) L) (hl:L.length<=100) :
    Calls prog 25 #[v] w fun e w'=>∃S ts,e=.returned (.pointer (some ⟨S,0,none⟩))/\RefIs w' S v L ts/\Below w.heap.size w w':=by
 obtain ⟨A,c,rfl⟩:=Fd.zac h;obtain ⟨S,hS⟩:∃S,w.heap.size=S:=⟨_,rfl⟩;obtain ⟨w0,hw0⟩:∃w0,w.alloc (.cells #[.slice A L.length c,.slice none 0 0,.slice none 0 0,.slice none 0 0] 41)=w0:=⟨_,rfl⟩;have HROW:Hid (∀w1,Below w.heap.size w w1->RowV w1 0 (.slice A L.length c) L):=fun w1 hb=>h.below hb;have HM0:Hid (OSt w w0 S (.slice A L.length c) (.slice none 0 0) (.slice none 0 0) (.slice none 0 0) [] [] []):=by
  rw[<-hw0,<-hS];exact ⟨heap_alloc_new w _,World.ownsRow_nil _ _ _ _,World.ownsRow_nil _ _ _ _,World.ownsRow_nil _ _ _ _,br.alloc nL _,nL⟩
 have HR:=hid hr;clear h hr;go_enter func25,ntmps25
 go_wp2;clear hS hw0;go_loopw [4] (fun v4 wr=>∃(k:Nat) (vE:Value) (ts:List VTm),k<=L.length/\v4=.int .i64 k/\OSt w wr S (.slice A L.length c) vE (.slice none 0 0) (.slice none 0 0) ts [] []/\Hid (SortB (ltOf cmpM) (flatM (L.take k)) ts)/\ts.length<=3*k) (fun v4 _=>L.length-(RowKit.intOf v4).toNat)
 case atStart=>exact ⟨0,_,[],Nat.zero_le _,rfl,HM0.out,hid (SortB.nil _),nL⟩
 case round=>
  clear HM0;obtain ⟨k,vE,ts,hk,rfl,hm,HSO,htl⟩:=hrel;by_cases hlt:k<L.length
  · obtain ⟨t,ht⟩:∃x,L[k]?=some x:=⟨_,List.getElem?_eq_getElem hlt⟩;have hrow:=HROW.out wr hm.below;obtain ⟨g,rfl,hg,hcap⟩:=hrow.val (by omega);have hat:=hrow.at_ k t ht;obtain ⟨AE,cE,rfl⟩:=Fd.zac hm.rE;have HNX:Hid (∀t1 t2 t3,PutIs (ltOf cmpM) ts (sM t) t1->PutIs (ltOf cmpM) t1 (pM t) t2->PutIs (ltOf cmpM) t2 (oM t) t3->SortB (ltOf cmpM) (flatM (L.take (k+1))) t3):=fun t1 t2 t3 h1 h2 h3=>by
     have h4:=h3.sort swoM (h2.sort swoM (h1.sort swoM HSO.out));rw[zeK L k t ht];simpa using h4
    have HP:=hid fun (X:VTm) (r:List VTm) (v:Value) (W:World) (h:RowM W (S+1) v r) (hl:r.length<=400) (hb:S+1<=W.heap.size)=>zhh r v (S+1) X W h hl hb;have hlS:=hm.lt;have H1:=hid fun W (hb:Below wr.heap.size wr W)=>HP.out (sM t) ts (.slice AE ts.length cE) W (Fd.own_below hm.rE hb) (by omega) (by have:=hb.size;omega);have H2:=hid fun r v W (h:RowM W (S+1) v r) (hl:r.length<=400) (hb:S+1<=W.heap.size)=>HP.out (pM t) r v W h hl hb;have H3:=hid fun r v W (h:RowM W (S+1) v r) (hl:r.length<=400) (hb:S+1<=W.heap.size)=>HP.out (oM t) r v W h hl hb;unfold sM at H1 HNX;unfold pM at H2 HNX;unfold oM at H3 HNX;obtain ⟨⟨⟨k1,x1,e1⟩,⟨k2,x2,e2⟩,⟨k3,x3,e3⟩⟩,htv⟩:=t;unfold encT at H1 H2 H3;simp only at H1 H2 H3;have hsx:∀w',Below wr.heap.size wr w'->(Below wr.heap.size wr w'/\w'.cell? ⟨S,1,none⟩=some (.slice AE ts.length cE)/\w'.frozen? ⟨S,1,none⟩=false/\w'.cell? ⟨g,k*9,none⟩=some (.int .i64 k1)/\w'.cell? ⟨g,k*9+1,none⟩=some (.string (str x1))/\w'.cell? ⟨g,k*9+2,none⟩=some (.string (str e1))/\w'.cell? ⟨g,k*9+3,none⟩=some (.int .i64 k2)/\w'.cell? ⟨g,k*9+4,none⟩=some (.string (str x2))/\w'.cell? ⟨g,k*9+5,none⟩=some (.string (str e2))/\w'.cell? ⟨g,k*9+6,none⟩=some (.int .i64 k3)/\w'.cell? ⟨g,k*9+7,none⟩=some (.string (str x3))/\w'.cell? ⟨g,k*9+8,none⟩=some (.string (str e3))):=fun w' hb=>by
     obtain ⟨⟨a0,a1,a2⟩,⟨a3,a4,a5⟩,⟨a6,a7,a8⟩⟩:=hat;simp only[Nat.add_assoc]at a0 a1 a2 a3 a4 a5 a6 a7 a8;have hst:=hm.step hb;exact ⟨hb,hst.cells.1,hst.cells.2.2.2 1,zaa a0 hb,zaa a1 hb,zaa a2 hb,zaa a3 hb,zaa a4 hb,zaa a5 hb,zaa a6 hb,zaa a7 hb,zaa a8 hb⟩
    have HSX:=hid hsx;have HM:=hid hm;clear hsx hat hm hrow HSO HP ht;have hb1:Below wr.heap.size wr wr.drew:=⟨rfl,rfl,rfl,nL,fun _ _=>rfl⟩;have HB1:=hid hb1;clear hb1;go_wp2_with fail
    refine sA 26 [25] (fun w'=>Below wr.heap.size wr w'/\w'.cell? ⟨S,1,none⟩=some (.slice AE ts.length cE)/\w'.frozen? ⟨S,1,none⟩=false/\w'.cell? ⟨g,k*9,none⟩=some (.int .i64 k1)/\w'.cell? ⟨g,k*9+1,none⟩=some (.string (str x1))/\w'.cell? ⟨g,k*9+2,none⟩=some (.string (str e1))/\w'.cell? ⟨g,k*9+3,none⟩=some (.int .i64 k2)/\w'.cell? ⟨g,k*9+4,none⟩=some (.string (str x2))/\w'.cell? ⟨g,k*9+5,none⟩=some (.string (str e2))/\w'.cell? ⟨g,k*9+6,none⟩=some (.int .i64 k3)/\w'.cell? ⟨g,k*9+7,none⟩=some (.string (str x3))/\w'.cell? ⟨g,k*9+8,none⟩=some (.string (str e3))) ?_ (fun hHeld=>?_)
    · exact HSX.out _ HB1.out
    refine pU 0 ?_;refine pU 1 ?_;refine pU 2 ?_;refine pU 3 ?_;refine tK 4 hHeld ?_;refine pU 5 ?_;refine pU 6 ?_;refine pU 7 ?_;refine pU 8 ?_;refine tK 9 hHeld ?_;refine pU 11 ?_;refine pU 12 ?_;refine pU 13 ?_;refine pU 14 ?_;refine tK 15 hHeld ?_;refine pU 17 ?_;refine pU 18 ?_;refine pU 19 ?_;refine pU 20 ?_;refine tK 21 hHeld ?_;refine oN 10 (fun K hK=>?_);refine cL func67 #[.slice AE ts.length cE,.agg #[.int .i64 k1,.string (str x1),.string (str e1)]] ?_;refine (H1.out _ HB1.out).mono ?_;rintro e w2 ⟨v1,r1,rfl,hp1,hr1,hb2⟩;refine ⟨_,rfl,?_⟩;have HB2:=hid (HB1.out.trans (hb2.mono HB1.out.size));have HPA:=hid hp1;have HR1:=hid hr1;have hl1:=hp1.len;obtain ⟨A1,c1,rfl⟩:=Fd.zac hr1;clear hb2 hp1 hr1 H1;refine oU hK (HSX.out _ HB2.out) (fun hHeld=>?_);clear hK K;refine oN 16 (fun K hK=>?_);refine cL func67 #[.slice A1 r1.length c1,.agg #[.int .i64 k2,.string (str x2),.string (str e2)]] ?_;refine (H2.out _ _ _ HR1.out (by omega) (by have:=HB2.out.size;omega)).mono ?_;rintro e w3 ⟨v2,r2,rfl,hp2,hr2,hb3⟩;refine ⟨_,rfl,?_⟩;have HB3:=hid (HB2.out.trans (hb3.mono HB2.out.size));have HPB:=hid hp2;have HR2:=hid hr2;have hl2:=hp2.len;obtain ⟨A2,c2,rfl⟩:=Fd.zac hr2;clear hb3 hp2 hr2 H2 HR1;refine oU hK (HSX.out _ HB3.out) (fun hHeld=>?_);clear hK K;refine oN 22 (fun K hK=>?_);refine cL func67 #[.slice A2 r2.length c2,.agg #[.int .i64 k3,.string (str x3),.string (str e3)]] ?_;refine (H3.out _ _ _ HR2.out (by omega) (by have:=HB3.out.size;omega)).mono ?_;rintro e w4 ⟨v3,r3,rfl,hp3,hr3,hb4⟩;refine ⟨_,rfl,?_⟩;have HB4:=hid (HB3.out.trans (hb4.mono HB3.out.size));have HPC:=hid hp3;have HR3:=hid hr3;have hl3:=hp3.len;obtain ⟨A3,c3,rfl⟩:=Fd.zac hr3;clear hb4 hp3 hr3 H3 HR2;refine oU hK (HSX.out _ HB4.out) (fun hHeld=>?_);clear hK K;refine pU 23 ?_;refine pU 24 ?_;refine lA 25 (fun K hK=>?_);refine skip_ (w1:=?_) (by rfl) rfl ?_ ?_;rotate_left
    · obtain ⟨hbS,s1,sf,q0,q1,q2,q3,q4,q5,q6,q7,q8⟩:=hHeld;go_simp;rfl
    refine hK.out _ _ ?_;clear hK K;refine done_ (by kernel_rfl) ?_;have HMN:=hid ((HM.out.step HB4.out).setE HR3.out);have HSN:=hid (HNX.out r1 r2 r3 HPA.out HPB.out HPC.out);clear HM HSX HNX HPA HPB HPC hHeld HR3;go_wp2;go_roundw
    case rel=>exact ⟨k+1,_,r3,by omega,by go_num,HMN.out,HSN,by omega⟩
    case measure=>simp[RowKit.intOf];omega
  · obtain rfl:k=L.length:=(by omega);have hterms:TermsOf L ts:=by
     have h:=HSO.out;rw[List.take_length]at h;exact h
    have SP:Hid (StP L ts):=⟨HR.out,hl,hterms⟩;have htl2:=SP.out.tlen;obtain ⟨AE,cE,rfl⟩:=Fd.zac hm.rE;have HM0:Hid (OSt w wr S (.slice A L.length c) (.slice AE ts.length cE) (.slice none 0 0) (.slice none 0 0) ts (tsS (ts.take 0)) ((L.map (idsOf ts)).take 0)):=hm;clear hm HSO hterms htl;obtain ⟨i9,hi9,hz90,hz91,hz92⟩:=info_parts Fd.info9;go_wp2;go_loopw [5] (fun v5 wr=>∃(k:Nat) (vS:Value),k<=ts.length/\v5=.int .i64 k/\OSt w wr S (.slice A L.length c) (.slice AE ts.length cE) vS (.slice none 0 0) ts (tsS (ts.take k)) ((L.map (idsOf ts)).take 0)) (fun v5 _=>ts.length-(RowKit.intOf v5).toNat)
    case atStart=>exact ⟨0,_,Nat.zero_le _,rfl,HM0.out⟩
    case round=>
     clear HM0;obtain ⟨k,vS,hk,rfl,hm⟩:=hrel;obtain ⟨s1',s2',_,hsf'⟩:=hm.cells;by_cases hlt:k<ts.length
     · obtain ⟨X,hX⟩:∃x,ts[k]?=some x:=⟨_,List.getElem?_eq_getElem hlt⟩;obtain ⟨g,cap,he,hBg,hgl,hcap⟩:=RowM.val hm.rE (by omega);cases he
       have hat:=RowM.at_ hm.rE k X hX;have htk:tsS (ts.take (k+1))=tsS (ts.take k)++[str (shw X.1)]:=by
        unfold tsS;rw[List.take_add_one,hX,List.map_append];rfl
       have hkl:(tsS (ts.take k)).length=k:=(by rw[zaN,List.length_take];omega);obtain ⟨AS,cS,rfl⟩:=Fd.zac hm.rS;rw[hkl]at s2';have HSH:=hid fun W=>zdD X.1 X.sml W;have hne:=Fd.own_ne hm.rE hm.rS (by decide);have hSb:∀j,(Value.slice AS (tsS (ts.take k)).length cS).ownBlock=some j->S+1<=j:=fun j hj=>(hm.rS.lt j hj).1;rw[hkl]at hne hSb;have hgS:∀j,(Value.slice AS k cS).ownBlock=some j->j≠g:=fun j hj e=>by
        rcases hne with h | h
        · cases h
        · exact h (by rw[hj,e];rfl)
       obtain ⟨⟨k1,x1,e1⟩,hxv⟩:=X;unfold encT at HSH;simp only at HSH;have hlS:=hm.lt;have hf2:=hsf' 2;obtain ⟨a0,a1,a2⟩:=hat
       have KB:Hid (∀w',Below wr.heap.size wr w'->w'.cell? ⟨S,1,none⟩=some (.slice (some ⟨g,0,none⟩) ts.length cE)/\w'.cell? ⟨S,2,none⟩=some (.slice AS k cS)/\w'.frozen? ⟨S,2,none⟩=false/\w'.cell? ⟨g,k*3,none⟩=some (.int .i64 k1)/\w'.cell? ⟨g,k*3+1,none⟩=some (.string (str x1))/\w'.cell? ⟨g,k*3+2,none⟩=some (.string (str e1))):=fun w' hb=>
        ⟨zaa s1' hb,zaa s2' hb,(hb.frozen (p:=⟨S,2,none⟩) hlS).trans hf2,zaa a0 hb,zaa a1 hb,zaa a2 hb⟩
       have KP:Hid (∀W w',Below wr.heap.size wr W->W.grownBy w' (Value.slice AS k cS).ownBlock->w'.cell? ⟨S,1,none⟩=some (.slice (some ⟨g,0,none⟩) ts.length cE)/\w'.cell? ⟨S,2,none⟩=some (.slice AS k cS)/\w'.frozen? ⟨S,2,none⟩=false/\w'.cell? ⟨g,k*3,none⟩=some (.int .i64 k1)/\w'.cell? ⟨g,k*3+1,none⟩=some (.string (str x1))/\w'.cell? ⟨g,k*3+2,none⟩=some (.string (str e1))):=fun W w' hW hg=>by
        obtain ⟨b0,b1,b2,b3,b4,b5⟩:=KB.out W hW;have hs:=hW.size;have far:∀(p:Addr) (u:Value),p.block=S\/p.block=g->W.cell? p=some u->w'.cell? p=some u:=fun p u hp hu=>by
         rw[hg.cell_far p (by rcases hp with hp | hp<;>rw[hp]<;>omega) (fun e=>by
          have h1:=hSb _ e.symm;have h2:=hgS _ e.symm;rcases hp with hp | hp
          · omega
          · exact h2 hp)]
         exact hu
        refine ⟨far _ _ (.inl rfl) b0,far _ _ (.inl rfl) b1,?_,far _ _ (.inr rfl) b3,far _ _ (.inr rfl) b4,far _ _ (.inr rfl) b5⟩;rw[hg.frozen_far _ (by show S<_;omega) (fun e=>by have:=hSb _ e.symm;simp only at this;omega)];exact b2
       have HM:=hid hm;have HTK:=hid htk;have HKL:=hid hkl;clear hm hne hSb hgS s2' hsf' a0 a1 a2 hX htk hkl hf2;have HB1:Hid (Below wr.heap.size wr wr.drew):=⟨rfl,rfl,rfl,nL,fun _ _=>rfl⟩;go_wp2_with fail
       clear s1';refine sA 18 [17] (fun w'=>w'.cell? ⟨S,1,none⟩=some (.slice (some ⟨g,0,none⟩) ts.length cE)/\w'.cell? ⟨S,2,none⟩=some (.slice AS k cS)/\w'.frozen? ⟨S,2,none⟩=false/\w'.cell? ⟨g,k*3,none⟩=some (.int .i64 k1)/\w'.cell? ⟨g,k*3+1,none⟩=some (.string (str x1))/\w'.cell? ⟨g,k*3+2,none⟩=some (.string (str e1))) ?_ (fun hHeld=>?_)
       · exact KB.out _ HB1.out
       refine pU 0 ?_;refine pU 1 ?_;refine pU 2 ?_;refine pU 3 ?_;refine tK 4 hHeld ?_;refine pU 5 ?_;refine pU 6 ?_;refine pU 7 ?_;refine tK 8 hHeld ?_;refine pU 9 ?_;refine pU 10 ?_;refine tK 11 hHeld ?_;refine oN 12 (fun K hK=>?_);refine cL func45 #[.agg #[.int .i64 k1,.string (str x1),.string (str e1)]] ?_;refine (HSH.out _).mono ?_;rintro e w2 ⟨rfl,hb2⟩;refine ⟨_,rfl,?_⟩;have HB2:=hid (HB1.out.trans (hb2.mono HB1.out.size));clear hb2;refine oU hK (KB.out _ HB2.out) (fun hHeld=>?_);clear hK K;generalize str (shw ⟨k1,x1,e1⟩)=sx at HTK ⊢;refine oN 13 (fun K hK=>?_);refine vA (.slice (some ⟨w2.heap.size,0,none⟩) 1 1) (w2.alloc (.cells #[.string sx] 9)) ?_;have HB3:=hid (HB2.out.alloc HB2.out.size (.cells #[.string sx] 9));have HM3:=hid (HM.out.step HB3.out);refine oU hK (KB.out _ HB3.out) (fun hHeld=>?_);clear hK K;refine oN 14 (fun K hK=>?_);refine zaX (by rfl) _ _ 38 (by rfl) (S+1) 9 i9 _ 1 16 underlying38 hi9 hz90 hz91 hz92 rfl (by omega) (.slice AS k cS) k (Fd.sts (tsS (ts.take k))) (by rfl) (by have:=HM3.out.rS;rw[HKL.out]at this;exact this) (some ⟨w2.heap.size,0,none⟩) 1 1 [.string sx] (by rfl) ⟨rfl,fun _=>⟨_,rfl,World.news_of_block (heap_alloc_new w2 _)⟩⟩ (by simp[Value.oneCell']) (by unfold maxLen;omega) (by omega) (by have:=HB3.out.size;omega) ?_;intro vS2 w4 hown hgr;have hbm:=KP.out _ _ HB3.out hgr;have HMN:Hid (OSt w (w4.setCell ⟨S,2,none⟩ vS2) S (.slice A L.length c) (.slice (some ⟨g,0,none⟩) ts.length cE) vS2 (.slice none 0 0) ts (tsS (ts.take (k+1))) ((L.map (idsOf ts)).take 0)):=by
        have hm3:=HM3.out;rw[HTK.out];refine hm3.putS (by rw[HKL.out];exact hgr) ?_;have e1:(tsS (ts.take k)++[sx]).length=k+1:=(by rw[List.length_append,HKL.out];rfl);have e2:Fd.sts (tsS (ts.take k)++[sx])=Fd.sts (tsS (ts.take k))++[.string sx]:=(by unfold Fd.sts;simp);rw[e1,e2];exact hown
       obtain ⟨AS2,cS2,rfl⟩:=Fd.zac hown;clear hown hgr HM3;refine oU hK hbm (fun hHeld=>?_);clear hK K;refine pU 15 ?_;refine pU 16 ?_;refine lA 17 (fun K hK=>?_);refine skip_ (w1:=?_) (by rfl) rfl ?_ ?_;rotate_left
       · obtain ⟨s1,s2,sf,q0,q1,q2⟩:=hHeld;go_simp;rfl
       refine hK.out _ _ ?_;clear hK K;refine done_ (by kernel_rfl) ?_;clear hHeld hbm KB KP HM HTK HKL;go_wp2;go_roundw
       case rel=>exact ⟨k+1,_,by omega,by go_num,HMN.out⟩
       case measure=>simp[RowKit.intOf];omega
     · obtain rfl:k=ts.length:=(by omega);have HM0:Hid (OSt w wr S (.slice A L.length c) (.slice AE ts.length cE) vS (.slice none 0 0) ts (tsS ts) ((L.map (idsOf ts)).take 0)):=by
        have h:=hm;rw[List.take_length]at h;exact h
       clear hm hsf';obtain ⟨s1',s2',s3',_⟩:=HM0.out.cells;obtain ⟨AS,cS,rfl⟩:=Fd.zac HM0.out.rS;obtain ⟨j0,hj,hj0,hj1,hj2⟩:=zbw;go_wp2;clear s1' s2' s3';go_loopw [6] (fun v6 wr=>∃(k:Nat) (vI:Value),k<=L.length/\v6=.int .i64 k/\OSt w wr S (.slice A L.length c) (.slice AE ts.length cE) (.slice AS (tsS ts).length cS) vI ts (tsS ts) ((L.map (idsOf ts)).take k)) (fun v6 _=>L.length-(RowKit.intOf v6).toNat)
       case atStart=>exact ⟨0,_,Nat.zero_le _,rfl,HM0.out⟩
       case round=>
        clear HM0;obtain ⟨k,vI,hk,rfl,hm⟩:=hrel;by_cases hlt:k<L.length
        · obtain ⟨t,ht⟩:∃x,L[k]?=some x:=⟨_,List.getElem?_eq_getElem hlt⟩;have htm:t∈L:=List.mem_of_getElem? ht;have hrow:=HROW.out wr hm.below;have hrow0:=HROW.out w br;obtain ⟨g,rfl,hg,hcap⟩:=hrow.val (by omega);obtain ⟨g',he',hg',_⟩:=hrow0.val (by omega);cases he'
          have hat:=hrow.at_ k t ht;have hkl:((L.map (idsOf ts)).take k).length=k:=(by rw[List.length_take,List.length_map];omega);obtain ⟨s1',_,s3',hsf'⟩:=hm.cells;obtain ⟨AI,cI,rfl⟩:=Fd.zac hm.rI;rw[hkl]at s3';have hSb:∀j,(Value.slice AI k cI).ownBlock=some j->S+1<=j:=fun j hj=>(hm.rI.lt j (by rw[hkl];exact hj)).1;have hgeS:=hm.ge;have hlS:=hm.lt;have hf3:=hsf' 3;have htk:(L.map (idsOf ts)).take (k+1)=(L.map (idsOf ts)).take k++[idsOf ts t]:=by
           rw[List.take_add_one,List.getElem?_map,ht];rfl
          have ns:=SP.out.s htm;have np:=SP.out.p htm;have no:=SP.out.o htm
          have ID:∀x:VTm,x∈ts->∀W,Below wr.heap.size wr W->Calls prog 68 #[.pointer (some ⟨S,0,none⟩),.agg (encT x.1).toArray] W fun e w'=>e=.returned (.int .i64 (noOf ts x:Nat))/\Below W.heap.size W w':=fun x hx W hW=>
           zjh ts SP.out.terms.1 (by have:=SP.out.tlen;omega) x hx S (S+1) (.slice AE ts.length cE) W (Fd.own_below hm.rE hW) (zaa s1' hW)
          have I1:=hid fun W hW=>ID (sM t) ns W hW;have I2:=hid fun W hW=>ID (pM t) np W hW;have I3:=hid fun W hW=>ID (oM t) no W hW;have hidv:idsOf ts t=⟨(noOf ts (sM t):Nat),(noOf ts (pM t):Nat),(noOf ts (oM t):Nat)⟩:=rfl;rw[hidv]at htk;generalize noOf ts (sM t)=m1 at I1 htk;generalize noOf ts (pM t)=m2 at I2 htk;generalize noOf ts (oM t)=m3 at I3 htk;unfold sM at I1;unfold pM at I2;unfold oM at I3;clear hidv ns np no ID htm hsf';obtain ⟨⟨⟨k1,x1,e1⟩,⟨k2,x2,e2⟩,⟨k3,x3,e3⟩⟩,htv⟩:=t;unfold encT at I1 I2 I3;simp only at I1 I2 I3;obtain ⟨⟨a0,a1,a2⟩,⟨a3,a4,a5⟩,⟨a6,a7,a8⟩⟩:=hat;simp only[Nat.add_assoc]at a0 a1 a2 a3 a4 a5 a6 a7 a8
          have KB:Hid (∀w',Below wr.heap.size wr w'->w'.cell? ⟨S,1,none⟩=some (.slice AE ts.length cE)/\w'.cell? ⟨S,3,none⟩=some (.slice AI k cI)/\w'.frozen? ⟨S,3,none⟩=false/\w'.cell? ⟨g,k*9,none⟩=some (.int .i64 k1)/\w'.cell? ⟨g,k*9+1,none⟩=some (.string (str x1))/\w'.cell? ⟨g,k*9+2,none⟩=some (.string (str e1))/\w'.cell? ⟨g,k*9+3,none⟩=some (.int .i64 k2)/\w'.cell? ⟨g,k*9+4,none⟩=some (.string (str x2))/\w'.cell? ⟨g,k*9+5,none⟩=some (.string (str e2))/\w'.cell? ⟨g,k*9+6,none⟩=some (.int .i64 k3)/\w'.cell? ⟨g,k*9+7,none⟩=some (.string (str x3))/\w'.cell? ⟨g,k*9+8,none⟩=some (.string (str e3))):=fun w' hb=>
           ⟨zaa s1' hb,zaa s3' hb,(hb.frozen (p:=⟨S,3,none⟩) hlS).trans hf3,zaa a0 hb,zaa a1 hb,zaa a2 hb,zaa a3 hb,zaa a4 hb,zaa a5 hb,zaa a6 hb,zaa a7 hb,zaa a8 hb⟩
          have KP:Hid (∀W w',Below wr.heap.size wr W->W.grownBy w' (Value.slice AI k cI).ownBlock->w'.cell? ⟨S,1,none⟩=some (.slice AE ts.length cE)/\w'.cell? ⟨S,3,none⟩=some (.slice AI k cI)/\w'.frozen? ⟨S,3,none⟩=false/\w'.cell? ⟨g,k*9,none⟩=some (.int .i64 k1)/\w'.cell? ⟨g,k*9+1,none⟩=some (.string (str x1))/\w'.cell? ⟨g,k*9+2,none⟩=some (.string (str e1))/\w'.cell? ⟨g,k*9+3,none⟩=some (.int .i64 k2)/\w'.cell? ⟨g,k*9+4,none⟩=some (.string (str x2))/\w'.cell? ⟨g,k*9+5,none⟩=some (.string (str e2))/\w'.cell? ⟨g,k*9+6,none⟩=some (.int .i64 k3)/\w'.cell? ⟨g,k*9+7,none⟩=some (.string (str x3))/\w'.cell? ⟨g,k*9+8,none⟩=some (.string (str e3))):=fun W w' hW hgr=>by
           obtain ⟨b0,b1,b2,b3,b4,b5,b6,b7,b8,b9,b10,b11⟩:=KB.out W hW;have hs:=hW.size;have far:∀(p:Addr) (u:Value),p.block=S\/p.block=g->W.cell? p=some u->w'.cell? p=some u:=fun p u hp hu=>by
            rw[hgr.cell_far p (by rcases hp with hp | hp<;>rw[hp]<;>omega) (fun e=>by
             have h1:=hSb _ e.symm;rcases hp with hp | hp<;>omega)]
            exact hu
           refine ⟨far _ _ (.inl rfl) b0,far _ _ (.inl rfl) b1,?_,far _ _ (.inr rfl) b3,far _ _ (.inr rfl) b4,far _ _ (.inr rfl) b5,far _ _ (.inr rfl) b6,far _ _ (.inr rfl) b7,far _ _ (.inr rfl) b8,far _ _ (.inr rfl) b9,far _ _ (.inr rfl) b10,far _ _ (.inr rfl) b11⟩;rw[hgr.frozen_far _ (by show S<_;omega) (fun e=>by have:=hSb _ e.symm;simp only at this;omega)];exact b2
          have HM:=hid hm;have HTK:=hid htk;have HKL:=hid hkl;clear hm hrow hrow0 hSb s1' s3' a0 a1 a2 a3 a4 a5 a6 a7 a8 ht htk hkl hf3 hg' hgeS;have HB1:Hid (Below wr.heap.size wr wr.drew):=⟨rfl,rfl,rfl,nL,fun _ _=>rfl⟩;go_wp2_with fail
          refine sA 32 [31] (fun w'=>w'.cell? ⟨S,1,none⟩=some (.slice AE ts.length cE)/\w'.cell? ⟨S,3,none⟩=some (.slice AI k cI)/\w'.frozen? ⟨S,3,none⟩=false/\w'.cell? ⟨g,k*9,none⟩=some (.int .i64 k1)/\w'.cell? ⟨g,k*9+1,none⟩=some (.string (str x1))/\w'.cell? ⟨g,k*9+2,none⟩=some (.string (str e1))/\w'.cell? ⟨g,k*9+3,none⟩=some (.int .i64 k2)/\w'.cell? ⟨g,k*9+4,none⟩=some (.string (str x2))/\w'.cell? ⟨g,k*9+5,none⟩=some (.string (str e2))/\w'.cell? ⟨g,k*9+6,none⟩=some (.int .i64 k3)/\w'.cell? ⟨g,k*9+7,none⟩=some (.string (str x3))/\w'.cell? ⟨g,k*9+8,none⟩=some (.string (str e3))) ?_ (fun hHeld=>?_)
          · exact KB.out _ HB1.out
          refine pU 0 ?_;refine pU 1 ?_;refine pU 2 ?_;refine pU 3 ?_;refine tK 4 hHeld ?_;refine pU 5 ?_;refine pU 6 ?_;refine pU 7 ?_;refine pU 8 ?_;refine pU 9 ?_;refine tK 10 hHeld ?_;refine pU 12 ?_;refine pU 13 ?_;refine pU 14 ?_;refine pU 15 ?_;refine pU 16 ?_;refine tK 17 hHeld ?_;refine pU 19 ?_;refine pU 20 ?_;refine pU 21 ?_;refine pU 22 ?_;refine pU 23 ?_;refine tK 24 hHeld ?_;refine oN 11 (fun K hK=>?_);refine cL func68 #[.pointer (some ⟨S,0,none⟩),.agg #[.int .i64 k1,.string (str x1),.string (str e1)]] ?_;refine (I1.out _ HB1.out).mono ?_;rintro e w2 ⟨rfl,hbx⟩;refine ⟨_,rfl,?_⟩;have HB2:=hid (HB1.out.trans (hbx.mono HB1.out.size));clear hbx I1;refine oU hK (KB.out _ HB2.out) (fun hHeld=>?_);clear hK K;refine oN 18 (fun K hK=>?_);refine cL func68 #[.pointer (some ⟨S,0,none⟩),.agg #[.int .i64 k2,.string (str x2),.string (str e2)]] ?_;refine (I2.out _ HB2.out).mono ?_;rintro e w3 ⟨rfl,hbx⟩;refine ⟨_,rfl,?_⟩;have HB3:=hid (HB2.out.trans (hbx.mono HB2.out.size));clear hbx I2;refine oU hK (KB.out _ HB3.out) (fun hHeld=>?_);clear hK K;refine oN 25 (fun K hK=>?_);refine cL func68 #[.pointer (some ⟨S,0,none⟩),.agg #[.int .i64 k3,.string (str x3),.string (str e3)]] ?_;refine (I3.out _ HB3.out).mono ?_;rintro e w4 ⟨rfl,hbx⟩;refine ⟨_,rfl,?_⟩;have HB4:=hid (HB3.out.trans (hbx.mono HB3.out.size));clear hbx I3;refine oU hK (KB.out _ HB4.out) (fun hHeld=>?_);clear hK K;refine pU 26 ?_;refine oN 27 (fun K hK=>?_);refine vA (.slice (some ⟨w4.heap.size,0,none⟩) 1 1) (w4.alloc (.cells #[.int .i64 (m1:Nat),.int .i64 (m2:Nat),.int .i64 (m3:Nat)] 103)) ?_;have HB5:=hid (HB4.out.alloc HB4.out.size (.cells #[.int .i64 (m1:Nat),.int .i64 (m2:Nat),.int .i64 (m3:Nat)] 103));have HM5:=hid (HM.out.step HB5.out);refine oU hK (KB.out _ HB5.out) (fun hHeld=>?_);clear hK K;refine oN 28 (fun K hK=>?_);refine zaX (by rfl) _ _ 39 (by rfl) (S+1) 103 j0 _ 3 24 underlying39 hj hj0 hj1 hj2 rfl (by omega) (.slice AI k cI) k (((L.map (idsOf ts)).take k).flatMap encI) (by rfl) (by have:=HM5.out.rI;rw[HKL.out]at this;exact this) (some ⟨w4.heap.size,0,none⟩) 1 1 [.int .i64 (m1:Nat),.int .i64 (m2:Nat),.int .i64 (m3:Nat)] (by rfl) ⟨rfl,fun _=>⟨_,rfl,World.news_of_block (heap_alloc_new w4 _)⟩⟩ (by simp[Value.oneCell']) (by unfold maxLen;omega) (by omega) (by have:=HB5.out.size;omega) ?_;intro vI2 w6 hown hgr;have hbm:=KP.out _ _ HB5.out hgr;have HMN:Hid (OSt w (w6.setCell ⟨S,3,none⟩ vI2) S (.slice (some ⟨g,0,none⟩) L.length c) (.slice AE ts.length cE) (.slice AS (tsS ts).length cS) vI2 ts (tsS ts) ((L.map (idsOf ts)).take (k+1))):=by
           have hm5:=HM5.out;rw[HTK.out];refine hm5.putI (by rw[HKL.out];exact hgr) ?_;have e1:((L.map (idsOf ts)).take k++[(⟨(m1:Nat),(m2:Nat),(m3:Nat)⟩:Ids)]).length=k+1:=(by rw[List.length_append,HKL.out];rfl);have e2:((L.map (idsOf ts)).take k++[(⟨(m1:Nat),(m2:Nat),(m3:Nat)⟩:Ids)]).flatMap encI=((L.map (idsOf ts)).take k).flatMap encI++[.int .i64 (m1:Nat),.int .i64 (m2:Nat),.int .i64 (m3:Nat)]:=(by rw[List.flatMap_append];rfl);rw[e1,e2];exact hown
          obtain ⟨AI2,cI2,rfl⟩:=Fd.zac hown;clear hown hgr HM5;refine oU hK hbm (fun hHeld=>?_);clear hK K;refine pU 29 ?_;refine pU 30 ?_;refine lA 31 (fun K hK=>?_);refine skip_ (w1:=?_) (by rfl) rfl ?_ ?_;rotate_left
          · obtain ⟨s1,s3,sf,q0,q1,q2,q3,q4,q5,q6,q7,q8⟩:=hHeld;go_simp;rfl
          refine hK.out _ _ ?_;clear hK K;refine done_ (by kernel_rfl) ?_;clear hHeld hbm KB KP HM HTK HKL;go_wp2;go_roundw
          case rel=>exact ⟨k+1,_,by omega,by go_num,HMN.out⟩
          case measure=>simp[RowKit.intOf];omega
        · obtain rfl:k=L.length:=(by omega);have HF:Hid (RefIs wr S (.slice A L.length c) L ts):=by
           have hI:=hm.rI;rw[List.take_of_length_le (by simp),List.length_map]at hI;have hS:=hm.rS;rw[zaN]at hS;have hb:=hm.blk;rw[zaN]at hb;exact ⟨⟨_,_,_,hb,zam hm.rE (Nat.zero_le _),zam hS (Nat.zero_le _),zam hI (Nat.zero_le _)⟩,HROW.out wr hm.below,SP.out⟩
          have HB:=hid hm.below;clear hm;go_wp2;go_ret;exact ⟨S,ts,rfl,HF.out,HB.out⟩
end Go.Proofs.YtaeiifngjglchaaGreatDoor
end
section
namespace Go.Proofs.YtaeiifngjglchaaGreatDoor
open Go.Proofs.Tryz
open Go.RowKit Go.Lib Tv Go.Sort
def LoadAns (w:World) (s:Bs) (e:Ending) (w':World):Prop:=
 ((∃(A r:List VTri) (n:Nat) (S:Nat) (v:Value) (ts:List VTm),parV false s=.ok (A.map Subtype.val,n)/\SortOf A r/\StoreIs w' S v r ts/\e=.returned (.tuple #[.pointer (some ⟨S,0,none⟩),.int .i64 n,.int .i64 0]))\/(∃n k:Nat,parV false s=.error (n,k)/\e=.returned (.tuple #[.pointer none,.int .i64 n,.int .i64 k])))/\Below w.heap.size w w'
theorem zbE:∀(f:Nat) (s:Bs) (acc:List Tri) (n a b:Nat),parGo false f s acc n=.error (a,b)->b=2\/b=3
 | 0,_,_,_,_,_,h=>by cases h
 | f+1,s,acc,n,a,b,h=>by
  unfold parGo at h;split at h
  · cases h
  · split at h
    · cases h;exact .inr rfl
    · split at h
      · cases h;exact .inl rfl
      · exact zbE f _ _ _ _ _ h
      · split at h
        · exact zbE f _ _ _ _ _ h
        · split at h
          · cases h;exact .inr rfl
          · exact zbE f _ _ _ _ _ h
theorem zdJ {s:Bs} {n k:Nat} (h:parV false s=.error (n,k)):k≠0:=by
 unfold parV at h;split at h
 · cases h;decide
 · rcases zbE _ _ _ _ _ _ h with rfl | rfl<;>decide
theorem zeD (s:Bs) (w:World) (h4:4<=w.heap.size) (ht:Lay w):Calls prog 7 #[.string (str s)] w (LoadAns w s):=by
 have HP:=hid (zdH s w h4 ht);clear ht;go_enter func7,ntmps7
 go_wp2_with fail
 refine HP.out.mono ?_;rintro e w1 ⟨⟨A,r,n,v,hok,hl,hso,rfl,hrow⟩ | ⟨n,k,her,rfl⟩,hb1⟩
 · have HB1:=hid hb1;have HOK:=hid hok;have HSO:=hid hso;have hrl:=SortOf.len hso;have HM:=hid (zeC r v w1 (zam hrow (Nat.zero_le _)) hso.1 (by omega));clear hb1 hok hso hrow HP;go_wp2_with fail
   refine HM.out.mono ?_;rintro e w2 ⟨S,ts,rfl,hst,hb2⟩;have HST:=hid hst;have HB2:=hid (HB1.out.trans (hb2.mono HB1.out.size));clear hst hb2 HM;go_wp2;go_ret3;exact ⟨.inl ⟨A,r,n,S,v,ts,HOK.out,HSO.out,HST.out,rfl⟩,HB2.out⟩
 · have HB1:=hid hb1;have HER:=hid her;have hk:((k:Int) != 0)=true:=by
    have:=zdJ her;rw[bne_iff_ne];omega
   clear her hb1 HP;go_wp2;go_ret3;exact ⟨.inr ⟨n,k,HER.out,rfl⟩,HB1.out⟩
theorem zkz:triT knownT=true:=by decide +kernel
def knownV:VTri:=⟨knownT,zkz⟩
theorem zjb {A r:List VTri} (hA:A.map Subtype.val=[knownT]) (h:SortOf A r):r=[knownV]:=by
 obtain rfl:A=[knownV]:=zb4 (by rw[hA];rfl);exact h.one ⟨List.pairwise_singleton _ _,fun _=>Iff.rfl⟩
def knownTs:List VTm:=[sM knownV,pM knownV,oM knownV]
theorem zjc:Rise (ltOf cmpM) knownTs:=by
 have h1:ltOf cmpM (sM knownV) (pM knownV)=true:=(by decide +kernel);have h2:ltOf cmpM (sM knownV) (oM knownV)=true:=(by decide +kernel);have h3:ltOf cmpM (pM knownV) (oM knownV)=true:=(by decide +kernel);unfold Rise knownTs;simp[h1,h2,h3]
theorem zhx {ts:List VTm} (h:TermsOf [knownV] ts):ts=knownTs:=h.one ⟨zjc,fun _=>Iff.rfl⟩
theorem zhy (w:World) (h4:4<=w.heap.size) (ht:Lay w):Calls prog 8 #[] w fun e w'=>e=.returned (.bool true)/\Below w.heap.size w w':=by
 have hk:str knownS=(⟨#[60,97,62,32,60,98,62,32,60,99,62,32,46,10]⟩:ByteArray):=rfl;have hld:=zeD knownS w h4 ht;rw[hk]at hld;have HLD:=hid hld;clear hld ht hk;go_enter func8,ntmps8
 go_wp2_with fail
 refine HLD.out.mono ?_;rintro e w1 ⟨⟨A,r,n,S,v,ts,hok,hso,hst,rfl⟩ | ⟨n,k,her,rfl⟩,hb1⟩
 · rw[zeG]at hok;injection hok with hok;injection hok with h1 h2;subst h2;obtain rfl:=zjb h1.symm hso;obtain rfl:=zhx hst.ok.terms;have HLEN:=hid (len_of S v [knownV] knownTs w1 hst);have HST:=hid hst;have HB1:=hid hb1;clear h1 hso hst hb1 HLD;go_wp2_with fail
   refine HLEN.out.mono ?_;rintro e w2 ⟨rfl,hb2⟩;have HB2:=hid (HB1.out.trans (hb2.mono HB1.out.size));have HTE:=hid (zlC S v [knownV] knownTs w2 (HST.out.below hb2));clear hb2 HLEN HB1 HST;rw[show ([knownV].length:Int)=1 from rfl];go_wp2_with fail
   refine HTE.out.mono ?_;rintro e w3 ⟨v3,rfl,hrow,hb3⟩;obtain ⟨A3,c3,rfl⟩:=Fd.zac hrow;have HB3:=hid (HB2.out.trans (hb3.mono HB2.out.size));rw[show knownTs.length=3 from rfl];clear hrow hb3 HTE HB2;go_wp2;go_ret;exact ⟨rfl,HB3.out⟩
 · rw[zeG]at her;cases her
def LoadAns5 (w:World) (s:Bs) (e:Ending) (w':World):Prop:=
 ((∃(A r:List VTri) (n:Nat) (S:Nat) (v:Value) (ts:List VTm),parV false s=.ok (A.map Subtype.val,n)/\SortOf A r/\RefIs w' S v r ts/\e=.returned (.tuple #[.pointer (some ⟨S,0,none⟩),.int .i64 n,.int .i64 0]))\/(∃n k:Nat,parV false s=.error (n,k)/\e=.returned (.tuple #[.pointer none,.int .i64 n,.int .i64 k])))/\Below w.heap.size w w'
theorem zgf (s:Bs) (w:World) (h4:4<=w.heap.size) (ht:Lay w):Calls prog 6 #[.string (str s)] w (LoadAns5 w s):=by
 have HP:=hid (zf4 s w h4 ht);clear ht;go_enter func6,ntmps6
 go_wp2_with fail
 refine HP.out.mono ?_;rintro e w1 ⟨⟨A,r,n,v,hok,hl,hso,rfl,hrow⟩ | ⟨n,k,her,rfl⟩,hb1⟩
 · have HB1:=hid hb1;have HOK:=hid hok;have HSO:=hid hso;have hrl:=SortOf.len hso;have HM:=hid (zi6 r v w1 (zam hrow (Nat.zero_le _)) hso.1 (by omega));clear hb1 hok hso hrow HP;go_wp2_with fail
   refine HM.out.mono ?_;rintro e w2 ⟨S,ts,rfl,hst,hb2⟩;have HST:=hid hst;have HB2:=hid (HB1.out.trans (hb2.mono HB1.out.size));clear hst hb2 HM;go_wp2;go_ret3;exact ⟨.inl ⟨A,r,n,S,v,ts,HOK.out,HSO.out,HST.out,rfl⟩,HB2.out⟩
 · have HB1:=hid hb1;have HER:=hid her;have hk:((k:Int) != 0)=true:=by
    have:=zdJ her;rw[bne_iff_ne];omega
   clear her hb1 HP;go_wp2;go_ret3;exact ⟨.inr ⟨n,k,HER.out,rfl⟩,HB1.out⟩
theorem zkS {L L':List VTri} {ts ts':List VTm} (h:StP L ts) (h':StP L' ts') (e:fileN ts L=fileN ts' L'):L=L':=by
 have hb:secN ts L=secN ts' L':=h.bx.uniq (e ▸ h'.bx);unfold secN at hb;injection hb with h1 h2;injection h2 with h2 _;injection h1 with _ h1;injection h2 with _ h2;have hd:tsS ts=tsS ts':=h.rd.uniq (by rw[h1];exact h'.rd);obtain ⟨p0,p1,q,hq⟩:∃p0 p1 q,p0::p1::q=bodyN ts L:=⟨_,_,_,rfl⟩;obtain ⟨n1,q1⟩:=ziD h hq;obtain ⟨n2,q2⟩:=ziD h' (hq.trans h2);have hlen:L.length=L'.length:=n1.symm.trans n2;have hts:ts.length=ts'.length:=by
  have:=congrArg List.length hd;rwa[zaN,zaN]at this
 have k1:Pk.PkIs (natB q) (L.length*3) (Lib.bitLen ts.length) (rowN ts L):=by
  rw[q1,zdK _ (fun x hx=>Pk.pk_lt _ _ _ x hx:∀x∈Pk.packB (rowN ts L) (Lib.bitLen ts.length),x<256)];exact h.pk
 have k2:Pk.PkIs (natB q) (L'.length*3) (Lib.bitLen ts'.length) (rowN ts' L'):=by
  rw[q2,zdK _ (fun x hx=>Pk.pk_lt _ _ _ x hx:∀x∈Pk.packB (rowN ts' L') (Lib.bitLen ts'.length),x<256)];exact h'.pk
 rw[<-hlen,<-hts]at k2;have hr:rowN ts L=rowN ts' L':=k1.unp.trans k2.unp.symm;have ht:=h.tris;rw[hd,hr,hlen,h'.tris]at ht;exact (zb4 (zdz ht)).symm
theorem zl0 (r:List VTri) (hr:Rise (ltOf cmpV) r) (hl:r.length<=100) (hs:¬20000<(prtT r).length):parV false (prtT r)=.ok (r.map Subtype.val,r.length):=by
 have h:=zf5 r [] 0 (by simpa using Rise.nodup swoV hr) (by simpa using hl) (by omega);rw[zhn hs];simpa using h
theorem zkR {L:List VTri} {ts:List VTm} (h:StP L ts):6<=(fileN ts L).length/\(fileN ts L).length<=80000:=by
 have h1:=zfw (texts ts) 0 [] (zdh ts);have h2:=h.tlen;have h3:=h.len;have h4:=zbM h2;have e1:(Fp.enc (texts ts)).length=2+(Fp.encF 0 [] (texts ts)).length:=by
  show (Fp.encF 0 [] (texts ts)).length+1+1=_;omega
 have e2:(bodyN ts L).length=2+(L.length*3*Lib.bitLen ts.length+7) / 8:=by
  show (List.map UInt8.ofNat (Pk.packB (rowN ts L) (Lib.bitLen ts.length))).length+1+1=_;rw[List.length_map,Pk.packB_len,zbC];omega
 have e3:L.length*3*Lib.bitLen ts.length<=300*9:=Nat.mul_le_mul (by omega) h4;rw[zdg]at h1;have e4:(Bx.bodB (secN ts L)).length=(Fp.enc (texts ts)).length+(bodyN ts L).length:=by
  unfold Bx.bodB secN;simp
 have h5:(fileN ts L).length=9+7*(secN ts L).length+(Bx.bodB (secN ts L)).length:=Bx.zc5 _;have h6:(secN ts L).length=2:=rfl;omega
theorem RefIs.low {w w1:World} {S:Nat} {v:Value} {L:List VTri} {ts:List VTm} (h:RefIs w S v L ts) (hb:Below w.heap.size w w1):RefIs w1 S v L ts:=by
 obtain ⟨vE,vS,vI,h0,h1,h2,h3⟩:=h.ex;exact ⟨⟨vE,vS,vI,(hb.block S (Array.getElem?_eq_some_iff.1 h0).1).trans h0,h1.below hb,Fd.own_below h2 hb,Fd.own_below h3 hb⟩,h.row.below hb,h.ok⟩
theorem RefIs.c0 {w:World} {S:Nat} {v:Value} {L:List VTri} {ts:List VTm} (h:RefIs w S v L ts):w.cell? ⟨S,0,none⟩=some v:=by
 obtain ⟨vE,vS,vI,h1,_⟩:=h.ex;rw[cell_of_heap h1];rfl
theorem ze0 (s:Bs) (w:World) (h4:4<=w.heap.size) (ht:Lay w) :
    Calls prog 3 #[.string (str s)] w fun e w'=>e=.returned (.bool true)/\Below w.heap.size w w':=by
 have hsz:(str s).size=s.length:=zab s;by_cases hbig:22000<s.length
 · have hz:(22000:Int)<(s.length:Int):=(by omega);generalize str s=S at hsz ⊢;go_enter func3,ntmps3
   go_wp2;go_ret;exact ⟨rfl,br⟩
 · have hz:¬(22000:Int)<(s.length:Int):=(by omega);have HLY:Hid (∀W,Below w.heap.size w W->Lay W):=fun W hW=>ht.below hW;have HL1:=hid (zgf s w h4 ht);have HL2:Hid (∀W,Below w.heap.size w W->Calls prog 7 #[.string (str s)] W (LoadAns W s)):=fun W hW=>zeD s W (by have:=hW.size;omega) (HLY.out W hW);have HKN:Hid (∀W,Below w.heap.size w W->Calls prog 8 #[] W fun e w'=>e=.returned (.bool true)/\Below W.heap.size W w'):=fun W hW=>zhy W (by have:=hW.size;omega) (HLY.out _ hW);clear ht hbig;go_enter func3,ntmps3
   go_wp2_with fail
   refine HL1.out.mono ?_;rintro e w1 ⟨⟨A,r,n,S,v,ts,hp,hso,href,rfl⟩ | ⟨n,k,hp,rfl⟩,hb1⟩
   · have HB1:=hid hb1;have HREF:=hid href;have HP:=hid hp;have HSO:=hid hso;clear hb1 href hp hso HL1;go_wp2_with fail
     refine (HL2.out _ HB1.out).mono ?_;rintro e w2 ⟨⟨A',r',n',S',v',ts',hp',hso',hst,rfl⟩ | ⟨n',k',hp',rfl⟩,hb2⟩
     · have hpp:=HP.out.symm.trans hp';injection hpp with hpp;injection hpp with hA hn;subst hn;obtain rfl:A=A':=zb4 hA;obtain rfl:r=r':=HSO.out.one hso';have HB2:=hid (HB1.out.trans (hb2.mono HB1.out.size));have HST:=hid hst;have HREF2:=hid (HREF.out.low hb2);have hrl:=hst.ok.len;have HEN:=hid (zcO S' v' r ts' w2 hst);clear hp' hso' hst hb2 hA HREF HP HSO HL2;go_wp2_with fail
       refine HEN.out.mono ?_;rintro e w3 ⟨A3,c3,rfl,hown3,hb3⟩;have HREF3:=hid (HREF2.out.low hb3);have HST3:=hid (HST.out.below hb3);have HB3:=hid (HB2.out.trans (hb3.mono HB2.out.size));have hF:=zkR HST.out.ok;obtain ⟨g,hg⟩:∃g,A3=some ⟨g,0,none⟩:=by
        rcases hown3.2 with ⟨_,h0⟩ | ⟨g,cap,cur,e,_⟩
        · omega
        · injection e with e;exact ⟨g,e⟩
       subst hg;have HDE:=hid (zgC g c3 (fileN ts' r) w3 (by have:=HB3.out.size;omega) (HLY.out _ HB3.out) (Fd.Seg.of_own hown3) (Fd.own_le' hown3) hF.2);have HOKS:=hid HST.out.ok;clear hown3 hb3 hF HEN HREF2 HST HB2;go_wp2_with fail
       refine HDE.out.mono ?_;rintro e w4 ⟨⟨S4,v4,L4,ts4,hf4,hst4,rfl⟩ | ⟨hno,rfl⟩,hb4⟩
       · obtain rfl:L4=r:=zkS hst4.ok HOKS.out hf4;have HREF4:=hid (HREF3.out.low hb4);have HST4:=hid (HST3.out.below hb4);have HB4:=hid (HB3.out.trans (hb4.mono HB3.out.size));have HX1:=hid (zgu S4 v4 _ ts4 w4 hst4 (by omega));clear hf4 hst4 hb4 HDE HREF3 HST3 HB3;go_wp2_with fail
         refine HX1.out.mono ?_;rintro e w5 ⟨rfl,hb5⟩;have HREF5:=hid (HREF4.out.low hb5);have HST5:=hid (HST4.out.below hb5);have HB5:=hid (HB4.out.trans (hb5.mono HB4.out.size));have x0:=HREF5.out.c0;have HP5:=hid (zf3 _ v 0 w5 HREF5.out.row (by omega));clear hb5 HX1 HREF4 HST4 HB4;have hsP:=zab (prtT L4);have hr4:=HOKS.out.rise;have HBK:=hid (zl0 L4 hr4 hrl);clear hr4;go_wp2_with fail
         refine HP5.out.mono ?_;rintro e w6 ⟨rfl,hb6⟩;have HREF6:=hid (HREF5.out.low hb6);have HST6:=hid (HST5.out.below hb6);have HB6:=hid (HB5.out.trans (hb6.mono HB5.out.size));have HX2:=hid (zgu S' v' _ ts' w6 HST6.out (by omega));clear hb6 HP5 HREF5 HST5 HB5 x0;go_wp2_with fail
         refine HX2.out.mono ?_;rintro e w7 ⟨rfl,hb7⟩;have HREF7:=hid (HREF6.out.low hb7);have HB7:=hid (HB6.out.trans (hb7.mono HB6.out.size));clear hb7 HX2 HREF6 HST6 HB6;by_cases hbg:20000<(prtT L4).length
         · have hz2:(20000:Int)<((prtT L4).length:Int):=(by omega);clear hbg HBK;go_wp2_with fail
           refine (HKN.out _ HB7.out).mono ?_;rintro e w8 ⟨rfl,hb8⟩;have HB8:=hid (HB7.out.trans (hb8.mono HB7.out.size));clear hb8;go_wp2;go_ret;exact ⟨rfl,HB8.out⟩
         · have hz2:¬(20000:Int)<((prtT L4).length:Int):=(by omega);have HPB:=hid (HBK.out hbg);have HPA:=hid (zdH (prtT L4) w7 (by have:=HB7.out.size;omega) (HLY.out _ HB7.out));clear hbg HBK;go_wp2_with fail
           refine HPA.out.mono ?_;rintro e w8 ⟨⟨A8,r8,n8,v8,hp8,hl8,hso8,rfl,hrow8⟩ | ⟨n8,k8,hp8,rfl⟩,hb8⟩
           · have hpp:=HPB.out.symm.trans hp8;injection hpp with hpp;injection hpp with hA8 hn8;subst hn8;obtain rfl:L4=A8:=zb4 hA8;obtain rfl:r8=L4:=hso8.one ⟨HOKS.out.rise,fun _=>Iff.rfl⟩;have HREF8:=hid (HREF7.out.low hb8);have HB8:=hid (HB7.out.trans (hb8.mono HB7.out.size));have HSM:=hid (zha _ v8 v w7.heap.size 0 w8 hrow8 HREF8.out.row (by omega));have x0:=HREF8.out.c0;obtain ⟨Av,cv,rfl⟩:=Fd.zac HREF8.out.row;clear hp8 hso8 hb8 hA8 hrow8 HPA HPB HREF7 HB7;go_wp2_with fail
             refine HSM.out.mono ?_;rintro e w9 ⟨rfl,hb9⟩;have HB9:=hid (HB8.out.trans (hb9.mono HB8.out.size));clear hb9 HSM x0;go_wp2_with fail
             refine (HKN.out _ HB9.out).mono ?_;rintro e w10 ⟨rfl,hb10⟩;have HB10:=hid (HB9.out.trans (hb10.mono HB9.out.size));clear hb10;go_wp2;go_ret;exact ⟨rfl,HB10.out⟩
           · exact absurd (HPB.out.symm.trans hp8) (by simp)
       · exact absurd ⟨_,_,HOKS.out,rfl⟩ hno
     · exact absurd (HP.out.symm.trans hp') (by simp)
   · have HB1:=hid hb1;have HP:=hid hp;have hk:=zdJ hp;clear hb1 hp HL1;go_wp2_with fail
     refine (HL2.out _ HB1.out).mono ?_;rintro e w2 ⟨⟨A',r',n',S',v',ts',hp',hso',hst,rfl⟩ | ⟨n',k',hp',rfl⟩,hb2⟩
     · exact absurd (HP.out.symm.trans hp') (by simp)
     · have hpp:=HP.out.symm.trans hp';injection hpp with hpp;injection hpp with hn hk';subst hn;subst hk';have HB2:=hid (HB1.out.trans (hb2.mono HB1.out.size));have hkz:((k:Int) != 0)=true:=(by rw[bne_iff_ne];omega);clear hp' hb2 HP HL2 hk;go_wp2_with fail
       refine (HKN.out _ HB2.out).mono ?_;rintro e w3 ⟨rfl,hb3⟩;have HB3:=hid (HB2.out.trans (hb3.mono HB2.out.size));clear hb3 HKN;go_wp2;go_ret;exact ⟨rfl,HB3.out⟩
end Go.Proofs.YtaeiifngjglchaaGreatDoor
end
