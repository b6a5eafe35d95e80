/- Proved on the way: Package store: Encode; Package box: Unpack; Package pack: Unpack. Each theorem states its own conditions. -/
import Derived.Test.YtaeiifngjglchaaGreatDoorM22
set_option maxHeartbeats 16000000
set_option maxRecDepth 1000000
set_option linter.unusedSimpArgs false
section
namespace Go.Proofs.YtaeiifngjglchaaGreatDoor
open Go.Proofs.Tryz
open Go.RowKit Go.Lib Tv Go.Sort
open Go.Proofs.YtaeiifngjglchaaGreatDoorW.PrintLast
open Go.Proofs.YtaeiifngjglchaaGreatDoorW.PrintWords (nums)
theorem zdu {P:Program} {w:World} {ops:Array Oper} {o:Oper} {a:Act} {K:Act->World->Prop} {Q:Exit->Act->World->Prop} {E:Prop} (hgd:o.guard=none) (s x:Operand) (t:TypeId)
    (ho:o.op=.call { callee:=.builtin .append,args:=#[s,x],argTypes:=#[t,t] })
    (base:Nat) (e:TypeId) (i:TypeInfo) (z:Value) (bytes:Nat) (ht:P.underlying t=some (.slice e)) (hi:P.info? e=some i) (hz:i.zero=some z)
    (hsize:i.size=1) (hby:i.bytes=bytes) (hzs:z.cells.size=1)
    (v:Value) (n:Nat) (xs:List Value) (hs:a.eval s=v) (hown:w.ownsRow base e 1 v n xs)
    (A:Option Addr) (m c:Nat) (news:List Value) (hx:a.eval x=.slice A m c) (hseg:Fd.Seg w A m news) (h1:∀u∈news,u.oneCell'=true)
    (h63:n+m<=maxLen) (hbytes:(n+m)*bytes<=140737488355328) (hbase:base<=w.heap.size)
    (h:∀v' w',w'.ownsRow base e 1 v' (n+m) (xs++news)->w.grownBy w' v.ownBlock->K (a.put o.dst v') w') :
    if Region.wanted o (yielded ops a.tmps)=true then Oper.wp P o a w K Q else E:=by
 have hw:Region.wanted o (yielded ops a.tmps)=true:=(by simp[Region.wanted,hgd]);rw[if_pos hw];cases A with
 | none=>
  have hm:m=0:=by
   rcases Nat.eq_zero_or_pos m with h0 | h0
   · exact h0
   · obtain ⟨ad,e,_⟩:=hseg.cell h0;cases e
  subst hm;obtain rfl:news=[]:=List.eq_nil_of_length_eq_zero hseg.len;have hrun:=Fd.za1 (P:=P) w base t o.type e i 1 ht hi v n xs hown c;unfold Oper.wp;simp[execOp,ho,resolve,invoke,builtin,hs,hx,hrun,Result.andThen];exact h v w (by simpa using hown) (World.grownBy.refl w _)
 | some ad=>
  obtain ⟨v',w',hrun,r1,r2,_⟩:=run_append_own (P:=P) w base t o.type e i z 1 bytes ht hi hz hsize hby hzs (by decide) v n xs hown ad m c news (by rw[hseg.len,Nat.mul_one]) (fun j u hu=>by
   have hn0:0<m:=by
    have:=(List.getElem?_eq_some_iff.1 hu).1;rw[hseg.len]at this;omega
   obtain ⟨ad',e,hc⟩:=hseg.cell hn0;cases e
   exact hc j u hu) h1 h63 hbytes hbase
  unfold Oper.wp;simp[execOp,ho,resolve,invoke,builtin,hs,hx,hrun,Result.andThen];exact h v' w' r1 r2
theorem zc8 (n:Nat) (h:n<=1000000) (w:World):Calls prog 32 #[.int .i64 n] w fun e w'=>e=.returned (.int .i64 (Lib.bitLen n:Nat))/\Below w.heap.size w w':=by
 have:=PTopFile.pack_Width.calls 0 (n:Int) _ w (Pk.width_eq 0 (n:Int) (by omega) (by omega));rwa[Int.toNat_natCast]at this
theorem zms:∃i,prog.info? 3=some i/\i.zero=some (.int .i64 0)/\i.size=1/\i.bytes=8:=info_parts Fd.info3
theorem zmr:∃i,prog.info? 9=some i/\i.zero=some (.string ByteArray.empty)/\i.size=1/\i.bytes=16:=info_parts Fd.info9
theorem zn9:∃i,prog.info? 5=some i/\i.zero=some (.int .u8 0)/\i.size=1/\i.bytes=1:=info_parts Fd.info5
theorem zke (l:List Ids) (k:Nat) (x:Ids) (h:l[k]?=some x):(l.take (k+1)).flatMap encI=(l.take k).flatMap encI++[.int .i64 x.a,.int .i64 x.b,.int .i64 x.c]:=by
 rw[List.take_add_one,h,List.flatMap_append];rfl
theorem zcO (S:Nat) (v:Value) (L:List VTri) (ts:List VTm) (w:World) (h:StoreIs w S v L ts) :
    Calls prog 10 #[.pointer (some ⟨S,0,none⟩)] w fun e w'=>∃A c,e=.returned (.slice A (fileN ts L).length c)/\w'.ownsRow w.heap.size 5 1 (.slice A (fileN ts L).length c) (fileN ts L).length (Fd.bys (fileN ts L))/\Below w.heap.size w w':=by
 obtain ⟨vt,R,hblk,hrowM,hring⟩:=h.ex;obtain ⟨A,c,rfl⟩:=Fd.zac h.row;obtain ⟨At,ct,rfl⟩:=Fd.zac hrowM;have hSP:=h.ok;have HST:=hid h;have HROWM:Hid (∀w1,Below w.heap.size w w1->RowM w1 0 (.slice At ts.length ct) ts):=fun w1 hb=>hrowM.below hb;have HRING:Hid (∀w1,Below w.heap.size w w1->RingIs w1 R (L.map (idsOf ts))):=fun w1 hb=>hring.below hb;have HCELL:Hid (∀w1,Below w.heap.size w w1->w1.cell? ⟨S,0,none⟩=some (.slice A L.length c)/\w1.cell? ⟨S,1,none⟩=some (.slice At ts.length ct)/\w1.cell? ⟨S,2,none⟩=some (.pointer (some ⟨R,0,none⟩))):=fun w1 hb=>by
  have h1:=(hb.block S (Array.getElem?_eq_some_iff.1 hblk).1).trans hblk;refine ⟨?_,?_,?_⟩<;>rw[cell_of_heap h1]<;>rfl
 have SP:=hid hSP;have htl:=hSP.tlen;have hll:=hSP.len;obtain ⟨s0,s1,s2⟩:=HCELL.out w br;clear h hblk hrowM hring hSP;obtain ⟨i9,hi9,hz90,hz91,hz92⟩:=zmr;go_enter func10,ntmps10
 go_wp2;go_loopw [3,22] (fun v3 v22 wr=>∃k:Nat,k<=ts.length/\v22=.int .i64 k/\Below w.heap.size w wr/\wr.ownsRow w.heap.size 9 1 v3 k (Fd.sts ((tsS ts).take k))) (fun _ v22 _=>ts.length-(RowKit.intOf v22).toNat)
 case atStart=>exact ⟨0,Nat.zero_le _,rfl,br,World.ownsRow_nil _ _ _ _⟩
 case round=>
  clear s0 s1 s2;obtain ⟨k,hk,rfl,hb,hown⟩:=hrel;by_cases hlt:k<ts.length
  · obtain ⟨t,ht⟩:∃x,ts[k]?=some x:=⟨_,List.getElem?_eq_getElem hlt⟩;have hrow:=HROWM.out wr hb;obtain ⟨g,rfl,hg,hcap⟩:=zdF hrow (by omega);obtain ⟨a0,a1,a2⟩:=hrow.at_ k t ht;have HNEXT:=hid (zlt ts k t ht);obtain ⟨wa,hwa⟩:∃wa,wr.alloc (.cells #[.int .i64 t.1.k,.string (str t.1.x),.string (str t.1.e)] 62)=wa:=⟨_,rfl⟩;have hba:Below wr.heap.size wr wa:=(by rw[<-hwa];exact br.alloc nL _);have b0:wa.cell? ⟨wr.heap.size,0,none⟩=some (.int .i64 t.1.k):=(by rw[<-hwa];simp);have b1:wa.cell? ⟨wr.heap.size,1,none⟩=some (.string (str t.1.x)):=(by rw[<-hwa];simp);have b2:wa.cell? ⟨wr.heap.size,2,none⟩=some (.string (str t.1.e)):=(by rw[<-hwa];simp);have HS:=hid fun w=>zcx t.1 t.sml w;have OWN:=hid (Fd.own_below hown hba);have HB:=hid (hb.trans (hba.mono hb.size));have hsz:=(za0 t.1 t.2).2;clear hrow hba hown hb ht;obtain ⟨⟨k1,x1,e1⟩,htv⟩:=t;unfold encT at HS;simp only at a0 a1 a2 b0 b1 b2 HS HNEXT hsz;generalize hsw:shw ⟨k1,x1,e1⟩=sw at HS HNEXT hsz;clear hsw;go_wp2_with fail
    refine (HS.out _).mono ?_;rintro e w2 ⟨rfl,hb2⟩;have OWN2:=hid (Fd.own_below OWN.out hb2);have HB2:=hid (HB.out.trans (hb2.mono HB.out.size));have hs2:=HB2.out.size;clear hb2 OWN HB b0 b1 b2 hwa;go_wp2_with (at_builtin;refine wpList_append_own _ rfl _ _ 38 rfl w.heap.size 9 i9 (.string ByteArray.empty) 1 16 underlying38 hi9 hz90 hz91 hz92 rfl (by decide) _ k _ rfl (OWN2.out.alloc _) ⟨w2.heap.size,0,none⟩ 1 1 [.string (str sw)] rfl rfl ?c1 ?c2 ?c3 ?c4 ?c5 ?_)
    case c1=>
     intro j u hj
     match j,hj with
     | 0,hj=>simp at hj;subst hj;simp[Addr.add]
    case c2=>intro u hu;simp at hu;subst hu;rfl
    case c3=>unfold maxLen;omega
    case c4=>omega
    case c5=>simp;omega
    intro v3 w3 hown3 hg3 _;rw[<-HNEXT.out]at hown3;have OWN3:=hid hown3;have HB3:=hid ((HB2.out.alloc hs2 _).grown hg3 (by simp;omega) (fun j hj=>(OWN2.out.lt j hj).1));clear hown3 hg3 HB2 OWN2;go_wp2;go_round
    case measure=>simp[RowKit.intOf];omega
    case rel=>exact ⟨k+1,by omega,by go_num,HB3.out,OWN3.out⟩
  · obtain rfl:k=ts.length:=(by omega);obtain ⟨s0,s1,s2⟩:=HCELL.out wr hb;obtain ⟨vr,hvr,hri⟩:=HRING.out wr hb;have hlm:(L.map (idsOf ts)).length=L.length:=List.length_map _;have HA:=hid (zfd (L.map (idsOf ts)) vr 0 R wr hvr hri (by rw[hlm];omega));have HB:=hid hb;have hs1:=hb.size;have OWN:=hid hown;clear hri hvr hb hown;go_wp2_with fail
    refine HA.out.mono ?_;rintro e w2 ⟨v2,rfl,hrow2,hb2⟩;obtain ⟨A2,c2,rfl⟩:=Fd.zac hrow2;rw[hlm];have HROW2:=hid hrow2;have HB2:=hid hb2;have HBW:=hid (HB.out.trans (hb2.mono hs1));clear hrow2 hb2 HA;go_wp2;obtain ⟨i3,hi3,hz30,hz31,hz32⟩:=zms;go_loopw [6,39] (fun v6 v39 wr=>∃k:Nat,k<=L.length/\v39=.int .i64 k/\Below w2.heap.size w2 wr/\wr.ownsRow w2.heap.size 3 1 v6 (3*k) (((L.map (idsOf ts)).take k).flatMap encI)) (fun _ v39 _=>L.length-(RowKit.intOf v39).toNat)
    case atStart=>exact ⟨0,Nat.zero_le _,rfl,br,World.ownsRow_nil _ _ _ _⟩
    case round=>
     obtain ⟨k,hk,rfl,hb,hown⟩:=hrel;by_cases hlt:k<L.length
     · obtain ⟨x,hx⟩:∃x,(L.map (idsOf ts))[k]?=some x:=⟨_,List.getElem?_eq_getElem (by rw[hlm];exact hlt)⟩;have hrow:=HROW2.out.below hb;obtain ⟨g,rfl,hg,hcap⟩:∃g,A2=some ⟨g,0,none⟩/\g<wr.heap.size/\(L.map (idsOf ts)).length<=c2:=by
        rcases zaf hrow with ⟨_,h⟩ | ⟨g,cap,hv,hB,hg,hc,_⟩
        · rw[hlm]at h;omega
        · cases hv;exact ⟨g,rfl,hg,hc⟩
       rw[hlm]at hcap;obtain ⟨a0,a1,a2⟩:=hrow.at_ k x hx;have HNEXT:=hid (zke (L.map (idsOf ts)) k x hx);obtain ⟨wa,hwa⟩:∃wa,wr.alloc (.cells #[.int .i64 x.a,.int .i64 x.b,.int .i64 x.c] 103)=wa:=⟨_,rfl⟩;have hba:Below wr.heap.size wr wa:=(by rw[<-hwa];exact br.alloc nL _);have HBX:=hid (show wa.heap[wr.heap.size]?=some (.cells #[.int .i64 x.a,.int .i64 x.b,.int .i64 x.c] 103 (0,0)) by rw[<-hwa];exact heap_alloc_new wr _);have OWN:=hid (Fd.own_below hown hba);have HB:=hid (hb.trans (hba.mono hb.size));have hsb:=HB.out.size;clear hrow hba hown hb hx hlm;obtain ⟨xa,xb,xc⟩:=x;simp only at a0 a1 a2 HBX HNEXT;go_wp2_with (at_builtin;refine wpList_append_own _ rfl _ _ 89 rfl w2.heap.size 3 i3 (.int .i64 0) 1 8 underlying89 hi3 hz30 hz31 hz32 rfl (by decide) _ (3*k) _ rfl OWN.out ⟨wr.heap.size,0,none⟩ 3 3 [.int .i64 xa,.int .i64 xb,.int .i64 xc] rfl rfl ?c1 ?c2 ?c3 ?c4 ?c5 ?_)
       case c1=>exact fun j u hj=>by rw[cell_of_heap HBX.out];simpa using hj
       case c2=>exact ⟨rfl,rfl,rfl⟩
       all_goals (first | (unfold maxLen;omega) | omega | skip)
       intro v3 w3 hown3 hg3 _;rw[<-HNEXT.out]at hown3;have OWN3:=hid hown3;have HB3:=hid (HB.out.grown hg3 hsb (fun j hj=>(OWN.out.lt j hj).1));clear hown3 hg3 HB OWN HBX;go_wp2;go_round
       case measure=>simp[RowKit.intOf];omega
       case rel=>exact ⟨k+1,by omega,by go_num,HB3.out,OWN3.out⟩
     · obtain rfl:k=L.length:=(by omega);have hBW2:=HBW.out.trans (hb.mono HBW.out.size);obtain ⟨s0,s1,s2⟩:=HCELL.out wr hBW2;obtain ⟨A3,c3,rfl⟩:=Fd.zac OWN.out;have hown3:wr.ownsRow w.heap.size 9 1 (.slice A3 ts.length c3) (tsS ts).length (Fd.sts (tsS ts)):=by
        have h1:=Fd.own_below (Fd.own_below OWN.out HB2.out) hb;rw[List.take_of_length_le (by rw[zaN];exact nL)]at h1;rw[zaN];exact h1
       have hnew:=Fd.zkg A3 c3 (tsS ts) wr (by rw[zaN]at hown3 ⊢;exact Fd.Seg.of_own hown3) SP.out.mayS;rw[zaN]at hnew;have HNEW:=hid hnew;have hown6:wr.ownsRow w2.heap.size 3 1 u6 (3*L.length) (nums .i64 (Pk.ints (rowN ts L))):=by
        rw[List.take_of_length_le (by rw[hlm];exact nL),znI]at hown;exact hown
       obtain ⟨A6,c6,rfl⟩:=Fd.zac hown6;have hc6:=Fd.own_le' hown6;have HO6:=hid hown6;have HBW2:=hid hBW2;have hs2:=hBW2.size;clear hown hown6 hown3 hnew hb hBW2;go_wp2_with fail
       refine HNEW.out.mono ?_;rintro e w4 ⟨gd,rfl,_,hdic,hb4⟩;have HDIC:=hid hdic;have HB4:=hid hb4;have HBW4:=hid (HBW2.out.trans (hb4.mono hs2));obtain ⟨s0',s1',s2'⟩:=HCELL.out w4 HBW4.out;clear hdic hb4 HNEW s0 s1 s2;have HW:=hid fun w=>zc8 ts.length (by omega) w;have hbl:=zbM htl;have hbits:=SP.out.row_bits;have HRB:=hid hbits;clear hbits;have hrl:(rowN ts L).length=3*L.length:=(by rw[zbC];omega);have HPK:Hid (∀w5,Below w4.heap.size w4 w5->Calls prog 40 #[.slice A6 (3*L.length) c6,.int .i64 (Lib.bitLen ts.length:Nat)] w5 fun e w'=>∃v,e=.returned (.tuple #[v,.int .i64 0])/\w'.ownsRow w5.heap.size 5 1 v (Pk.packB (rowN ts L) (Lib.bitLen ts.length)).length (nums .u8 (Pk.ints (Pk.packB (rowN ts L) (Lib.bitLen ts.length))))/\Below w5.heap.size w5 w'):=fun w5 hb5=>by
        have hseg:Fd.Seg w5 A6 (3*L.length) (nums .i64 (Pk.ints (rowN ts L))):=((Fd.Seg.of_own HO6.out).below HB4.out).below hb5;have:=zcB A6 c6 (rowN ts L) (Lib.bitLen ts.length) w5 (by rw[hrl];exact hseg) (by rw[hrl];exact hc6) HRB.out (by omega) (by omega);rw[hrl]at this;exact this
       clear hrl;generalize hbn:Lib.bitLen ts.length=bn at HW HPK hbl HRB;have HBN:=hid hbn;clear hbn;go_wp2_with fail
       refine (HW.out _).mono ?_;rintro e w5 ⟨rfl,hb5⟩;have HPK5:=hid (HPK.out w5 hb5);have HBW5:=hid (HBW4.out.trans (hb5.mono HBW4.out.size));have HDIC5:=hid (HDIC.out.below hb5);clear hb5 HPK HDIC HBW4 HW HB4 s0' s1' s2';go_wp2_with fail
       refine HPK5.out.mono ?_;rintro e w6 ⟨vp,rfl,hownp,hb6⟩;obtain ⟨Ap,cp,rfl⟩:=Fd.zac hownp;have HOP:=hid hownp;have HBW6:=hid (HBW5.out.trans (hb6.mono HBW5.out.size));have HDIC6:=hid (HDIC5.out.below hb6);obtain ⟨s0,s1,s2⟩:=HCELL.out w6 HBW6.out;clear hownp hb6 HPK5 HBW5 HDIC5;go_wp2_with fail
       refine sA 18 [] (fun w'=>w'.cell? ⟨S,0,none⟩=some (.slice A L.length c)) ?_ (fun hHeld=>?_)
       · exact s0
       refine pU 0 ?_;refine pU 1 ?_;refine pU 2 ?_;refine tK 3 hHeld ?_;refine pU 4 ?_;refine pU 5 ?_;refine pU 6 ?_;refine pU 7 ?_;refine pU 8 ?_;refine pU 9 ?_;refine tK 10 hHeld ?_;refine pU 11 ?_;refine pU 12 ?_;refine pU 13 ?_;refine pU 15 ?_;refine oN 14 (fun K hK=>?_);refine zm2 (w1:=?_) (v:=?_) (by rfl) rfl ?_ ?_;rotate_left 2
       · go_simp;constructor
         · rfl
         · rfl
       refine oU hK (HCELL.out _ (HBW6.out.drew.alloc HBW6.out.size _)).1 (fun hHeld=>?_);clear hK K;rw[Fd.hd1 L.length,Fd.hd2 L.length];obtain ⟨wb,hwb⟩:∃wb,(w6.alloc (.cells #[.int .u8 ((UInt8.ofNat (L.length / 256)).toNat:Int),.int .u8 ((UInt8.ofNat L.length).toNat:Int)] 5)).drew=wb:=⟨_,rfl⟩;have hbb:Below w6.heap.size w6 wb:=(by rw[<-hwb];exact (br.alloc nL _).drew);have hsb:w6.heap.size<wb.heap.size:=(by rw[<-hwb];show w6.heap.size<(w6.alloc _).heap.size;simp);have hlit:wb.ownsRow w6.heap.size 5 1 (.slice (some ⟨w6.heap.size,0,none⟩) 2 2) 2 [.int .u8 ((UInt8.ofNat (L.length / 256)).toNat:Int),.int .u8 ((UInt8.ofNat L.length).toNat:Int)]:=by
        rw[<-hwb];exact ⟨rfl,.inr ⟨w6.heap.size,2,_,rfl,nL,heap_alloc_new w6 _,nL,by decide,rfl,rfl⟩⟩
       have hpk:Fd.Seg wb Ap (Pk.packB (rowN ts L) bn).length (Fd.bys ((Pk.packB (rowN ts L) bn).map UInt8.ofNat)):=by
        rw[<-zf8];exact (Fd.Seg.of_own HOP.out).below hbb
       have hplen:(Pk.packB (rowN ts L) bn).length<=10000:=by
        rw[Pk.packB_len,zbC];have:=Nat.mul_le_mul (show L.length*3<=300 by omega) hbl;omega
       have HLIT:=hid hlit;have HPKS:=hid hpk;have HBB:=hid (HBW6.out.trans (hbb.mono HBW6.out.size));have HB6b:=hid hbb;have hs6:=HBW6.out.size;have hbody:2+(Pk.packB (rowN ts L) bn).length=(bodyN ts L).length:=(by rw[zgL,HBN.out]);have hcells:Fd.bys (bodyN ts L)=[.int .u8 ((UInt8.ofNat (L.length / 256)).toNat:Int),.int .u8 ((UInt8.ofNat L.length).toNat:Int)]++Fd.bys ((Pk.packB (rowN ts L) bn).map UInt8.ofNat):=by
        unfold bodyN;rw[HBN.out];rfl
       have HBODY:=hid hbody;have HCELLS:=hid hcells;rw[hwb];generalize ((UInt8.ofNat (L.length / 256)).toNat:Int)=p0 at HLIT HCELLS hwb ⊢;generalize ((UInt8.ofNat L.length).toNat:Int)=p1 at HLIT HCELLS hwb ⊢;clear hlit hpk hbb hwb hbody hcells HBW6 HOP;obtain ⟨i5,hi5,hz50,hz51,hz52⟩:=zn9;refine oN 16 (fun K hK=>?_);refine zdu (by rfl) _ _ _ (by rfl) w6.heap.size 5 i5 (.int .u8 0) 1 underlying32 hi5 hz50 hz51 hz52 rfl (.slice (some ⟨w6.heap.size,0,none⟩) 2 2) 2 _ (by rfl) HLIT.out Ap (Pk.packB (rowN ts L) bn).length cp _ (by rfl) HPKS.out (Fd.zcG _) (by unfold maxLen;omega) (by omega) (by omega) ?_;intro v7 w7 hown7 hg7;have HD7:=hid (HDIC6.out.below (HB6b.out.grown hg7 HB6b.out.size (fun j hj=>(HLIT.out.lt j hj).1)));have HB7:=hid ((HBB.out).grown hg7 HBB.out.size (fun j hj=>by have:=(HLIT.out.lt j hj).1;omega));refine oU hK (HCELL.out _ HB7.out).1 (fun hHeld=>?_);clear hK K;refine pU 17 ?_;refine done_ (by kernel_rfl) ?_;rw[HBODY.out,<-HCELLS.out]at hown7;obtain ⟨A7,c7,rfl⟩:=Fd.zac hown7;have hc7:=Fd.own_le' hown7;have HO7:=hid hown7;have HBT:=hid fun w h=>Fd.zd6 gd (tsS ts) w h;rw[zm4]at HBT;clear hown7 hg7 HBODY HCELLS HLIT HPKS HBB HB6b HDIC6 hHeld;have hbl7:(bodyN ts L).length<=20000:=(by rw[zgL,HBN.out];omega);have hle7:(Fp.enc (texts ts)).length<=100000:=by
        have:=zfw (texts ts) 0 [] (zdh ts);rw[zdg]at this;show (Fp.encF 0 [] (texts ts)).length+1+1<=_;omega
       have HFN:Hid (secN ts L=[⟨1,Fp.enc (texts ts)⟩,⟨2,bodyN ts L⟩]):=rfl;have HFM:=hid SP.out.may;generalize hde:Fp.enc (texts ts)=de at HBT hle7 HFN;generalize hbo:bodyN ts L=bo at HO7 hbl7 HFN hc7 ⊢;have HX:=hid (And.intro hde hbo);clear hde hbo;go_wp2_with fail
       refine (HBT.out _ HD7.out).mono ?_;rintro e w8 ⟨vd,rfl,hown8,hb8⟩;obtain ⟨Ad,cd,rfl⟩:=Fd.zac hown8;have hcd:=Fd.own_le' hown8;obtain ⟨w9,hw9⟩:∃w9,w8.alloc (.cells #[.int .i64 1,.slice Ad de.length cd,.int .i64 2,.slice A7 bo.length c7] 85)=w9:=⟨_,rfl⟩;have hb9:Below w8.heap.size w8 w9:=(by rw[<-hw9];exact br.alloc nL _);have hsec:SecRow w9 w8.heap.size (.slice (some ⟨w8.heap.size,0,none⟩) 2 2) [⟨1,Ad,cd,de⟩,⟨2,A7,c7,bo⟩]:=by
        refine ⟨?_,?_⟩
        · rw[<-hw9];exact ⟨rfl,.inr ⟨w8.heap.size,2,_,rfl,nL,heap_alloc_new w8 _,nL,by decide,rfl,rfl⟩⟩
        · intro x hx;simp only[List.mem_cons,List.not_mem_nil,or_false]at hx;rcases hx with rfl | rfl
          · exact ⟨(Fd.Seg.of_own hown8).below hb9,hcd⟩
          · exact ⟨((Fd.Seg.of_own HO7.out).below hb8).below hb9,hc7⟩
       have HP:=hid (zco [⟨1,Ad,cd,de⟩,⟨2,A7,c7,bo⟩] _ _ w9 hsec (by
        intro x hx;simp only[List.mem_cons,List.not_mem_nil,or_false]at hx;rcases hx with rfl | rfl
        · exact ⟨hle7,by show 1<=1000000;omega⟩
        · exact ⟨by show bo.length<=100000;omega,by show 2<=1000000;omega⟩) (by show 2<=255;omega))
       have HB9:=hid (HB7.out.trans ((hb8.mono HB7.out.size).trans (hb9.mono (Nat.le_trans HB7.out.size hb8.size))));clear hown8 hb8 hb9 hsec HBT HD7 HB7 HO7;go_wp2_with fail
       refine HP.out.mono ?_;rintro e w10 ⟨hor,hb10⟩;have HE:Hid (secs [⟨1,Ad,cd,de⟩,⟨2,A7,c7,bo⟩]=secN ts L):=by
        show secs [⟨1,Ad,cd,de⟩,⟨2,A7,c7,bo⟩]=secN ts L;rw[HFN.out];rfl
       rw[HE.out]at hor;rcases hor with ⟨_,A10,c10,rfl,hown10⟩ | ⟨hno,_⟩
       · have HO10:=hid (zam hown10 HB9.out.size);have HB10:=hid (HB9.out.trans (hb10.mono HB9.out.size));clear hown10 hb10 HP;go_wp2;go_ret;exact ⟨A10,c10,rfl,HO10.out,HB10.out⟩
       · exact absurd HFM.out hno
end Go.Proofs.YtaeiifngjglchaaGreatDoor
end
section
namespace Go.Proofs.YtaeiifngjglchaaGreatDoor
open Go.Proofs.Tryz
open Go.RowKit Go.Lib Go.Sort
open Go.Proofs.YtaeiifngjglchaaGreatDoorW.PrintLast
open Go.Proofs.YtaeiifngjglchaaGreatDoorW.PrintWords (nums)
open Bx (Sec MayB boxB rdS parB BxIs r24)
theorem zgJ (A:Option Addr) (n c:Nat) (news:List Value) (w:World) (h:Fd.Seg w A n news) (h1:∀u∈news,u.oneCell'=true) (hn:n<=1000000) :
    Calls prog 79 #[.slice A n c] w fun e w'=>∃A' c',e=.returned (.slice A' n c')/\w'.ownsRow w.heap.size 5 1 (.slice A' n c') n news/\Below w.heap.size w w':=by
 have q22:∀(w:World) (a:Option Addr) (n c n' c':Nat),(binOp .eql 32 (.slice a n c) (.slice none n' c')).run prog w=.ok (.bool a.isNone) w:=fun w a n c n' c'=>Lib.run_eql_slice_nil w _ _ a n c n' c' underlying32;obtain ⟨i0,hi,hz0,hz1,hz2⟩:=info_parts Fd.info5;cases A with
 | none=>
  have hn0:n=0:=by
   rcases Nat.eq_zero_or_pos n with h0 | h0
   · exact h0
   · obtain ⟨ad,e,_⟩:=h.cell h0;cases e
  subst hn0;obtain rfl:news=[]:=List.eq_nil_of_length_eq_zero h.len;clear h1 h;go_enter func79,ntmps79
  go_wp2;go_ret;exact ⟨none,0,rfl,World.ownsRow_nil _ _ _ _,br⟩
 | some ad=>
  have HS:=Lib.hid h;have H1:=Lib.hid h1;clear h h1;go_enter func79,ntmps79
  go_wp2_with (at_builtin;refine Fd.zaq _ rfl _ _ 32 rfl w.heap.size 5 i0 (.int .u8 0) 1 underlying32 hi hz0 hz1 hz2 rfl _ _ _ rfl (World.ownsRow_made w #[] 0 nL (Nat.zero_le _) (by simp)) (some ad) n c news rfl ?qc1 ?qc2 ?qc3 ?qc4 ?qc5 ?_)
  case qc1=>exact HS.out.below (br.alloc nL _)
  case qc2=>exact H1.out
  case qc3=>unfold maxLen;omega
  case qc4=>omega
  case qc5=>simp
  intro v' w1 hown hgrow;obtain ⟨A',c',rfl⟩:=Fd.zac hown;go_wp2;go_ret;refine ⟨A',c',by simp,by simpa using hown,?_⟩;exact ((Below.refl _ w).alloc nL _).grown hgrow (by simp) (by intro k hk;simp[Value.ownBlock]at hk;omega)
theorem or64 (a b:Nat) (ha:a<2 ^ 40) (hb:b<2 ^ 40):Go.bits .or .i64 (a:Int) (b:Int)=((a ||| b:Nat):Int):=
 (bits_nat .i64 40 (by decide) (fun n h0 h1=>wI (by omega)) a b ha hb).2
theorem shl8 (c:Nat) (h:c<256):Go.RowKit.wrap64 (Go.RowKit.wrap64 (c:Int)*256)=((c*256:Nat):Int):=by
 rw[Pk.w64n c (by omega),show (c:Int)*256=((c*256:Nat):Int) by omega];exact Pk.w64n _ (by omega)
theorem or24 (a b c:Nat) (hb:b<256) (hc:c<256):a*65536 ||| b*256 ||| c=a*65536+b*256+c:=by
 have h1:a*65536 ||| b*256=a*65536+b*256:=by
  have:=Nat.two_pow_add_eq_or_of_lt (i:=16) (b:=b*256) (by omega) a;rw[Nat.mul_comm]at this;exact this.symm
 rw[h1];have:=Nat.two_pow_add_eq_or_of_lt (i:=8) (b:=c) (by omega) (a*256+b);rw[show 2 ^ 8*(a*256+b)=a*65536+b*256 by omega]at this;exact this.symm
theorem zhp (A:Option Addr) (c:Nat) (l:List UInt8) (x y z:UInt8) (r:List UInt8) (hl:l=x::y::z::r) (w:World) (h:Fd.Seg w A l.length (Fd.bys l)) (hc:l.length<=c) (hm:l.length<=1000000) :
    Calls prog 78 #[.slice A l.length c] w fun e w'=>e=.returned (.int .i64 (r24 x y z:Nat))/\∃n,w'=w.drewN n:=by
 have hx:=x.toNat_lt;have hy:=y.toNat_lt;have hz:=z.toNat_lt
 have h1:=PTopFile.box_number.calls A c (bInts l) ((r24 x y z:Nat):Int) w (by rw[zaw];exact C_int (by omega) (by rw[zbn];exact h)) (by rw[zaw];exact hc) (by
  unfold PTopFile.box_number.f;have e0:Go.Proofs.YtaeiifngjglchaaGreatDoorW.PrintWords.rd (bInts l) 0=((x.toNat:Nat):Int):=(by rw[hl];rfl);have e1:Go.Proofs.YtaeiifngjglchaaGreatDoorW.PrintWords.rd (bInts l) 1=((y.toNat:Nat):Int):=(by rw[hl];rfl);have e2:Go.Proofs.YtaeiifngjglchaaGreatDoorW.PrintWords.rd (bInts l) 2=((z.toNat:Nat):Int):=(by rw[hl];rfl);have hlen:3<=l.length:=(by rw[hl];simp);rw[zaw,if_pos (by omega),if_pos (by omega),if_pos (by omega),e0,e1,e2,shl16 _ hx,shl8 _ hy,Pk.w64n _ (by omega)];rw[or64 _ _ (by omega) (by omega),or64 _ _ (Nat.or_lt_two_pow (by omega) (by omega)) (by omega),or24 _ _ _ hy hz];rfl)
 rw[zaw]at h1;exact Calls.mono h1 fun e w' h=>⟨h.1,h.2.out⟩
def UnpAns (w:World) (b:List UInt8) (e:Ending) (w':World):Prop:=
 ((∃xs v,BxIs b (secs xs)/\e=.returned (.tuple #[v,.int .i64 0])/\SecRow w' w.heap.size v xs/\∀x∈xs,x.body.length<=b.length/\(0<x.body.length->∃g,x.A=some ⟨g,0,none⟩))\/((¬∃l,BxIs b l)/\e=.returned (.tuple #[.slice none 0 0,.int .i64 2])))/\Below w.heap.size w w'
theorem UnpAns.no {w w':World} {b:List UInt8} {e:Ending} (h:¬∃l,BxIs b l) (he:e=.returned (.tuple #[.slice none 0 0,.int .i64 2])) (hb:Below w.heap.size w w'):UnpAns w b e w':=⟨.inr ⟨h,he⟩,hb⟩
theorem zi3 {b:List UInt8} (h:b.length<6):parB b=none:=by unfold parB;rw[if_neg (by omega)]
theorem zl1 {b:List UInt8} {n:Nat} (h:6<=b.length) (hn:(b.getD 5 0).toNat=n) (h2:¬9+7*n<=b.length):parB b=none:=by unfold parB;rw[if_pos h,hn,if_neg h2]
theorem znO {b:List UInt8} {n:Nat} (h:6<=b.length) (hn:(b.getD 5 0).toNat=n) (h2:9+7*n<=b.length):parB b=rdS n (b.drop 6) (b.drop (9+7*n)):=by unfold parB;rw[if_pos h,hn,if_pos h2]
structure UInv (b:List UInt8) (n k off:Nat) (l:List Sec):Prop where
 len:l.length=k
 eq:rdS n (b.drop 6) (b.drop (9+7*n))=(rdS (n-k) (b.drop (6+7*k)) (b.drop off)).map (l ++ ·)
theorem zm9 {h t:List UInt8} {n:Nat} {i x y z:UInt8} {r:List UInt8} (e:h=i::x::y::z::r):rdS (n+1) h t=if r24 x y z<=t.length then (rdS n (h.drop 7) (t.drop (r24 x y z))).map (fun q=>(⟨i.toNat,t.take (r24 x y z)⟩:Sec)::q) else none:=by
 rw[e];rfl
theorem UInv.fail {b:List UInt8} {n k off:Nat} {l:List Sec} {i x y z:UInt8} {r:List UInt8} (h:UInv b n k off l) (hk:k<n) (e:b.drop (6+7*k)=i::x::y::z::r) (hs:¬r24 x y z<=b.length-off):rdS n (b.drop 6) (b.drop (9+7*n))=none:=by
 rw[h.eq,show n-k=(n-k-1)+1 by omega,zm9 e,if_neg (by rw[List.length_drop];exact hs)];rfl
theorem UInv.next {b:List UInt8} {n k off:Nat} {l:List Sec} {i x y z:UInt8} {r:List UInt8} (h:UInv b n k off l) (hk:k<n) (e:b.drop (6+7*k)=i::x::y::z::r) (hs:r24 x y z<=b.length-off) :
    UInv b n (k+1) (off+r24 x y z) (l++[⟨i.toNat,(b.drop off).take (r24 x y z)⟩]):=by
 refine ⟨by rw[List.length_append,h.len];rfl,?_⟩;rw[h.eq,show n-k=(n-(k+1))+1 by omega,zm9 e,if_pos (by rw[List.length_drop];exact hs),List.drop_drop,List.drop_drop];rw[show 6+7*k+7=6+7*(k+1) by omega];cases rdS (n-(k+1)) (b.drop (6+7*(k+1))) (b.drop (off+r24 x y z)) with
 | none=>rfl
 | some q=>simp
theorem UInv.done {b:List UInt8} {n off:Nat} {l:List Sec} (h:UInv b n n off l):rdS n (b.drop 6) (b.drop (9+7*n))=some l:=by
 rw[h.eq,Nat.sub_self];show some (l++[])=_;rw[List.append_nil]
theorem zjW (xs:List SecV) (x:SecV):secs (xs++[x])=secs xs++[x.sec]:=by simp[secs]
theorem zfG:∃i,prog.info? 85=some i/\i.zero=some (.agg #[.int .i64 0,.slice none 0 0])/\i.size=2/\i.bytes=32:=
 info_parts (by kernel_rfl)
theorem zd7 (blk c:Nat) (b:List UInt8) (w:World) (h:Fd.Seg w (some ⟨blk,0,none⟩) b.length (Fd.bys b)) (hc:b.length<=c) (hl:b.length<=80000) :
    Calls prog 29 #[.slice (some ⟨blk,0,none⟩) b.length c] w (UnpAns w b):=by
 by_cases h6:b.length<6
 · have HN:=hid (Bx.zhR (zi3 h6));have h6z:(b.length:Int)<6:=(by omega);go_enter func29,ntmps29
   go_wp2;go_ret2;exact UnpAns.no HN.out rfl br
 · have h6z:¬(b.length:Int)<6:=(by omega);have HCC:Hid (∀W,Below w.heap.size w W->∀j (hj:j<b.length),W.cell? ⟨blk,j,none⟩=some (.int .u8 (b[j].toNat:Int))):=fun W hW j hj=>by
    obtain ⟨ad,e,h⟩:=(h.below hW).byte hj;cases e
    rw[Fd.add_zero']at h;exact h
   obtain ⟨n,hn⟩:∃n:Nat,b[5].toNat=n:=⟨_,rfl⟩;have hn255:n<=255:=(by have:=b[5].toNat_lt;omega);have k5:=HCC.out w br 5 (by omega);rw[hn]at k5;have hn':(b.getD 5 0).toNat=n:=(by rw[List.getD_eq_getElem?_getD,List.getElem?_eq_getElem (by omega)];exact hn);have HS:=hid h;clear h hn;by_cases h9:9+7*n<=b.length
   · have HP:=hid (znO (by omega) hn' h9);have h9z:¬(b.length:Int)<6+7*(n:Int)+3:=(by omega);have hm1:IntKind.i64.wrap (7*(n:Int))=7*(n:Int):=(wI (by omega));clear hn';go_enter func29,ntmps29
     go_wp2;have hc6:¬c=6:=(by omega);have hm2:IntKind.i64.wrap (6+7*(n:Int))=6+7*(n:Int):=(wI (by omega));have hm3:IntKind.i64.wrap (6+7*(n:Int)+3)=6+7*(n:Int)+3:=(wI (by omega));have hm4:(0:Int)<=6+7*(n:Int)+3:=(by omega);have hm5:6+7*(n:Int)+3<=(b.length:Int):=(by omega);have hm6:(6+7*(n:Int)+3).toNat=9+7*n:=(by omega);have hm7:(6:Int)<=(b.length:Int):=(by omega);by_cases hq:c=9+7*n
     all_goals
      go_quiet (fail)
      have HQ:=hid hq;clear hq;clear hm2 hm3 hm4 hm5 hm6 hm7 hm1 k5;go_wp2;obtain ⟨i2,hi2,hz20,hz21,hz22⟩:=zfG;go_loopw [5,6,7,34] (fun v5 v6 v7 v34 wr=>∃(k off m cc hm hcap:Nat) (q:Addr) (xs:List SecV),k<=n/\v34=.int .i64 k/\v5=.slice (some ⟨blk,6+7*k,none⟩) hm hcap/\6+7*k+hm<=b.length/\b.length<=6+7*k+hm/\hm<=hcap/\v6=.slice (some q) m cc/\m<=cc/\off+m<=b.length/\b.length<=off+m/\(m=0\/q=⟨blk,off,none⟩)/\Hid (UInv b n k off (secs xs))/\wr.ownsRow w.heap.size 85 2 v7 k (xs.flatMap encS)/\Hid (∀x∈xs,wr.ownsRow w.heap.size 5 1 (.slice x.A x.body.length x.c) x.body.length (Fd.bys x.body)/\x.body.length<=b.length/\x.id<=255)/\Below w.heap.size w wr) (fun _ _ _ v34 _=>n-(RowKit.intOf v34).toNat)
      case atStart=>
       refine ⟨0,9+7*n,b.length-(9+7*n),_,_,_,_,[],Nat.zero_le _,rfl,rfl,?_,?_,?_,rfl,?_,?_,?_,?_,hid ⟨rfl,?_⟩,World.ownsRow_nil _ _ _ _,hid (fun x hx=>by cases hx),?_⟩
       · have:=HQ.out;omega
       · have:=HQ.out;omega
       · have:=HQ.out;omega
       · have:=HQ.out;omega
       · have:=HQ.out;omega
       · have:=HQ.out;omega
       · first | exact .inr rfl | exact .inl (by have:=HQ.out;omega)
       · show _=(rdS (n-0) (b.drop (6+7*0)) (b.drop (9+7*n))).map fun q=>q;simp
       · exact ⟨rfl,rfl,rfl,nL,fun _ _=>rfl⟩
      case round=>
       obtain ⟨k,off,m,cc,hm,hcap,q,xs,hk,rfl,rfl,hh1,hh2,hh3,rfl,hm1,hm2,hm3,hqq,HU,hown,HPART,hB⟩:=hrel;by_cases hlt:k<n
       · obtain ⟨x0,x1,x2,x3,r,hdr⟩:∃i x y z r,b.drop (6+7*k)=i::x::y::z::r:=by
          have h1:4<=(b.drop (6+7*k)).length:=by rw[List.length_drop];omega
          match b.drop (6+7*k),h1 with
          | i::x::y::z::r,_=>exact ⟨i,x,y,z,r,rfl⟩
         have k0:wr.cell? ⟨blk,6+7*k,none⟩=some (.int .u8 (x0.toNat:Int)):=by
          have h1:=HCC.out wr hB (6+7*k) (by omega);have h2:b[6+7*k]'(by omega)=x0:=by
           have h3:(b.drop (6+7*k))[0]?=some x0:=(by rw[hdr];rfl);rw[List.getElem?_drop,Nat.add_zero,List.getElem?_eq_getElem (by omega)]at h3;exact Option.some.inj h3
          rw[h2]at h1;exact h1
         have hd1:b.drop (6+7*k+1)=x1::x2::x3::r:=by
          have:(b.drop (6+7*k)).drop 1=x1::x2::x3::r:=(by rw[hdr];rfl);rwa[List.drop_drop]at this
         have HNUM:Hid (∀W,Below w.heap.size w W->Calls prog 78 #[.slice (some ⟨blk,6+7*k+1,none⟩) (hm-1) (hcap-1)] W fun e w'=>e=.returned (.int .i64 (r24 x1 x2 x3:Nat))/\∃n,w'=W.drewN n):=fun W hW=>by
          have hlen:(b.drop (6+7*k+1)).length=hm-1:=(by rw[List.length_drop];omega);have hsg:=Fd.zcV (HCC.out W hW) (6+7*k+1) (hm-1) (by omega);rw[List.take_of_length_le (by rw[hlen];exact nL)]at hsg;have:=zhp (some ⟨blk,6+7*k+1,none⟩) (hcap-1) (b.drop (6+7*k+1)) x1 x2 x3 r hd1 W (by rw[hlen];exact hsg) (by rw[hlen];omega) (by rw[hlen];omega);rw[hlen]at this;exact this
         have hr24:r24 x1 x2 x3<=16777215:=by
          have:=x1.toNat_lt;have:=x2.toNat_lt;have:=x3.toNat_lt
          unfold r24;omega
         have HFAIL:Hid (¬r24 x1 x2 x3<=b.length-off->rdS n (b.drop 6) (b.drop (9+7*n))=none):=fun h=>HU.out.fail hlt hdr h;have HNX:Hid (r24 x1 x2 x3<=b.length-off->UInv b n (k+1) (off+r24 x1 x2 x3) (secs xs++[⟨x0.toNat,(b.drop off).take (r24 x1 x2 x3)⟩])):=fun h=>HU.out.next hlt hdr h;have h0:=x0.toNat_lt;have HXL:Hid (xs.length=k):=(by have:=HU.out.len;rw[za3]at this;exact this);clear hdr hd1;generalize r24 x1 x2 x3=sz at HNUM HFAIL HNX hr24;generalize x0.toNat=id at k0 HNX h0;have hc1:¬hcap=1:=(by omega);have hc7:¬hcap=7:=(by omega);have hge1:(1:Int)<=(hm:Int):=(by omega);have k0e:(b[6+7*k]'(by omega)).toNat=id:=by
          have h1:=HCC.out wr hB (6+7*k) (by omega);rw[k0]at h1;injection h1 with h1;injection h1 with _ h1;omega
         have K0E:=hid k0e;clear k0e;have HB:=hid hB;have HOWN:=hid hown;clear hB hown;go_wp2_with fail
         refine (HNUM.out _ HB.out).mono ?_;rintro e w1 ⟨rfl,nn,rfl⟩;have HB1:=hid (HB.out.trans (show Below w.heap.size wr (wr.drewN nn) from ⟨rfl,rfl,rfl,nL,fun _ _=>rfl⟩));have HOWN1:=hid (Fd.own_below HOWN.out (show Below wr.heap.size wr (wr.drewN nn) from ⟨rfl,rfl,rfl,nL,fun _ _=>rfl⟩));have k1:(wr.drewN nn).cell? ⟨blk,6+7*k,none⟩=some (.int .u8 (id:Int)):=k0;have HPART1:Hid (∀x∈xs,(wr.drewN nn).ownsRow w.heap.size 5 1 (.slice x.A x.body.length x.c) x.body.length (Fd.bys x.body)/\x.body.length<=b.length/\x.id<=255):=fun x hx=>⟨(HPART.out x hx).1.drewFd nn,(HPART.out x hx).2⟩;clear HB HOWN k0 HNUM HPART;generalize wr.drewN nn=wx at HB1 HOWN1 k1 HPART1 ⊢;by_cases hsz:sz<=m
         · have hszz:¬(m:Int)<(sz:Int):=(by omega);have HNX2:=hid (HNX.out (by omega));obtain ⟨body,hbody⟩:∃body,(b.drop off).take sz=body:=⟨_,rfl⟩;rw[hbody]at HNX2;have hbl:body.length=sz:=(by rw[<-hbody,List.length_take,List.length_drop];omega);have HCL:Hid (∀W,Below w.heap.size w W->Calls prog 79 #[.slice (some q) sz cc] W fun e w'=>∃A' c',e=.returned (.slice A' sz c')/\w'.ownsRow W.heap.size 5 1 (.slice A' sz c') sz (Fd.bys body)/\Below W.heap.size W w'):=fun W hW=>by
            refine zgJ (some q) sz cc (Fd.bys body) W ?_ (Fd.zcG _) (by omega);rcases hqq with h0 | h0
            · obtain rfl:sz=0:=(by omega);exact ⟨by rw[Fd.zbA,hbl],fun h=>absurd h (by omega)⟩
            · rw[h0,<-hbody];exact Fd.zcV (HCC.out W hW) off sz (by omega)
           have HBL:=hid hbl;clear hbody hbl HNX HFAIL;have hzc:(sz:Int)<=(cc:Int):=(by omega);have hz0:(0:Int)<=(sz:Int):=(by omega);have hmp:0<hm:=(by omega);have hwid:IntKind.i64.wrap (id:Int)=id:=(wI (by omega));go_wp2_with fail
           refine sA 13 [] (fun w'=>w'.cell? ⟨blk,6+7*k,none⟩=some (.int .u8 (id:Int))) ?_ (fun hHeld=>?_)
           · exact k1
           refine pU 0 ?_;refine pU 1 ?_;refine pU 2 ?_;refine tK 3 hHeld ?_;refine pU 4 ?_;refine pU 5 ?_;refine pU 6 ?_;refine pU 7 ?_;refine oN 8 (fun K hK=>?_);refine cL func79 #[.slice (some q) sz cc] ?_;refine (HCL.out _ HB1.out.drew).mono ?_;rintro e w2 ⟨A2,c2,rfl,hown2,hb2⟩;refine ⟨_,rfl,?_⟩;have hb2':Below wx.heap.size wx w2:=br.drew.trans hb2;have HB2:=hid (HB1.out.trans (hb2'.mono HB1.out.size));refine oU hK (zaa k1 hb2') (fun hHeld=>?_);clear hK K;refine pU 9 ?_;refine oN 10 (fun K hK=>?_);refine vA (.slice (some ⟨w2.heap.size,0,none⟩) 1 1) (w2.alloc (.cells #[.int .i64 id,.slice A2 sz c2] 85)) ?_;refine oU hK (zaa k1 (hb2'.alloc hb2'.size _)) (fun hHeld=>?_);clear hK K;have HOWN2:=hid (Fd.own_below HOWN1.out hb2');have hs2:=HB2.out.size;refine oN 11 (fun K hK=>?_);refine step_append_lies _ (by rfl) _ _ _ (by rfl) w.heap.size 85 i2 _ 2 32 underlying81 hi2 hz20 hz21 hz22 rfl (by omega) u7 k (xs.flatMap encS) (by rfl) (HOWN2.out.alloc _) ⟨w2.heap.size,0,none⟩ 1 1 [.int .i64 id,.slice A2 sz c2] (by rfl) (by rfl) (World.news_of_block (cs:=#[.int .i64 id,.slice A2 sz c2]) (t:=85) (fr:=(0,0)) (heap_alloc_new w2 _)) (by simp[Value.oneCell']) (by omega) (by unfold maxLen;omega) (by omega) (by simp;omega) (w2.heap.size+1) (by simp) ?_;intro gg cap w3 hown3 hgrow hat hlt3;have hne:∀j,u7.ownBlock=some j->w.heap.size<=j:=fun j hj=>(HOWN2.out.lt j hj).1;have hB3:Below w.heap.size w w3:=(HB2.out.alloc hs2 _).grown hgrow (by simp;omega) hne;refine oU hK ((HCC.out w3 hB3 (6+7*k) (by omega)).trans (by rw[K0E.out])) (fun hHeld=>?_);clear hK K;refine pU 12 ?_;refine done_ (by kernel_rfl) ?_;have hown4:w3.ownsRow w.heap.size 85 2 (.slice (some ⟨gg,0,none⟩) (k+1) cap) (k+1) ((xs++[(⟨id,A2,c2,body⟩:SecV)]).flatMap encS):=by
            rw[List.flatMap_append];have e:([⟨id,A2,c2,body⟩]:List SecV).flatMap encS=[.int .i64 id,.slice A2 sz c2]:=by
             show [Value.int .i64 (id:Int),.slice A2 body.length c2]=_;rw[HBL.out]
            rw[e];exact hown3
           have HOWN4:=hid hown4;have HB3:=hid hB3;have HPART3:Hid (∀x∈xs++[(⟨id,A2,c2,body⟩:SecV)],w3.ownsRow w.heap.size 5 1 (.slice x.A x.body.length x.c) x.body.length (Fd.bys x.body)/\x.body.length<=b.length/\x.id<=255):=by
            have key:∀(v:Value) (m:Nat) (ys:List Value),w2.ownsRow w.heap.size 5 1 v m ys->w3.ownsRow w.heap.size 5 1 v m ys:=fun v m ys hv=>by
             have h1:=Fd.own_below hv ((Below.refl _ w2).alloc nL (.cells #[.int .i64 id,.slice A2 sz c2] 85));have h2:=Fd.own_below HOWN2.out ((Below.refl _ w2).alloc nL (.cells #[.int .i64 id,.slice A2 sz c2] 85));refine h1.kept hgrow ?_;exact Fd.own_ne h1 h2 (by decide)
            intro x hx;rcases List.mem_append.1 hx with hx | hx
            · have:=HPART1.out x hx;exact ⟨key _ _ _ (Fd.own_below this.1 hb2'),this.2⟩
            · rw[List.mem_singleton]at hx;subst hx;have hbl2:=HBL.out;refine ⟨?_,?_,?_⟩
              · show w3.ownsRow w.heap.size 5 1 (.slice A2 body.length c2) body.length (Fd.bys body);rw[hbl2];exact key _ _ _ (zam hown2 HB1.out.drew.size)
              · show body.length<=b.length;omega
              · show id<=255;omega
           have HU3:Hid (UInv b n (k+1) (off+sz) (secs (xs++[(⟨id,A2,c2,body⟩:SecV)]))):=by
            show UInv b n (k+1) (off+sz) (secs (xs++[(⟨id,A2,c2,body⟩:SecV)]));rw[zjW];exact HNX2.out
           clear hown3 hgrow hat hlt3 hne hB3 hown4 HOWN2 hb2' HB2 k1 HCL hHeld hown2 HPART1 HOWN1;have hc7i:(7:Int)<=(hm:Int):=(by omega);have hszm:(sz:Int)<=(m:Int):=(by omega);by_cases hqc:cc=sz
           all_goals
            go_wp2;go_quiet (fail)
            have HQC:=hid hqc;clear hqc;go_wp2;have HPART4:Hid (∀x∈xs++[(⟨id,A2,c2,body⟩:SecV)],(w3.drewN nq).ownsRow w.heap.size 5 1 (.slice x.A x.body.length x.c) x.body.length (Fd.bys x.body)/\x.body.length<=b.length/\x.id<=255):=fun x hx=>⟨(HPART3.out x hx).1.drewFd nq,(HPART3.out x hx).2⟩;have HB4:Hid (Below w.heap.size w (w3.drewN nq)):=HB3.out.trans ⟨rfl,rfl,rfl,nL,fun _ _=>rfl⟩;have HOWN5:=hid (HOWN4.out.drewFd nq);go_round
            case measure=>simp[RowKit.intOf];omega
            case rel=>
             refine ⟨k+1,off+sz,_,_,_,_,_,xs++[(⟨id,A2,c2,body⟩:SecV)],by omega,by go_num,by rw[show 6+7*k+7=6+7*(k+1) by omega],?_,?_,?_,rfl,?_,?_,?_,?_,HU3,HOWN5.out,HPART4,HB4.out⟩
             · have:=HQC.out;omega
             · have:=HQC.out;omega
             · have:=HQC.out;omega
             · have:=HQC.out;omega
             · have:=HQC.out;omega
             · have:=HQC.out;omega
             · first
               | exact .inl (by have:=HQC.out;omega)
               | (rcases hqq with h | h
                  · exact .inl (by omega)
                  · refine .inr ?_;rw[h];exact Addr.add_lit ..)
         · have HN:=hid (Bx.zhR (HP.out.trans (HFAIL.out (by omega))));have hszz:(m:Int)<(sz:Int):=(by omega);go_wp2;go_ret2;exact UnpAns.no HN.out rfl HB1.out
       · obtain rfl:k=n:=(by omega);have hxl:xs.length=k:=(by have:=HU.out.len;rw[za3]at this;exact this);subst hxl;obtain ⟨A7,c7,rfl⟩:=Fd.zac hown;have HPAR:Hid (parB b=some (secs xs)):=HP.out.trans HU.out.done;have hsec:SecRow wr w.heap.size (.slice A7 xs.length c7) xs:=⟨hown,fun x hx=>⟨Fd.Seg.of_own (HPART.out x hx).1,Fd.own_le' (HPART.out x hx).1⟩⟩;have HPK:=hid (zco xs (.slice A7 xs.length c7) w.heap.size wr hsec (fun x hx=>by have:=HPART.out x hx;omega) hn255);have HSEC:=hid hsec;have HB:=hid hB;clear hown hsec hB HU;go_wp2_with fail
         refine HPK.out.mono ?_;rintro e w2 ⟨hor,hb2⟩;have HB2:=hid (HB.out.trans (hb2.mono HB.out.size));have HSEC2:=hid (HSEC.out.below hb2)
         have HLEN:Hid (∀x∈xs,x.body.length<=b.length/\(0<x.body.length->∃g,x.A=some ⟨g,0,none⟩)):=fun x hx=>⟨(HPART.out x hx).2.1,fun h0=>by
             obtain ⟨g,h,_⟩:=zdF (HPART.out x hx).1 h0;exact ⟨g,h⟩⟩
         clear hb2 HPK HSEC HPART;rcases hor with ⟨hmay,A8,c8,rfl,hown8⟩ | ⟨hno,rfl⟩
         · have hle:(boxB (secs xs)).length<=100000:=(by rw[Bx.zc5];exact hmay.2.2);have hbs:=(HS.out.below HB2.out);have HEQ:=hid (beq_calls A8 c8 (boxB (secs xs)) (some ⟨blk,0,none⟩) c b w2 (Fd.Seg.of_own hown8) (Fd.own_le' hown8) hbs hc (by omega) (by omega));have HMAY:=hid hmay;clear hown8 hbs hmay;by_cases hE:boxB (secs xs)=b
           · rw[dT hE]at HEQ;have HBX:Hid (BxIs b (secs xs)):=⟨HMAY.out,hE⟩;clear hE;generalize (boxB (secs xs)).length=lb at HEQ hle ⊢;go_wp2_with fail
             refine HEQ.out.mono ?_;rintro e w3 ⟨rfl,hb3⟩;have HB3:=hid (HB2.out.trans (hb3.mono HB2.out.size));have HSEC3:=hid (HSEC2.out.below hb3);clear hb3 HEQ;go_wp2;go_ret2;exact ⟨.inl ⟨xs,_,HBX.out,rfl,HSEC3.out,HLEN.out⟩,HB3.out⟩
           · rw[dF hE]at HEQ;have HN:=hid (Bx.zlf HPAR.out (fun h=>hE h.2));clear hE;generalize (boxB (secs xs)).length=lb at HEQ hle ⊢;go_wp2_with fail
             refine HEQ.out.mono ?_;rintro e w3 ⟨rfl,hb3⟩;have HB3:=hid (HB2.out.trans (hb3.mono HB2.out.size));clear hb3 HEQ;go_wp2;go_ret2;exact UnpAns.no HN.out rfl HB3.out
         · have HN:=hid (Bx.zlf HPAR.out (fun h=>hno h.1));go_wp2;go_ret2;exact UnpAns.no HN.out rfl HB2.out
   · have HN:=hid (Bx.zhR (zl1 (by omega) hn' h9));have h9z:(b.length:Int)<6+7*(n:Int)+3:=(by omega);clear hn';go_enter func29,ntmps29
     go_wp2;go_ret2;exact UnpAns.no HN.out rfl br
end Go.Proofs.YtaeiifngjglchaaGreatDoor
end
section
namespace Go.Proofs.YtaeiifngjglchaaGreatDoor
open Go.Proofs.Tryz
open Go.RowKit Go.Lib Go.Sort Pk
open Go.Proofs.YtaeiifngjglchaaGreatDoorW.PrintLast
open Go.Proofs.YtaeiifngjglchaaGreatDoorW.PrintWords (nums)
def natB (b:List UInt8):List Nat:=b.map fun x=>x.toNat
theorem zmb (b:List UInt8):(natB b).length=b.length:=by simp[natB]
theorem zmd (b:List UInt8) (i:Nat) (h:i<b.length):(natB b).getD i 0=b[i].toNat:=by
 unfold natB;rw[List.getD_eq_getElem?_getD,List.getElem?_map,List.getElem?_eq_getElem h];rfl
theorem zmc {a b:List UInt8} (h:natB a=natB b):a=b:=by
 unfold natB at h;induction a generalizing b with
 | nil=>cases b with
  | nil=>rfl
  | cons _ _=>cases h
 | cons x a ih=>cases b with
  | nil=>cases h
  | cons y b=>
   rw[List.map_cons,List.map_cons]at h;injection h with h1 h2;rw[ih h2,UInt8.toNat_inj.1 h1]
theorem zdK (l:List Nat) (h:∀x∈l,x<256):natB (l.map UInt8.ofNat)=l:=by
 unfold natB;rw[List.map_map]
 conv=>rhs;rw[<-List.map_id l]
 apply List.map_congr_left;intro x hx;have:=h x hx;show (UInt8.ofNat x).toNat=x;rw[UInt8.toNat_ofNat'];omega
def st (b:List Nat) (n d i k:Nat):List Nat:=(List.range n).map fun j=>if j<i then unN b (j*d) d else if j=i then unN b (i*d) k else 0
theorem st_len (b:List Nat) (n d i k:Nat):(st b n d i k).length=n:=by simp[st]
theorem znB (b:List Nat) (n d:Nat):st b n d 0 0=List.replicate n 0:=by
 unfold st;apply List.ext_getElem?;intro j;rw[List.getElem?_map,List.getElem?_replicate];by_cases hj:j<n
 · rw[List.getElem?_range hj,if_pos hj];simp[unN]
 · rw[List.getElem?_eq_none (by simpa using hj),if_neg hj];rfl
theorem st_get (b:List Nat) (n d i k:Nat) (hi:i<n):(st b n d i k).getD i 0=unN b (i*d) k:=by
 unfold st;rw[List.getD_eq_getElem?_getD,List.getElem?_map,List.getElem?_range hi];simp
theorem znC (b:List Nat) (n d i k:Nat) (hi:i<n):(st b n d i k).set i (unN b (i*d) (k+1))=st b n d i (k+1):=by
 apply List.ext_getElem?;intro j;rw[List.getElem?_set,st_len];unfold st;rw[List.getElem?_map,List.getElem?_map];by_cases hj:j<n
 · rw[List.getElem?_range hj];by_cases hji:i=j
   · subst hji;simp[hi]
   · rw[if_neg hji];simp[show ¬j=i from fun e=>hji e.symm]
 · rw[List.getElem?_eq_none (by simpa using hj)];by_cases hji:i=j
   · omega
   · rw[if_neg hji];rfl
theorem znD (b:List Nat) (n d i:Nat):st b n d i d=st b n d (i+1) 0:=by
 unfold st;apply List.map_congr_left;intro j _;by_cases h1:j<i
 · rw[if_pos h1,if_pos (by omega)]
 · by_cases h2:j=i
   · subst h2;rw[if_neg h1,if_pos rfl,if_pos (by omega)]
   · rw[if_neg h1,if_neg h2,if_neg (by omega)];by_cases h3:j=i+1
     · rw[if_pos h3];rfl
     · rw[if_neg h3]
theorem znE (b:List Nat) (n d:Nat):st b n d n 0=unp b n d:=by
 unfold st unp;apply List.map_congr_left;intro j hj;rw[if_pos (by simpa using hj)]
theorem un_or (b:List Nat) (p k:Nat):unN b p k ||| ((rdB b (p+k)).toNat*2 ^ k)=unN b p (k+1):=by
 have h:=Nat.two_pow_add_eq_or_of_lt (zfK b p k) (rdB b (p+k)).toNat;rw[Nat.or_comm,Nat.mul_comm,<-h,unN,Nat.add_comm,Nat.mul_comm]
theorem znL (b:List Nat) (p:Nat):(rdB b p).toNat=b.getD (p / 8) 0 / 2 ^ (p % 8) % 2:=by
 unfold rdB;rw[Nat.toNat_testBit]
def PunAns (w:World) (b:List UInt8) (n d:Nat) (e:Ending) (w':World):Prop:=
 ((∃l A c,PkIs (natB b) n d l/\e=.returned (.tuple #[.slice A n c,.int .i64 0])/\w'.ownsRow w.heap.size 3 1 (.slice A n c) n (nums .i64 (ints l)))\/((¬∃l,PkIs (natB b) n d l)/\e=.returned (.tuple #[.slice none 0 0,.int .i64 2])))/\Below w.heap.size w w'
theorem PunAns.no {w w':World} {b:List UInt8} {n d:Nat} {e:Ending} (h:¬∃l,PkIs (natB b) n d l) (he:e=.returned (.tuple #[.slice none 0 0,.int .i64 2])) (hb:Below w.heap.size w w'):PunAns w b n d e w':=⟨.inr ⟨h,he⟩,hb⟩
theorem zj9 {b:List UInt8} {n d:Nat} (h:b.length≠(n*d+7) / 8):¬∃l,PkIs (natB b) n d l:=by
 rintro ⟨l,rfl,_,h2⟩;have:=congrArg List.length h2;rw[packB_len,zmb]at this;exact h this.symm
theorem zjk (n d:Nat) (hn:n<=1000) (hd:d<=20) (w:World):Calls prog 80 #[.int .i64 n,.int .i64 d] w fun e w'=>e=.returned (.bool true)/\Below w.heap.size w w':=
 (PTopFile.pack_fits.calls (n:Int) (d:Int) true w (zkQ n d hn hd)).mono fun _ _ h=>⟨h.1,h.2.below⟩
theorem ziV (n:Nat) (hn:n<=100000) (w:World):Calls prog 81 #[.int .i64 n] w fun e w'=>e=.returned (.int .i64 ((n+7) / 8:Nat))/\Below w.heap.size w w':=
 (PTopFile.pack_size.calls (n:Int) _ w (size_eq n hn)).mono fun _ _ h=>⟨h.1,h.2.below⟩
theorem zcT (A:Option Addr) (c:Nat) (b:List UInt8) (n d:Nat) (w:World) (h:Fd.Seg w A b.length (Fd.bys b)) (hc:b.length<=c) (hl:b.length<=80000) (hn:n<=1000) (hd:d<=20) :
    Calls prog 31 #[.slice A b.length c,.int .i64 n,.int .i64 d] w (PunAns w b n d):=by
 have hnd:n*d<=1000*20:=Nat.mul_le_mul hn hd;have HF:=hid fun w=>zjk n d hn hd w;have HSZ:=hid fun w=>ziV (n*d) (by omega) w;have HS:=hid h;clear h;have hwm:IntKind.i64.wrap ((n:Int)*(d:Int))=((n*d:Nat):Int):=by
  rw[<-Int.natCast_mul,IntKind.wrap_i64];omega
 obtain ⟨nd,hnd2⟩:∃nd,n*d=nd:=⟨_,rfl⟩;rw[hnd2]at hnd HSZ hwm;have HND:=hid hnd2;clear hnd2;obtain ⟨sz,hsz⟩:∃sz,(nd+7) / 8=sz:=⟨_,rfl⟩;rw[hsz]at HSZ;have HSZE:=hid hsz;have hszb:sz<=3000:=(by omega);clear hsz;by_cases hE:b.length=sz
 · have hEz:¬(b.length:Int)<(sz:Int)/\¬(sz:Int)<(b.length:Int):=(by omega);have hne:((b.length:Int) != (sz:Int))=false:=(by rw[bne_eq_false_iff_eq];omega);have HE:=hid hE
   have hmk:∀W:World,(Instr.makeSlice 89 (.int .i64 (n:Int)) (.int .i64 (n:Int))).run prog W=.ok (.slice (some ⟨W.heap.size,0,none⟩) n n) (W.alloc (.cells (madeCells #[.int .i64 0] n) 3)):=
    fun W=>run_make_row' (P:=prog) 89 3 (.int .i64 0) 8 underlying89 Fd.info3 rfl .i64 .i64 n (by omega) (by omega) W
   clear hE hEz;go_enter func31,ntmps31
   go_wp2_with fail
   refine (HF.out _).mono ?_;rintro e w1 ⟨rfl,hb1⟩;have HB1:=hid hb1;clear hb1;go_wp2_with fail
   refine (HSZ.out _).mono ?_;rintro e w2 ⟨rfl,hb2⟩;have HB2:=hid (HB1.out.trans (hb2.mono HB1.out.size));clear hb2;have hg0:=HB2.out.size;have hown0:(w2.alloc (.cells (madeCells #[.int .i64 0] n) 3)).ownsRow w2.heap.size 3 1 (.slice (some ⟨w2.heap.size,0,none⟩) n n) n (nums .i64 (ints (st (natB b) n d 0 0))):=by
    rw[znB];have e:ints (List.replicate n 0)=List.replicate n (0:Int):=(by unfold ints;rw[List.map_replicate];rfl);rw[e];have:=Go.Proofs.YtaeiifngjglchaaGreatDoorW.PrintWords.own_made (k:=.i64) (e:=3) (base:=w2.heap.size) w2 n nL (by omega);exact this
   have HOWN0:=hid hown0;have HB3:=hid (HB2.out.alloc hg0 (.cells (madeCells #[.int .i64 0] n) 3));clear hown0;go_wp2;clear hmk;generalize hgg:w2.heap.size=g at HOWN0 hg0 ⊢;have HGG:=hid hgg;clear hgg;go_loopw [29] (fun v29 wr=>∃i:Nat,i<=n/\v29=.int .i64 i/\wr.ownsRow g 3 1 (.slice (some ⟨g,0,none⟩) n n) n (nums .i64 (ints (st (natB b) n d i 0)))/\Below w.heap.size w wr) (fun v29 _=>n-(RowKit.intOf v29).toNat)
   case atStart=>exact ⟨0,Nat.zero_le _,rfl,HOWN0.out,HB3.out⟩
   case round=>
    clear HOWN0 HB3;obtain ⟨i,hi,rfl,hown,hb⟩:=hrel;by_cases hlt:i<n
    · have HOWN:=hid hown;have HB:=hid hb;clear hown hb;go_wp2;go_loopw [33] (fun v33 wr=>∃k:Nat,k<=d/\v33=.int .i64 k/\wr.ownsRow g 3 1 (.slice (some ⟨g,0,none⟩) n n) n (nums .i64 (ints (st (natB b) n d i k)))/\Below w.heap.size w wr) (fun v33 _=>d-(RowKit.intOf v33).toNat)
      case atStart=>exact ⟨0,Nat.zero_le _,rfl,HOWN.out,HB.out⟩
      case round=>
       clear HOWN HB;obtain ⟨k,hk,rfl,hown,hb⟩:=hrel;by_cases hkd:k<d
       · obtain ⟨p,hp⟩:∃p,i*d=p:=⟨_,rfl⟩;have hpn:p+d<=nd:=by
          have:(i+1)*d<=n*d:=Nat.mul_le_mul_right d hlt;rw[Nat.add_mul,Nat.one_mul,hp,HND.out]at this;exact this
         have hwp:IntKind.i64.wrap ((i:Int)*(d:Int))=(p:Int):=by
          rw[<-Int.natCast_mul,hp,IntKind.wrap_i64];omega
         obtain ⟨at_,hat⟩:∃at_,p+k=at_:=⟨_,rfl⟩;have hatb:at_<nd:=(by omega);have hsum:(p:Int)+(k:Int)=(at_:Int):=(by omega);have hl8:at_ / 8<b.length:=(by have h1:=HE.out;have h2:=HSZE.out;omega);obtain ⟨ad,rfl,hcell⟩:=(HS.out.below hb).byte hl8;have hbyte:(natB b).getD (at_ / 8) 0=b[at_ / 8].toNat:=zmd b _ hl8;have hrd:=znL (natB b) at_;rw[hbyte]at hrd;have hbt:=b[at_ / 8].toNat_lt;have hun:=un_or (natB b) p k;rw[hat,hrd]at hun;have hul:=zfK (natB b) p k;have hst:=Go.Proofs.YtaeiifngjglchaaGreatDoorW.PrintWords.own_at hown (i:Int) (by omega) (by omega);rw[Int.toNat_natCast,zhe,st_get _ _ _ _ _ hlt,hp]at hst;obtain ⟨u,hu⟩:∃u,unN (natB b) p k=u:=⟨_,rfl⟩;obtain ⟨u2,hu2⟩:∃u2,unN (natB b) p (k+1)=u2:=⟨_,rfl⟩;rw[hu,hu2]at hun;rw[hu]at hul hst;have hu2l:=zfK (natB b) p (k+1);rw[hu2]at hu2l;obtain ⟨bt,hbte⟩:∃bt,b[at_ / 8].toNat=bt:=⟨_,rfl⟩;rw[hbte]at hun hbt hcell;obtain ⟨a8,ha8⟩:∃a8,at_ / 8=a8:=⟨_,rfl⟩;obtain ⟨r8,hr8⟩:∃r8,at_ % 8=r8:=⟨_,rfl⟩;rw[ha8]at hcell;rw[hr8]at hun;obtain ⟨sv,hsv⟩:∃sv,bt / 2 ^ r8=sv:=⟨_,rfl⟩;rw[hsv]at hun;obtain ⟨bit,hbit⟩:∃bit,sv % 2=bit:=⟨_,rfl⟩;rw[hbit]at hun;obtain ⟨sh,hsh⟩:∃sh,bit*2 ^ k=sh:=⟨_,rfl⟩;rw[hsh]at hun;have hsvl:sv<=bt:=(by rw[<-hsv];exact Nat.div_le_self _ _);have hbitl:bit<2:=(by rw[<-hbit];exact Nat.mod_lt _ (by decide));have h2k:2 ^ k<=2 ^ 20:=Nat.pow_le_pow_right (by decide) (by omega);have h2k1:2 ^ (k+1)<=2 ^ 20:=Nat.pow_le_pow_right (by decide) (by omega);have hshl:sh<=1048576:=by
          rw[<-hsh];have:=Nat.mul_le_mul (show bit<=1 by omega) h2k;omega
         have hr8l:r8<8:=(by omega);have ha8l:a8<b.length:=(by rw[<-ha8];exact hl8);have f1:Int.tdiv (at_:Int) 8=(a8:Int):=(by rw[div8,ha8]);have f2:Int.tmod (at_:Int) 8=(r8:Int):=(by rw[mod8,hr8]);have f3:IntKind.i64.wrap (a8:Int)=(a8:Int):=(wI (by omega));have f4:(bt:Int) / 2 ^ r8=(sv:Int):=(by rw[<-hsv];norm_cast);have f5:Go.bits .and .u8 (sv:Int) 1=(bit:Int):=by
          have:=bits_mask .u8 8 (by decide) wraps_u8 1 (by decide) (sv:Int) (by omega) (by omega);rw[show ((2:Int) ^ 1-1)=1 from rfl]at this;rw[this,<-hbit];rfl
         have f6:IntKind.i64.wrap (bit:Int)=(bit:Int):=(wI (by omega));have f7:IntKind.i64.wrap ((bit:Int)*2 ^ k)=(sh:Int):=by
          have e:(bit:Int)*2 ^ k=(sh:Int):=(by rw[<-hsh];norm_cast);rw[e,IntKind.wrap_i64];omega
         have f8:Go.bits .or .i64 (u:Int) (sh:Int)=(u2:Int):=(by rw[or64 _ _ (by omega) (by omega),hun]);have f9:IntKind.i64.wrap (at_:Int)=(at_:Int):=(wI (by omega));have g1:(0:Int)<=(a8:Int):=(by omega);have g2:(a8:Int)<(b.length:Int):=(by omega);have g3:(0:Int)<=(r8:Int):=(by omega);have g4:(0:Int)<=(k:Int):=(by omega);have g5:(i:Int)<(n:Int):=(by omega);have g6:(0:Int)<=(i:Int):=(by omega);obtain ⟨hst1,hst2⟩:=hst;have HST:=hid (znC (natB b) n d i k hlt);have HPD:=hid hp;have HU2:=hid hu2;have HB:=hid hb;have HOWN:=hid hown;have HCL:=hid hcell;clear hun hul hu hu2 hu2l hbte hbt ha8 hr8 hsv hbit hsh hsvl hbitl h2k h2k1 hshl hl8 hatb hat hbyte hrd hown hb hp;have hcl:=HCL.out;go_wp2_with fail
         refine sA 19 [18] (fun w'=>w'.cell? ⟨g,i,none⟩=some (.int .i64 (u:Int))/\w'.frozen? ⟨g,i,none⟩=false/\w'.cell? (ad.add a8)=some (.int .u8 (bt:Int))) ?_ (fun hHeld=>?_)
         · exact ⟨hst1,hst2,hcl⟩
         refine pU 0 ?_;refine pU 1 ?_;refine pU 2 ?_;refine tK 3 hHeld ?_;refine pU 4 ?_;refine pU 5 ?_;refine pU 6 ?_;refine pU 7 ?_;refine tK 8 hHeld ?_;refine pU 9 ?_;refine pU 10 ?_;refine pU 11 ?_;refine pU 12 ?_;refine pU 13 ?_;refine pU 14 ?_;refine pU 15 ?_;refine pU 16 ?_;refine pU 17 ?_;refine lA 18 (fun K hK=>?_);refine skip_ (w1:=?_) (by rfl) rfl ?_ ?_;rotate_left
         · obtain ⟨q0,q1,q2⟩:=hHeld;go_simp;rfl
         refine hK.out _ _ ?_;clear hK K;refine done_ (by kernel_rfl) ?_;have hval:Go.bits .or .i64 (u:Int) (IntKind.i64.wrap (IntKind.i64.wrap (Go.bits .and .u8 ((bt:Int) / 2 ^ min r8 8) 1)*2 ^ k))=(u2:Int):=by
          rw[Nat.min_eq_left (by omega),f4,f5,f6,f7,f8]
         try rw[hval]
         have hown2:=(Go.Proofs.YtaeiifngjglchaaGreatDoorW.PrintWords.own_store HOWN.out (i:Int) (u2:Int)).1;rw[Int.toNat_natCast,ints_set,<-HU2.out,<-HPD.out,HST.out,HPD.out,HU2.out]at hown2;have OWN2:=hid (hown2.drewFd 1);have HB2':=hid ((HB.out.setCell (p:=⟨g,i,none⟩) hg0 (.int .i64 (u2:Int))).drew);clear hown2 hval hHeld f1 f2 f3 f4 f5 f6 f7 f8 f9 g1 g2 g3 g4 g5 g6 hst1 hst2 hcl hsum hwp;go_wp2;go_round
         case measure=>simp[RowKit.intOf];omega
         case rel=>exact ⟨k+1,by omega,by go_num,OWN2.out,HB2'.out⟩
       · obtain rfl:k=d:=(by omega);rw[znD]at hown;have OWN:=hid hown;have HB:=hid hb;clear hown hb;go_wp2;go_round
         case measure=>simp[RowKit.intOf];omega
         case rel=>exact ⟨i+1,by omega,by go_num,OWN.out,HB.out⟩
    · obtain rfl:i=n:=(by omega);rw[znE]at hown;have hul:=zeX (natB b) i d;have hpk:=zcB (some ⟨g,0,none⟩) i (unp (natB b) i d) d wr (by rw[hul];exact Fd.Seg.of_own hown) (by rw[hul];exact nL) (zjD _ _ _) hd (by rw[hul];exact hn);rw[hul]at hpk;have HPK:=hid hpk;have OWN:=hid hown;have HB:=hid hb;have hple:(packB (unp (natB b) i d) d).length<=100000:=by
       rw[packB_len,hul,HND.out];omega
      have HPI:=hid (pk_is (natB b) i d);have HPB:=hid (zf8 (unp (natB b) i d) d);have HPL:=hid (fun x hx=>pk_lt (unp (natB b) i d) d _ x hx:∀x∈packB (unp (natB b) i d) d,x<256);have HUI:Hid (packB (unp (natB b) i d) d=natB b->PkIs (natB b) i d (unp (natB b) i d)):=fun h=>⟨zeX _ _ _,zjD _ _ _,h⟩;clear hpk hown hb hul;generalize unp (natB b) i d=L at HPK OWN hple HPI HPB HPL HUI;generalize packB L d=P at HPK hple HPI HPB HPL HUI;go_wp2_with fail
      refine HPK.out.mono ?_;rintro e w3 ⟨vp,rfl,hownp,hb3⟩;obtain ⟨Ap,cp,rfl⟩:=Fd.zac hownp;have HB3:=hid (HB.out.trans (hb3.mono HB.out.size));have OWN3:=hid (Fd.own_below OWN.out hb3);have hsp:Fd.Seg w3 Ap (P.map UInt8.ofNat).length (Fd.bys (P.map UInt8.ofNat)):=by
       rw[List.length_map,<-HPB.out];exact Fd.Seg.of_own hownp
      have heq:=beq_calls Ap cp (P.map UInt8.ofNat) A c b w3 hsp (by rw[List.length_map];exact Fd.own_le' hownp) (HS.out.below HB3.out) hc (by rw[List.length_map];omega) (by omega);rw[List.length_map]at heq;have HEQ:=hid heq;clear heq hsp hownp hb3 HPK OWN;by_cases hPE:P.map UInt8.ofNat=b
      · rw[dT hPE]at HEQ;have HOK:=hid (HUI.out (by rw[<-zdK P HPL.out,hPE]));clear hPE;go_wp2_with fail
        refine HEQ.out.mono ?_;rintro e w4 ⟨rfl,hb4⟩;have HB4:=hid (HB3.out.trans (hb4.mono HB3.out.size));have OWN4:=hid (zam (Fd.own_below OWN3.out hb4) hg0);clear hb4 HEQ;go_wp2;go_ret2;exact ⟨.inl ⟨L,_,_,HOK.out,rfl,OWN4.out⟩,HB4.out⟩
      · rw[dF hPE]at HEQ;have HN:Hid (¬∃l,PkIs (natB b) i d l):=fun h=>hPE (zmc (by rw[zdK P HPL.out];exact HPI.out.1 h));clear hPE;go_wp2_with fail
        refine HEQ.out.mono ?_;rintro e w4 ⟨rfl,hb4⟩;have HB4:=hid (HB3.out.trans (hb4.mono HB3.out.size));clear hb4 HEQ;go_wp2;go_ret2;exact PunAns.no HN.out rfl HB4.out
 · have HN:=hid (zj9 (b:=b) (n:=n) (d:=d) (by rw[HND.out,HSZE.out];exact hE));have hne:((b.length:Int) != (sz:Int))=true:=(by rw[bne_iff_ne];omega);clear hE;go_enter func31,ntmps31
   go_wp2_with fail
   refine (HF.out _).mono ?_;rintro e w1 ⟨rfl,hb1⟩;have HB1:=hid hb1;clear hb1;go_wp2_with fail
   refine (HSZ.out _).mono ?_;rintro e w2 ⟨rfl,hb2⟩;have HB2:=hid (HB1.out.trans (hb2.mono HB1.out.size));clear hb2;go_wp2;go_ret2;exact PunAns.no HN.out rfl HB2.out
end Go.Proofs.YtaeiifngjglchaaGreatDoor
end
