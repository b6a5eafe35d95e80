/- Proved on the way: What bytes are a Store's file: the steps; Package store: Decode; The document's store of sorted triples: . Each theorem states its own conditions. -/
import Derived.Test.YtjcpjopbgngihaaGreatDoorM23
import Derived.Test.YtjcpjopbgngihaaGreatDoorM25
set_option maxHeartbeats 16000000
set_option maxRecDepth 1000000
set_option linter.unusedSimpArgs false
section
namespace Go.Proofs.YtjcpjopbgngihaaGreatDoor
open Tryz
open Go.RowKit Go.Lib Tv Go.Sort Pk
def IsFile (b:Bs):Prop:=∃L ts,StP L ts/\fileN ts L=b
theorem IsFile.secs {b:Bs} {l:List Bx.Sec} (h:Bx.BxIs b l) (hf:IsFile b):∃L ts,StP L ts/\fileN ts L=b/\l=secN ts L:=by
 obtain ⟨L,ts,hs,rfl⟩:=hf;exact ⟨L,ts,hs,rfl,h.uniq hs.bx⟩
theorem zkR {b:Bs} (h:¬∃l,Bx.BxIs b l):¬IsFile b:=fun ⟨_,_,hs,e⟩=>h ⟨_,e ▸ hs.bx⟩
theorem znJ {b:Bs} {l:List Bx.Sec} (h:Bx.BxIs b l) (h2:l.length≠2):¬IsFile b:=fun hf=>by
 obtain ⟨L,ts,_,_,rfl⟩:=hf.secs h;exact h2 rfl
theorem IsFile.two {b:Bs} {i j:Nat} {x y:Bs} (h:Bx.BxIs b [⟨i,x⟩,⟨j,y⟩]) (hf:IsFile b):∃L ts,StP L ts/\fileN ts L=b/\x=Fp.enc (texts ts)/\y=bodyN ts L:=by
 obtain ⟨L,ts,hs,he,hl⟩:=hf.secs h;unfold secN at hl;injection hl with h1 h2;injection h2 with h2 _;injection h1 with _ h1;injection h2 with _ h2;exact ⟨L,ts,hs,he,h1,h2⟩
theorem zkP {b:Bs} {i j:Nat} {x y:Bs} (h:Bx.BxIs b [⟨i,x⟩,⟨j,y⟩]) (h2:y.length<2):¬IsFile b:=fun hf=>by
 obtain ⟨L,ts,_,_,_,rfl⟩:=hf.two h;unfold bodyN at h2;simp only[List.length_cons]at h2;omega
theorem StP.rd {L:List VTri} {ts:List VTm} (h:StP L ts):Fd.Rd (Fp.enc (texts ts)) (tsS ts):=⟨h.mayS,by rw[zj6]⟩
theorem no_rd {b:Bs} {i j:Nat} {x y:Bs} (h:Bx.BxIs b [⟨i,x⟩,⟨j,y⟩]) (h2:¬∃l,Fd.Rd x l):¬IsFile b:=fun hf=>by
 obtain ⟨L,ts,hs,_,rfl,_⟩:=hf.two h;exact h2 ⟨_,hs.rd⟩
theorem znS {L:List VTri} {ts:List VTm} (h:StP L ts) {p0 p1:UInt8} {q:Bs} (he:p0::p1::q=bodyN ts L):p0.toNat*256+p1.toNat=L.length/\q=(Pk.packB (rowN ts L) (Lib.bitLen ts.length)).map UInt8.ofNat:=by
 unfold bodyN at he;injection he with h1 h2;injection h2 with h2 h3;subst h1;subst h2
 have:=h.len;refine ⟨?_,h3⟩;rw[UInt8.toNat_ofNat',UInt8.toNat_ofNat'];omega
theorem no_n {b:Bs} {i j:Nat} {x:Bs} {p0 p1:UInt8} {q:Bs} (h:Bx.BxIs b [⟨i,x⟩,⟨j,p0::p1::q⟩]) (h2:100<p0.toNat*256+p1.toNat):¬IsFile b:=fun hf=>by
 obtain ⟨L,ts,hs,_,_,hb⟩:=hf.two h;have:=(znS hs hb).1;have:=hs.len;omega
theorem IsFile.read {b:Bs} {i j:Nat} {x:Bs} {p0 p1:UInt8} {q:Bs} {d:List ByteArray} (h:Bx.BxIs b [⟨i,x⟩,⟨j,p0::p1::q⟩]) (hd:Fd.Rd x d) (hf:IsFile b) :
    ∃L ts,StP L ts/\fileN ts L=b/\d=tsS ts/\p0.toNat*256+p1.toNat=L.length/\Pk.PkIs (natB q) (L.length*3) (Lib.bitLen d.length) (rowN ts L):=by
 obtain ⟨L,ts,hs,he,hx,hb⟩:=hf.two h;obtain ⟨hn,hq⟩:=znS hs hb;have hdd:d=tsS ts:=hd.uniq (hx ▸ hs.rd);refine ⟨L,ts,hs,he,hdd,hn,?_⟩;rw[hdd,zaS,hq,zdV _ (fun x hx=>Pk.pk_lt _ _ _ x hx:∀x∈Pk.packB (rowN ts L) (Lib.bitLen ts.length),x<256)];exact hs.pk
theorem no_pk {b:Bs} {i j n:Nat} {x:Bs} {p0 p1:UInt8} {q:Bs} {d:List ByteArray} (h:Bx.BxIs b [⟨i,x⟩,⟨j,p0::p1::q⟩]) (hd:Fd.Rd x d) (hn:p0.toNat*256+p1.toNat=n) (h2:¬∃l,Pk.PkIs (natB q) (3*n) (Lib.bitLen d.length) l):¬IsFile b:=fun hf=>by
 obtain ⟨L,ts,_,_,_,h3,h4⟩:=hf.read h hd;apply h2;rw[<-hn,h3,Nat.mul_comm];exact ⟨_,h4⟩
theorem ex_no {ts:List VTm} {x:VTm} (h:x∈ts):exE (tsS ts) (noOf ts x:Int)=some x.1:=by
 obtain ⟨h1,h2⟩:=zaZ h;have hg:=zcn h;unfold exE;have he:Fd.extZ (tsS ts) (noOf ts x:Int)=str (shw x.1):=by
  unfold Fd.extZ;rw[dif_pos ⟨by omega,by rw[zaS];omega⟩];have e:((noOf ts x:Int)-1).toNat=noOf ts x-1:=(by omega);have hq:(tsS ts)[((noOf ts x:Int)-1).toNat]?=some (str (shw x.1)):=by
   rw[e];unfold tsS;rw[List.getElem?_map,hg];rfl
  exact (List.getElem?_eq_some_iff.1 hq).2
 rw[he,zae];exact (za0 _ _).2 ⟨x.2,rfl⟩
theorem zkt (ts:List VTm):∀(L:List VTri) (k:Nat) (h:k<L.length),(rowN ts L)[3*k]?=some (noOf ts (sM L[k]))/\(rowN ts L)[3*k+1]?=some (noOf ts (pM L[k]))/\(rowN ts L)[3*k+2]?=some (noOf ts (oM L[k]))
 | [],k,h=>by simp at h
 | t::L,0,_=>⟨rfl,rfl,rfl⟩
 | t::L,k+1,h=>by
  have ih:=zkt ts L k (by simpa using h);exact ih
theorem StP.tris {L:List VTri} {ts:List VTm} (h:StP L ts):(List.range L.length).map (chT (tsS ts) (ints (rowN ts L)))=(L.map Subtype.val).map some:=by
 apply List.ext_getElem
 · simp
 · intro k h1 h2;have hk:k<L.length:=(by simpa using h1);have hm:L[k]∈L:=List.getElem_mem hk;obtain ⟨r0,r1,r2⟩:=zkt ts L k hk;have key:∀(i:Nat) (z:VTm),(rowN ts L)[i]?=some (noOf ts z)->z∈ts->exE (tsS ts) ((ints (rowN ts L)).getD i 0)=some z.1:=by
    intro i z hi hz;unfold ints;rw[List.getD_eq_getElem?_getD,List.getElem?_map,hi];exact ex_no hz
   rw[List.getElem_map,List.getElem_range];unfold chT;rw[zhk (key _ _ r0 (h.s hm)) (key _ _ r1 (h.p hm)) (key _ _ r2 (h.o hm))];simp;rfl
theorem zkN {b:Bs} {i j n:Nat} {x:Bs} {p0 p1:UInt8} {q:Bs} {d:List ByteArray} {l:List Nat} (h:Bx.BxIs b [⟨i,x⟩,⟨j,p0::p1::q⟩]) (hd:Fd.Rd x d) (hn:p0.toNat*256+p1.toNat=n) (hl:Pk.PkIs (natB q) (3*n) (Lib.bitLen d.length) l)
    (h2:¬∃ts:List Tri,(List.range n).map (chT d (ints l))=ts.map some/\∀t∈ts,triT t=true):¬IsFile b:=fun hf=>by
 obtain ⟨L,ts,hs,_,rfl,h3,h4⟩:=hf.read h hd;apply h2;have hln:n=L.length:=hn.symm.trans h3;rw[hln,Nat.mul_comm]at hl;obtain rfl:l=rowN ts L:=hl.unp.trans h4.unp.symm;refine ⟨L.map Subtype.val,?_,?_⟩
 · rw[hln];exact hs.tris
 · intro t ht;obtain ⟨v,_,rfl⟩:=List.mem_map.1 ht;exact v.2
theorem zf3 {ts:List Tri} (h:∀t∈ts,triT t=true):∃L:List VTri,L.map Subtype.val=ts:=⟨ts.pmap (fun t h=>⟨t,h⟩) h,by rw[List.map_pmap];simp⟩
theorem zig {a b:List VTri} (h:a.map Subtype.val=b.map Subtype.val):a=b:=by
 induction a generalizing b with
 | nil=>cases b with
  | nil=>rfl
  | cons _ _=>cases h
 | cons x a ih=>cases b with
  | nil=>cases h
  | cons y b=>
   rw[List.map_cons,List.map_cons]at h;injection h with h1 h2;rw[Subtype.ext h1,ih h2]
theorem zkO {b:Bs} {i j n:Nat} {x:Bs} {p0 p1:UInt8} {q:Bs} {d:List ByteArray} {l:List Nat} {A r:List VTri} {ts:List VTm} (h:Bx.BxIs b [⟨i,x⟩,⟨j,p0::p1::q⟩]) (hd:Fd.Rd x d) (hn:p0.toNat*256+p1.toNat=n) (hl:Pk.PkIs (natB q) (3*n) (Lib.bitLen d.length) l)
    (hA:(List.range n).map (chT d (ints l))=(A.map Subtype.val).map some) (hr:SortOf A r) (hs:StP r ts) (h2:fileN ts r≠b):¬IsFile b:=fun hf=>by
 obtain ⟨L,ts',hs',he,rfl,h3,h4⟩:=hf.read h hd;apply h2;have hln:n=L.length:=hn.symm.trans h3;rw[hln,Nat.mul_comm]at hl;obtain rfl:l=rowN ts' L:=hl.unp.trans h4.unp.symm;rw[hln,hs'.tris]at hA;obtain rfl:A=L:=zig (zgf hA).symm;obtain rfl:r=A:=hr.one ⟨hs'.rise,fun _=>Iff.rfl⟩;obtain rfl:ts=ts':=hs.terms.one hs'.terms;exact he
theorem SortOf.len {A r:List VTri} (h:SortOf A r):r.length<=A.length:=zhr r A (Rise.nodup swoV h.1) fun x hx=>(h.2 x).1 hx
end Go.Proofs.YtjcpjopbgngihaaGreatDoor
end
section
namespace Go.Proofs.YtjcpjopbgngihaaGreatDoor
open Tryz
open Go.RowKit Go.Lib Tv Go.Sort Pk
open Go.Proofs.YtjcpjopbgngihaaGreatDoorW.PrintLast
open Go.Proofs.YtjcpjopbgngihaaGreatDoorW.PrintWords (nums)
def DecAns (w:World) (b:Bs) (e:Ending) (w':World):Prop:=
 ((∃S v L ts,fileN ts L=b/\StoreIs w' S v L ts/\e=.returned (.tuple #[.pointer (some ⟨S,0,none⟩),.int .i64 0]))\/(¬IsFile b/\e=.returned (.tuple #[.pointer none,.int .i64 2])))/\Below w.heap.size w w'
theorem DecAns.no {w w':World} {b:Bs} {e:Ending} (h:¬IsFile b) (he:e=.returned (.tuple #[.pointer none,.int .i64 2])) (hb:Below w.heap.size w w'):DecAns w b e w':=⟨.inr ⟨h,he⟩,hb⟩
theorem PunAns.two {w w':World} {b:List UInt8} {n d:Nat} {e:Ending} (h:PunAns w b n d e w'):∃vr er,e=.returned (.tuple #[vr,.int .i64 er])/\((∃l A c,PkIs (natB b) n d l/\vr=.slice A n c/\er=0/\w'.ownsRow w.heap.size 3 1 (.slice A n c) n (nums .i64 (ints l)))\/((¬∃l,PkIs (natB b) n d l)/\er=2))/\Below w.heap.size w w':=by
 rcases h with ⟨⟨l,A,c,h1,rfl,h2⟩ | ⟨h1,rfl⟩,hb⟩
 · exact ⟨_,_,rfl,.inl ⟨l,A,c,h1,rfl,rfl,h2⟩,hb⟩
 · exact ⟨_,_,rfl,.inr ⟨h1,rfl⟩,hb⟩
theorem zjp (A:Option Addr) (c:Nat) (b:Bs) (w:World) (hs:Fd.Seg w A b.length (Fd.bys b)) (hA:0<b.length->∃g,A=some ⟨g,0,none⟩) (hbig:b.length<=80000) (hc:b.length<=c) :
    Calls prog 16 #[.slice A b.length c] w (Fd.ReadsAs w b):=by
 by_cases h2:b.length<2
 · exact Fd.zjo A c b w h2
 · obtain ⟨g,rfl⟩:=hA (by omega);exact Fd.zkx g c b w hs (by omega) hbig hc
theorem zce (x:Nat) (h:x<1000000):IntKind.i64.wrap (x:Int)=(x:Int):=wI (by omega)
theorem n_val (a c:Nat) (ha:a<256) (hb:c<256):IntKind.i64.wrap (IntKind.i64.wrap (IntKind.i64.wrap (a:Int)*256)+IntKind.i64.wrap (c:Int))=((a*256+c:Nat):Int):=by
 rw[zce a (by omega),zce c (by omega),show (a:Int)*256=((a*256:Nat):Int) by omega,zce (a*256) (by omega),show ((a*256:Nat):Int)+(c:Int)=((a*256+c:Nat):Int) by omega,zce _ (by omega)]
theorem zgZ (blk c:Nat) (b:Bs) (w:World) (h4:4<=w.heap.size) (hl:Lay w) (h:Fd.Seg w (some ⟨blk,0,none⟩) b.length (Fd.bys b)) (hc:b.length<=c) (hlen:b.length<=20000) :
    Calls prog 5 #[.slice (some ⟨blk,0,none⟩) b.length c] w (DecAns w b):=by
 have HUN:=hid (zek blk c b w h hc hlen);have HS:=hid h;have HLA:=hid hl;clear h hl;go_enter func5,ntmps5
 go_wp2_with fail
 refine HUN.out.mono ?_;rintro e w1 ⟨⟨xs,v,hbx,rfl,hrow,hpart⟩ | ⟨hno,rfl⟩,hb1⟩
 case inr=>
  have HN:=hid (zkR hno);have HB1:=hid hb1;clear hno hb1;go_wp2;go_ret2;exact DecAns.no HN.out rfl HB1.out
 obtain ⟨Ax,cx,rfl⟩:=Fd.zac hrow.own;have HB1:=hid hb1;have HBX:=hid hbx;have HROW:=hid hrow;have HPART:=hid hpart;clear hb1 hbx hrow hpart HUN;by_cases h2:xs.length=2
 case neg=>
  have HN:=hid (znJ HBX.out (by rw[zaD];exact h2));have hz:((xs.length:Int) != 2)=true:=(by rw[bne_iff_ne];omega);generalize xs.length=xl at hz;clear h2 HBX HROW HPART;go_wp2;go_ret2;exact DecAns.no HN.out rfl HB1.out
 obtain ⟨x0,x1,rfl⟩:∃x0 x1,xs=[x0,x1]:=by
  match xs,h2 with
  | [x0,x1],_=>exact ⟨x0,x1,rfl⟩
 clear h2;obtain ⟨gx,rfl,_,_⟩:=zbn HROW.out.own (by simp);obtain ⟨ci0,ca0⟩:=HROW.out.at_ 0 x0 rfl;obtain ⟨ci1,ca1⟩:=HROW.out.at_ 1 x1 rfl;obtain ⟨p0h,p0c⟩:=HROW.out.part x0 (by simp);obtain ⟨p1h,p1c⟩:=HROW.out.part x1 (by simp);obtain ⟨l0,a0⟩:=HPART.out x0 (by simp);obtain ⟨l1,a1⟩:=HPART.out x1 (by simp);obtain ⟨i0,A0,c0,b0⟩:=x0;obtain ⟨i1,A1,c1,b1⟩:=x1;simp only at ci0 ca0 ci1 ca1 p0h p0c p1h p1c l0 a0 l1 a1;have hbx:Bx.BxIs b [⟨i0,b0⟩,⟨i1,b1⟩]:=HBX.out;have HBX2:=hid hbx;have HC0:=hid ca0;have HC1:=hid ca1;clear hbx HBX HROW HPART ci0 ci1;rw[show ([⟨i0,A0,c0,b0⟩,⟨i1,A1,c1,b1⟩]:List SecV).length=2 from rfl];by_cases h22:b1.length<2
 case pos=>
  have HN:=hid (zkP HBX2.out h22);have hz:(b1.length:Int)<2:=(by omega);clear h22;go_wp2;go_ret2;exact DecAns.no HN.out rfl HB1.out
 have hz:¬(b1.length:Int)<2:=(by omega);obtain ⟨p0,p1,q,rfl⟩:∃p0 p1 q,b1=p0::p1::q:=by
  match b1,h22 with
  | p0::p1::q,_=>exact ⟨p0,p1,q,rfl⟩
  | [_],h=>exact absurd (by simp) h
  | [],h=>exact absurd (by simp) h
 obtain ⟨blen,hblen⟩:∃blen,(p0::p1::q).length=blen:=⟨_,rfl⟩;have hbq:blen=q.length+2:=(by rw[<-hblen];simp);obtain ⟨g1,rfl⟩:=a1 (by simp);have hk0:w1.cell? ⟨g1,0,none⟩=some (.int .u8 (p0.toNat:Int)):=by
  obtain ⟨ad,e,h⟩:=p1h.byte (k:=0) (by simp);cases e
  exact h
 have hk1:w1.cell? ⟨g1,1,none⟩=some (.int .u8 (p1.toNat:Int)):=by
  obtain ⟨ad,e,h⟩:=p1h.byte (k:=1) (by simp);cases e
  rw[Fd.add_zero']at h;exact h
 have HQS:Hid (Fd.Seg w1 (some ⟨g1,2,none⟩) q.length (Fd.bys q)):=by
  have:=Fd.zbJ p1h 2 q.length (by simp;omega);rw[show (List.drop 2 (p0::p1::q)).take q.length=q from by simp]at this;exact this
 have HRD:=hid (zjp A0 c0 b0 w1 p0h a0 (by omega) p0c);have HK0:=hid hk0;have HK1:=hid hk1;have HBL:=hid hblen;rw[hblen]at hz p1c l1 ca1;clear hk0 hk1 h22 p0h p1h a0 a1 HC0 HC1;clear hblen;go_wp2_with fail
 refine HRD.out.mono ?_;rintro e w2 ⟨⟨d,D,hrd,rfl,hdic⟩ | ⟨hno,rfl⟩,hb2⟩
 case inr=>
  have HN:=hid (no_rd HBX2.out hno);have HB2:=hid (HB1.out.trans (hb2.mono HB1.out.size));have HQL:=hid hbq;clear HQS hno;have k0:=zaa HK0.out hb2;have k1:=zaa HK1.out hb2;have ca2:=zaa ca1 hb2;have ha:=p0.toNat_lt;have hb:=p1.toNat_lt;have z0:(0:Int)<(blen:Int):=(by omega);have z1:(1:Int)<(blen:Int):=(by omega);have y0:0<blen:=(by omega);have y1:1<blen:=(by omega);obtain ⟨n,hn⟩:∃n,p0.toNat*256+p1.toNat=n:=⟨_,rfl⟩;have HNE:=hid hn;have hval:=n_val p0.toNat p1.toNat ha hb;rw[hn]at hval;have HVAL:=hid hval;generalize p0.toNat=a at k0 ha hval HVAL;generalize p1.toNat=cc at k1 hb hval HVAL;have ha0:(a:Int)<=255:=(by omega);have hb0:(cc:Int)<=255:=(by omega);clear HK0 HK1 HRD hbq ha hb hval hn;go_wp2_with fail
  refine sA 11 [] (fun w'=>w'.cell? ⟨g1,0,none⟩=some (.int .u8 (a:Int))/\w'.cell? ⟨g1,1,none⟩=some (.int .u8 (cc:Int))) ?_ (fun hHeld=>?_)
  · exact ⟨k0,k1⟩
  refine pU 0 ?_;refine pU 1 ?_;refine tK 2 hHeld ?_;refine pU 3 ?_;refine pU 4 ?_;refine pU 5 ?_;refine pU 6 ?_;refine tK 7 hHeld ?_;refine pU 8 ?_;refine pU 9 ?_;refine pU 10 ?_;refine done_ (by kernel_rfl) ?_;rw[HVAL.out];clear hHeld k0 k1 ha0 hb0 HVAL;go_wp2;go_ret2;exact DecAns.no HN.out rfl HB2.out.drew
 have HB2:=hid (HB1.out.trans (hb2.mono HB1.out.size));have HQ2:=hid (HQS.out.below hb2);have HRDD:=hid hrd;have HDIC:=hid hdic;have HQL:=hid hbq;clear hrd hdic HQS;have k0:=zaa HK0.out hb2;have k1:=zaa HK1.out hb2;have ca2:=zaa ca1 hb2;have ha:=p0.toNat_lt;have hb:=p1.toNat_lt;have z0:(0:Int)<(blen:Int):=(by omega);have z1:(1:Int)<(blen:Int):=(by omega);have y0:0<blen:=(by omega);have y1:1<blen:=(by omega);obtain ⟨n,hn⟩:∃n,p0.toNat*256+p1.toNat=n:=⟨_,rfl⟩;have HNE:=hid hn;have hval:=n_val p0.toNat p1.toNat ha hb;rw[hn]at hval;have HVAL:=hid hval;generalize p0.toNat=a at k0 ha hval HVAL;generalize p1.toNat=cc at k1 hb hval HVAL;have ha0:(a:Int)<=255:=(by omega);have hb0:(cc:Int)<=255:=(by omega);clear HK0 HK1 HRD hbq ha hb hval hn;go_wp2_with fail
 refine sA 11 [] (fun w'=>w'.cell? ⟨g1,0,none⟩=some (.int .u8 (a:Int))/\w'.cell? ⟨g1,1,none⟩=some (.int .u8 (cc:Int))) ?_ (fun hHeld=>?_)
 · exact ⟨k0,k1⟩
 refine pU 0 ?_;refine pU 1 ?_;refine tK 2 hHeld ?_;refine pU 3 ?_;refine pU 4 ?_;refine pU 5 ?_;refine pU 6 ?_;refine tK 7 hHeld ?_;refine pU 8 ?_;refine pU 9 ?_;refine pU 10 ?_;refine done_ (by kernel_rfl) ?_;rw[HVAL.out];clear hHeld k0 k1 ha0 hb0 HVAL;by_cases h100:100<n
 · have HN:=hid (no_n HBX2.out (by rw[HNE.out];exact h100));have hgt:(100:Int)<(n:Int):=(by omega);clear h100;go_wp2;go_ret2;exact DecAns.no HN.out rfl HB2.out.drew
 have hgt:¬(100:Int)<(n:Int):=(by omega);have hgt2:(n:Int)<=100:=(by omega);obtain ⟨w3,hw3⟩:∃w3,w2.drew=w3:=⟨_,rfl⟩;have hb23:Below w2.heap.size w2 w3:=(by rw[<-hw3];exact br.drew);have HB3:=hid (HB2.out.trans (hb23.mono HB2.out.size));have HQ3:=hid (HQ2.out.below hb23);have HDIC3:=hid (HDIC.out.below hb23);have hdl:=HDIC.out.may.1;clear hb23 ca2 HB2 HQ2 HDIC;rw[hw3];clear hw3;have z2:(2:Int)<=(blen:Int):=(by omega);have y2:2<=blen:=(by omega);have f3:IntKind.i64.wrap ((n:Int)*3)=((3*n:Nat):Int):=(wI (by omega));obtain ⟨Aq,hAq⟩:∃Aq:Option Addr,(if c1=2 then some (⟨g1,0,none⟩:Addr) else some ⟨g1,2,none⟩)=Aq:=⟨_,rfl⟩;have HSQ:Hid (Fd.Seg w3 Aq q.length (Fd.bys q)):=by
  show Fd.Seg w3 Aq q.length (Fd.bys q);rw[<-hAq];by_cases h2:c1=2
  · rw[if_pos h2];have hq0:q.length=0:=(by have:=HQL.out;omega);obtain rfl:q=[]:=List.eq_nil_of_length_eq_zero hq0;exact ⟨rfl,fun h=>absurd h (by simp)⟩
  · rw[if_neg h2];exact HQ3.out
 go_wp2_with fail
 refine sT 13 (fun hHeld=>?_);refine pU 0 ?_;refine pU 1 ?_;refine pU 2 ?_;refine pU 3 ?_;refine pU 4 ?_;refine oN 5 (fun K hK=>?_);refine cL func19 #[.pointer (some ⟨D,0,none⟩)] ?_;refine (Fd.zgF D d _ (HDIC3.out.below br.drew)).mono ?_;rintro e w4 ⟨rfl,rfl⟩;refine ⟨_,rfl,?_⟩;refine oU hK trivial (fun hHeld=>?_);clear hK K;refine oN 6 (fun K hK=>?_);refine cL func18 #[.int .i64 d.length] ?_;refine (zdp d.length (by omega) _).mono ?_;rintro e w4 ⟨rfl,hb4⟩;refine ⟨_,rfl,?_⟩;have hb4':Below w3.heap.size w3 w4:=br.drew.trans hb4;have HB4:=hid (HB3.out.trans (hb4'.mono HB3.out.size));have HQ4:=hid (HSQ.out.below hb4');have HDIC4:=hid (HDIC3.out.below hb4');refine oU hK trivial (fun hHeld=>?_);clear hK K;have hqe:q.length=blen-2:=(by have:=HQL.out;omega);have hpu:=zda Aq (c1-2) q (3*n) (Lib.bitLen d.length) w4 HQ4.out (by omega) (by omega) (by omega) (by have:=zbs hdl;omega);rw[hqe,show ((3*n:Nat):Int)=3*(n:Int) by omega]at hpu;have HPU:=hid hpu;clear hpu hqe hb4 hb4' HB3 HQ3 HDIC3 HQ4 HSQ;refine oN 7 (fun K hK=>?_);refine cL func17 #[.slice Aq (blen-2) (c1-2),.int .i64 (3*(n:Int)),.int .i64 (Lib.bitLen d.length:Nat)] ?_;refine HPU.out.mono ?_;rintro e w5 hpun;obtain ⟨vr,er,rfl,hor,hb5⟩:=hpun.two;refine ⟨_,rfl,?_⟩;have HB5:=hid (HB4.out.trans (hb5.mono HB4.out.size));have HDIC5:=hid (HDIC4.out.below hb5);have HOR:=hid hor;clear hor hb5 HDIC4 HB4 hpun HPU;refine oU hK trivial (fun hHeld=>?_);clear hK K;refine pU 8 ?_;refine pU 9 ?_;refine pU 10 ?_;refine pU 11 ?_;refine pU 12 ?_;refine done_ (by kernel_rfl) ?_;clear hHeld f3;rcases HOR.out with ⟨l,Ar,cr,hpk,rfl,rfl,hrow⟩ | ⟨hno,rfl⟩
 case inr=>
  have HN:=hid (no_pk HBX2.out HRDD.out HNE.out hno);clear hno HOR;go_wp2;go_ret2;exact DecAns.no HN.out rfl HB5.out
 have HPK:=hid hpk;have hdsz:∀s∈d,s.size<=40000:=by
  intro s hs;obtain ⟨i,hi,rfl⟩:=List.mem_iff_getElem.1 hs;have:=(HDIC5.out.may.2 i hi).2.2.1;omega
 have HTR:=hid (zfi D d Ar cr n (ints l) w5 (by have:=HB5.out.size;omega) (HLA.out.below HB5.out) HDIC5.out hdsz (zaj hrow (Nat.zero_le _)) (by omega));clear hpk hrow HOR hdsz;go_wp2_with fail
 refine HTR.out.mono ?_;rintro e w6 ⟨⟨ts,v6,rfl,hmap,hok,hown⟩ | ⟨hno,v6,rfl⟩,hb6⟩
 case inr=>
  have HN:=hid (zkN HBX2.out HRDD.out HNE.out HPK.out hno);have HB6:=hid (HB5.out.trans (hb6.mono HB5.out.size));clear hno hb6;go_wp2;go_ret2;exact DecAns.no HN.out rfl HB6.out
 have HB6:=hid (HB5.out.trans (hb6.mono HB5.out.size));obtain ⟨A0L,rfl⟩:=zf3 hok;have hlen0:A0L.length=n:=by
  have:=congrArg List.length hmap;simp at this;omega
 have hrv:RowV w6 w5.heap.size v6 A0L:=by
  unfold RowV;rw[List.length_map,List.flatMap_map]at hown;exact hown
 have HSO:=hid (zeQ A0L v6 w5.heap.size w6 hrv (by omega));have HMAP:=hid hmap;clear hown hrv hok hmap hb6 HTR;go_wp2_with fail
 refine HSO.out.mono ?_;rintro e w7 ⟨v7,r,rfl,hrow7,hsort,hb7⟩;have HB7:=hid (HB6.out.trans (hb7.mono HB6.out.size));have hrl:=hsort.len;have HMD:=hid (zeY r v7 w7 (zaj hrow7 (Nat.zero_le _)) hsort.1 (by omega));have HSORT:=hid hsort;clear hrow7 hsort hb7 HSO;go_wp2_with fail
 refine HMD.out.mono ?_;rintro e w8 ⟨S,ts,rfl,hst,hb8⟩;have HB8:=hid (HB7.out.trans (hb8.mono HB7.out.size));have HST:=hid hst;have HEN:=hid (zc5 S v7 r ts w8 hst);clear hst hb8 HMD;go_wp2_with fail
 refine HEN.out.mono ?_;rintro e w9 ⟨A9,c9,rfl,hown9,hb9⟩;have HB9:=hid (HB8.out.trans (hb9.mono HB8.out.size));have HST9:=hid (HST.out.below hb9);have hfl:(fileN ts r).length<=1000000:=by
  have:=HST.out.ok.bx;have h1:=this.1.2.2;have h2:(fileN ts r).length=9+7*(secN ts r).length+(Bx.bodB (secN ts r)).length:=Bx.zcz _;omega
 have HEQ:=hid (beq_calls A9 c9 (fileN ts r) (some ⟨blk,0,none⟩) c b w9 (Fd.Seg.of_own hown9) (Fd.own_le' hown9) (HS.out.below HB9.out) hc hfl (by omega));clear hown9 hb9 HEN HST;by_cases hE:fileN ts r=b
 · rw[dT hE]at HEQ;have HEE:=hid hE;generalize (fileN ts r).length=fl at HEQ hfl ⊢;clear hE;go_wp2_with fail
   refine HEQ.out.mono ?_;rintro e w10 ⟨rfl,hb10⟩;have HB10:=hid (HB9.out.trans (hb10.mono HB9.out.size));have HST10:=hid (HST9.out.below hb10);clear hb10 HEQ;go_wp2;go_ret2;exact ⟨.inl ⟨S,v7,r,ts,HEE.out,HST10.out,rfl⟩,HB10.out⟩
 · rw[dF hE]at HEQ;have HN:=hid (zkO HBX2.out HRDD.out HNE.out HPK.out HMAP.out HSORT.out HST9.out.ok hE);generalize (fileN ts r).length=fl at HEQ hfl ⊢;clear hE;go_wp2_with fail
   refine HEQ.out.mono ?_;rintro e w10 ⟨rfl,hb10⟩;have HB10:=hid (HB9.out.trans (hb10.mono HB9.out.size));clear hb10 HEQ;go_wp2;go_ret2;exact DecAns.no HN.out rfl HB10.out
end Go.Proofs.YtjcpjopbgngihaaGreatDoor
end
section
namespace Go.Proofs.YtjcpjopbgngihaaGreatDoor
open Tryz
open Go.RowKit Go.Lib Tv Go.Sort
open Go.Proofs.YtjcpjopbgngihaaGreatDoorW.PrintLast
structure OSt (w wr:World) (S:Nat) (vT vE vS vI:Value) (ts:List VTm) (ss:List ByteArray) (ids:List Ids):Prop where
 blk:wr.heap[S]?=some (.cells #[vT,vE,vS,vI] 44 (0,0))
 rE:RowM wr (S+1) vE ts
 rS:wr.ownsRow (S+1) 9 1 vS ss.length (Fd.sts ss)
 rI:wr.ownsRow (S+1) 86 3 vI ids.length (ids.flatMap encI)
 below:Below w.heap.size w wr
 ge:w.heap.size<=S
section
variable {w wr w1 W:World} {S:Nat} {vT vE vS vI:Value} {ts:List VTm} {ss:List ByteArray} {ids:List Ids}
theorem OSt.lt (h:OSt w wr S vT vE vS vI ts ss ids):S<wr.heap.size:=(Array.getElem?_eq_some_iff.1 h.blk).1
theorem OSt.step (h:OSt w wr S vT vE vS vI ts ss ids) (hb:Below wr.heap.size wr w1):OSt w w1 S vT vE vS vI ts ss ids:=
 ⟨(hb.block S h.lt).trans h.blk,Fd.own_below h.rE hb,Fd.own_below h.rS hb,Fd.own_below h.rI hb,h.below.trans (hb.mono h.below.size),h.ge⟩
theorem OSt.cells (h:OSt w wr S vT vE vS vI ts ss ids):wr.cell? ⟨S,1,none⟩=some vE/\wr.cell? ⟨S,2,none⟩=some vS/\wr.cell? ⟨S,3,none⟩=some vI/\(∀j,wr.frozen? ⟨S,j,none⟩=false):=
 ⟨by rw[cell_of_heap h.blk];rfl,by rw[cell_of_heap h.blk];rfl,by rw[cell_of_heap h.blk];rfl,fun j=>frozen_of_heap h.blk j⟩
theorem za7 {e:TypeId} {s n:Nat} {v:Value} {xs:List Value} (h:w1.ownsRow (S+1) e s v n xs) (o:Nat) (u:Value):(w1.setCell ⟨S,o,none⟩ u).ownsRow (S+1) e s v n xs:=
 ((Fr.refl w1 (fun k=>k=S)).set_ (p:=⟨S,o,none⟩) (.inl rfl) u).own h fun k hk e=>by have:=(h.lt k hk).1;omega
theorem OSt.setE {vE':Value} {ts':List VTm} (h:OSt w wr S vT vE vS vI ts ss ids) (hr:RowM wr (S+1) vE' ts'):OSt w (wr.setCell ⟨S,1,none⟩ vE') S vT vE' vS vI ts' ss ids:=by
 refine ⟨?_,za7 hr 1 _,za7 h.rS 1 _,za7 h.rI 1 _,h.below.setCell h.ge _,h.ge⟩;simp[World.setCell,Array.getElem?_modify,h.blk]
theorem OSt.putS {vS':Value} {ss':List ByteArray} (h:OSt w wr S vT vE vS vI ts ss ids) (hg:wr.grownBy w1 vS.ownBlock) (hown:w1.ownsRow (S+1) 9 1 vS' ss'.length (Fd.sts ss')):OSt w (w1.setCell ⟨S,2,none⟩ vS') S vT vE vS' vI ts ss' ids:=by
 have hne:some S≠vS.ownBlock:=fun e=>(by have:=(h.rS.lt S e.symm).1;omega);have hb1:w1.heap[S]?=some (.cells #[vT,vE,vS,vI] 44 (0,0)):=(hg.block S h.lt hne).trans h.blk;have hE:w1.ownsRow (S+1) 82 3 vE ts.length (ts.flatMap encM):=World.ownsRow.kept h.rE hg (Fd.own_ne h.rE h.rS (by decide));have hI:=h.rI.kept hg (Fd.own_ne h.rI h.rS (by decide));refine ⟨?_,za7 hE 2 _,za7 hown 2 _,za7 hI 2 _,(h.below.grown hg h.below.size fun k hk=>by have:=(h.rS.lt k hk).1;have:=h.ge;omega).setCell h.ge _,h.ge⟩;simp[World.setCell,Array.getElem?_modify,hb1]
theorem OSt.putI {vI':Value} {ids':List Ids} (h:OSt w wr S vT vE vS vI ts ss ids) (hg:wr.grownBy w1 vI.ownBlock) (hown:w1.ownsRow (S+1) 86 3 vI' ids'.length (ids'.flatMap encI)):OSt w (w1.setCell ⟨S,3,none⟩ vI') S vT vE vS vI' ts ss ids':=by
 have hne:some S≠vI.ownBlock:=fun e=>(by have:=(h.rI.lt S e.symm).1;omega);have hb1:w1.heap[S]?=some (.cells #[vT,vE,vS,vI] 44 (0,0)):=(hg.block S h.lt hne).trans h.blk;have hE:w1.ownsRow (S+1) 82 3 vE ts.length (ts.flatMap encM):=World.ownsRow.kept h.rE hg (Fd.own_ne h.rE h.rI (by decide));have hS:=h.rS.kept hg (Fd.own_ne h.rS h.rI (by decide));refine ⟨?_,za7 hE 3 _,za7 hS 3 _,za7 hown 3 _,(h.below.grown hg h.below.size fun k hk=>by have:=(h.rI.lt k hk).1;have:=h.ge;omega).setCell h.ge _,h.ge⟩;simp[World.setCell,Array.getElem?_modify,hb1]
end
structure RefIs (w:World) (S:Nat) (vT:Value) (L:List VTri) (ts:List VTm):Prop where
 ex:∃vE vS vI,w.heap[S]?=some (.cells #[vT,vE,vS,vI] 44 (0,0))/\RowM w 0 vE ts/\w.ownsRow 0 9 1 vS ts.length (Fd.sts (tsS ts))/\w.ownsRow 0 86 3 vI L.length ((L.map (idsOf ts)).flatMap encI)
 row:RowV w 0 vT L
 ok:StP L ts
theorem zjw (L:List VTri) (v:Value) (w:World) (h:RowV w 0 v L) (hr:Rise (ltOf cmpV) L) (hl:L.length<=100) :
    Calls prog 30 #[v] w fun e w'=>∃S ts,e=.returned (.pointer (some ⟨S,0,none⟩))/\RefIs w' S v L ts/\Below w.heap.size w w':=by
 obtain ⟨A,c,rfl⟩:=Fd.zac h;obtain ⟨S,hS⟩:∃S,w.heap.size=S:=⟨_,rfl⟩;obtain ⟨w0,hw0⟩:∃w0,w.alloc (.cells #[.slice A L.length c,.slice none 0 0,.slice none 0 0,.slice none 0 0] 44)=w0:=⟨_,rfl⟩;have HROW:Hid (∀w1,Below w.heap.size w w1->RowV w1 0 (.slice A L.length c) L):=fun w1 hb=>h.below hb;have HM0:Hid (OSt w w0 S (.slice A L.length c) (.slice none 0 0) (.slice none 0 0) (.slice none 0 0) [] [] []):=by
  rw[<-hw0,<-hS];exact ⟨heap_alloc_new w _,World.ownsRow_nil _ _ _ _,World.ownsRow_nil _ _ _ _,World.ownsRow_nil _ _ _ _,br.alloc nL _,nL⟩
 have HR:=hid hr;clear h hr;go_enter func30,ntmps30
 go_wp2;clear hS hw0;go_loopw [4] (fun v4 wr=>∃(k:Nat) (vE:Value) (ts:List VTm),k<=L.length/\v4=.int .i64 k/\OSt w wr S (.slice A L.length c) vE (.slice none 0 0) (.slice none 0 0) ts [] []/\Hid (SortB (ltOf cmpM) (flatM (L.take k)) ts)/\ts.length<=3*k) (fun v4 _=>L.length-(RowKit.intOf v4).toNat)
 case atStart=>exact ⟨0,_,[],Nat.zero_le _,rfl,HM0.out,hid (SortB.nil _),nL⟩
 case round=>
  clear HM0;obtain ⟨k,vE,ts,hk,rfl,hm,HSO,htl⟩:=hrel;by_cases hlt:k<L.length
  · obtain ⟨t,ht⟩:∃x,L[k]?=some x:=⟨_,List.getElem?_eq_getElem hlt⟩;have hrow:=HROW.out wr hm.below;obtain ⟨g,rfl,hg,hcap⟩:=hrow.val (by omega);have hat:=hrow.at_ k t ht;obtain ⟨AE,cE,rfl⟩:=Fd.zac hm.rE;have HNX:Hid (∀t1 t2 t3,PutIs (ltOf cmpM) ts (sM t) t1->PutIs (ltOf cmpM) t1 (pM t) t2->PutIs (ltOf cmpM) t2 (oM t) t3->SortB (ltOf cmpM) (flatM (L.take (k+1))) t3):=fun t1 t2 t3 h1 h2 h3=>by
     have h4:=h3.sort swoM (h2.sort swoM (h1.sort swoM HSO.out));rw[ze5 L k t ht];simpa using h4
    have HP:=hid fun (X:VTm) (r:List VTm) (v:Value) (W:World) (h:RowM W (S+1) v r) (hl:r.length<=400) (hb:S+1<=W.heap.size)=>zhE r v (S+1) X W h hl hb;have hlS:=hm.lt;have H1:=hid fun W (hb:Below wr.heap.size wr W)=>HP.out (sM t) ts (.slice AE ts.length cE) W (Fd.own_below hm.rE hb) (by omega) (by have:=hb.size;omega);have H2:=hid fun r v W (h:RowM W (S+1) v r) (hl:r.length<=400) (hb:S+1<=W.heap.size)=>HP.out (pM t) r v W h hl hb;have H3:=hid fun r v W (h:RowM W (S+1) v r) (hl:r.length<=400) (hb:S+1<=W.heap.size)=>HP.out (oM t) r v W h hl hb;unfold sM at H1 HNX;unfold pM at H2 HNX;unfold oM at H3 HNX;obtain ⟨⟨⟨k1,x1,e1⟩,⟨k2,x2,e2⟩,⟨k3,x3,e3⟩⟩,htv⟩:=t;unfold encT at H1 H2 H3;simp only at H1 H2 H3;have hsx:∀w',Below wr.heap.size wr w'->(Below wr.heap.size wr w'/\w'.cell? ⟨S,1,none⟩=some (.slice AE ts.length cE)/\w'.frozen? ⟨S,1,none⟩=false/\w'.cell? ⟨g,k*9,none⟩=some (.int .i64 k1)/\w'.cell? ⟨g,k*9+1,none⟩=some (.string (str x1))/\w'.cell? ⟨g,k*9+2,none⟩=some (.string (str e1))/\w'.cell? ⟨g,k*9+3,none⟩=some (.int .i64 k2)/\w'.cell? ⟨g,k*9+4,none⟩=some (.string (str x2))/\w'.cell? ⟨g,k*9+5,none⟩=some (.string (str e2))/\w'.cell? ⟨g,k*9+6,none⟩=some (.int .i64 k3)/\w'.cell? ⟨g,k*9+7,none⟩=some (.string (str x3))/\w'.cell? ⟨g,k*9+8,none⟩=some (.string (str e3))):=fun w' hb=>by
     obtain ⟨⟨a0,a1,a2⟩,⟨a3,a4,a5⟩,⟨a6,a7,a8⟩⟩:=hat;simp only[Nat.add_assoc]at a0 a1 a2 a3 a4 a5 a6 a7 a8;have hst:=hm.step hb;exact ⟨hb,hst.cells.1,hst.cells.2.2.2 1,zaa a0 hb,zaa a1 hb,zaa a2 hb,zaa a3 hb,zaa a4 hb,zaa a5 hb,zaa a6 hb,zaa a7 hb,zaa a8 hb⟩
    have HSX:=hid hsx;have HM:=hid hm;clear hsx hat hm hrow HSO HP ht;have hb1:Below wr.heap.size wr wr.drew:=⟨rfl,rfl,rfl,nL,fun _ _=>rfl⟩;have HB1:=hid hb1;clear hb1;go_wp2_with fail
    refine sA 26 [25] (fun w'=>Below wr.heap.size wr w'/\w'.cell? ⟨S,1,none⟩=some (.slice AE ts.length cE)/\w'.frozen? ⟨S,1,none⟩=false/\w'.cell? ⟨g,k*9,none⟩=some (.int .i64 k1)/\w'.cell? ⟨g,k*9+1,none⟩=some (.string (str x1))/\w'.cell? ⟨g,k*9+2,none⟩=some (.string (str e1))/\w'.cell? ⟨g,k*9+3,none⟩=some (.int .i64 k2)/\w'.cell? ⟨g,k*9+4,none⟩=some (.string (str x2))/\w'.cell? ⟨g,k*9+5,none⟩=some (.string (str e2))/\w'.cell? ⟨g,k*9+6,none⟩=some (.int .i64 k3)/\w'.cell? ⟨g,k*9+7,none⟩=some (.string (str x3))/\w'.cell? ⟨g,k*9+8,none⟩=some (.string (str e3))) ?_ (fun hHeld=>?_)
    · exact HSX.out _ HB1.out
    refine pU 0 ?_;refine pU 1 ?_;refine pU 2 ?_;refine pU 3 ?_;refine tK 4 hHeld ?_;refine pU 5 ?_;refine pU 6 ?_;refine pU 7 ?_;refine pU 8 ?_;refine tK 9 hHeld ?_;refine pU 11 ?_;refine pU 12 ?_;refine pU 13 ?_;refine pU 14 ?_;refine tK 15 hHeld ?_;refine pU 17 ?_;refine pU 18 ?_;refine pU 19 ?_;refine pU 20 ?_;refine tK 21 hHeld ?_;refine oN 10 (fun K hK=>?_);refine cL func79 #[.slice AE ts.length cE,.agg #[.int .i64 k1,.string (str x1),.string (str e1)]] ?_;refine (H1.out _ HB1.out).mono ?_;rintro e w2 ⟨v1,r1,rfl,hp1,hr1,hb2⟩;refine ⟨_,rfl,?_⟩;have HB2:=hid (HB1.out.trans (hb2.mono HB1.out.size));have HPA:=hid hp1;have HR1:=hid hr1;have hl1:=hp1.len;obtain ⟨A1,c1,rfl⟩:=Fd.zac hr1;clear hb2 hp1 hr1 H1;refine oU hK (HSX.out _ HB2.out) (fun hHeld=>?_);clear hK K;refine oN 16 (fun K hK=>?_);refine cL func79 #[.slice A1 r1.length c1,.agg #[.int .i64 k2,.string (str x2),.string (str e2)]] ?_;refine (H2.out _ _ _ HR1.out (by omega) (by have:=HB2.out.size;omega)).mono ?_;rintro e w3 ⟨v2,r2,rfl,hp2,hr2,hb3⟩;refine ⟨_,rfl,?_⟩;have HB3:=hid (HB2.out.trans (hb3.mono HB2.out.size));have HPB:=hid hp2;have HR2:=hid hr2;have hl2:=hp2.len;obtain ⟨A2,c2,rfl⟩:=Fd.zac hr2;clear hb3 hp2 hr2 H2 HR1;refine oU hK (HSX.out _ HB3.out) (fun hHeld=>?_);clear hK K;refine oN 22 (fun K hK=>?_);refine cL func79 #[.slice A2 r2.length c2,.agg #[.int .i64 k3,.string (str x3),.string (str e3)]] ?_;refine (H3.out _ _ _ HR2.out (by omega) (by have:=HB3.out.size;omega)).mono ?_;rintro e w4 ⟨v3,r3,rfl,hp3,hr3,hb4⟩;refine ⟨_,rfl,?_⟩;have HB4:=hid (HB3.out.trans (hb4.mono HB3.out.size));have HPC:=hid hp3;have HR3:=hid hr3;have hl3:=hp3.len;obtain ⟨A3,c3,rfl⟩:=Fd.zac hr3;clear hb4 hp3 hr3 H3 HR2;refine oU hK (HSX.out _ HB4.out) (fun hHeld=>?_);clear hK K;refine pU 23 ?_;refine pU 24 ?_;refine lA 25 (fun K hK=>?_);refine skip_ (w1:=?_) (by rfl) rfl ?_ ?_;rotate_left
    · obtain ⟨hbS,s1,sf,q0,q1,q2,q3,q4,q5,q6,q7,q8⟩:=hHeld;go_simp;rfl
    refine hK.out _ _ ?_;clear hK K;refine done_ (by kernel_rfl) ?_;have HMN:=hid ((HM.out.step HB4.out).setE HR3.out);have HSN:=hid (HNX.out r1 r2 r3 HPA.out HPB.out HPC.out);clear HM HSX HNX HPA HPB HPC hHeld HR3;go_wp2;go_roundw
    case rel=>exact ⟨k+1,_,r3,by omega,by go_num,HMN.out,HSN,by omega⟩
    case measure=>simp[RowKit.intOf];omega
  · obtain rfl:k=L.length:=(by omega);have hterms:TermsOf L ts:=by
     have h:=HSO.out;rw[List.take_length]at h;exact h
    have SP:Hid (StP L ts):=⟨HR.out,hl,hterms⟩;have htl2:=SP.out.tlen;obtain ⟨AE,cE,rfl⟩:=Fd.zac hm.rE;have HM0:Hid (OSt w wr S (.slice A L.length c) (.slice AE ts.length cE) (.slice none 0 0) (.slice none 0 0) ts (tsS (ts.take 0)) ((L.map (idsOf ts)).take 0)):=hm;clear hm HSO hterms htl;obtain ⟨i9,hi9,hz90,hz91,hz92⟩:=info_parts Fd.info9;go_wp2;go_loopw [5] (fun v5 wr=>∃(k:Nat) (vS:Value),k<=ts.length/\v5=.int .i64 k/\OSt w wr S (.slice A L.length c) (.slice AE ts.length cE) vS (.slice none 0 0) ts (tsS (ts.take k)) ((L.map (idsOf ts)).take 0)) (fun v5 _=>ts.length-(RowKit.intOf v5).toNat)
    case atStart=>exact ⟨0,_,Nat.zero_le _,rfl,HM0.out⟩
    case round=>
     clear HM0;obtain ⟨k,vS,hk,rfl,hm⟩:=hrel;obtain ⟨s1',s2',_,hsf'⟩:=hm.cells;by_cases hlt:k<ts.length
     · obtain ⟨X,hX⟩:∃x,ts[k]?=some x:=⟨_,List.getElem?_eq_getElem hlt⟩;obtain ⟨g,cap,he,hBg,hgl,hcap⟩:=RowM.val hm.rE (by omega);cases he
       have hat:=RowM.at_ hm.rE k X hX;have htk:tsS (ts.take (k+1))=tsS (ts.take k)++[str (shw X.1)]:=by
        unfold tsS;rw[List.take_add_one,hX,List.map_append];rfl
       have hkl:(tsS (ts.take k)).length=k:=(by rw[zaS,List.length_take];omega);obtain ⟨AS,cS,rfl⟩:=Fd.zac hm.rS;rw[hkl]at s2';have HSH:=hid fun W=>zb6 X.1 X.sml W;have hne:=Fd.own_ne hm.rE hm.rS (by decide);have hSb:∀j,(Value.slice AS (tsS (ts.take k)).length cS).ownBlock=some j->S+1<=j:=fun j hj=>(hm.rS.lt j hj).1;rw[hkl]at hne hSb;have hgS:∀j,(Value.slice AS k cS).ownBlock=some j->j≠g:=fun j hj e=>by
        rcases hne with h | h
        · cases h
        · exact h (by rw[hj,e];rfl)
       obtain ⟨⟨k1,x1,e1⟩,hxv⟩:=X;unfold encT at HSH;simp only at HSH;have hlS:=hm.lt;have hf2:=hsf' 2;obtain ⟨a0,a1,a2⟩:=hat
       have KB:Hid (∀w',Below wr.heap.size wr w'->w'.cell? ⟨S,1,none⟩=some (.slice (some ⟨g,0,none⟩) ts.length cE)/\w'.cell? ⟨S,2,none⟩=some (.slice AS k cS)/\w'.frozen? ⟨S,2,none⟩=false/\w'.cell? ⟨g,k*3,none⟩=some (.int .i64 k1)/\w'.cell? ⟨g,k*3+1,none⟩=some (.string (str x1))/\w'.cell? ⟨g,k*3+2,none⟩=some (.string (str e1))):=fun w' hb=>
        ⟨zaa s1' hb,zaa s2' hb,(hb.frozen (p:=⟨S,2,none⟩) hlS).trans hf2,zaa a0 hb,zaa a1 hb,zaa a2 hb⟩
       have KP:Hid (∀W w',Below wr.heap.size wr W->W.grownBy w' (Value.slice AS k cS).ownBlock->w'.cell? ⟨S,1,none⟩=some (.slice (some ⟨g,0,none⟩) ts.length cE)/\w'.cell? ⟨S,2,none⟩=some (.slice AS k cS)/\w'.frozen? ⟨S,2,none⟩=false/\w'.cell? ⟨g,k*3,none⟩=some (.int .i64 k1)/\w'.cell? ⟨g,k*3+1,none⟩=some (.string (str x1))/\w'.cell? ⟨g,k*3+2,none⟩=some (.string (str e1))):=fun W w' hW hg=>by
        obtain ⟨b0,b1,b2,b3,b4,b5⟩:=KB.out W hW;have hs:=hW.size;have far:∀(p:Addr) (u:Value),p.block=S\/p.block=g->W.cell? p=some u->w'.cell? p=some u:=fun p u hp hu=>by
         rw[hg.cell_far p (by rcases hp with hp | hp<;>rw[hp]<;>omega) (fun e=>by
          have h1:=hSb _ e.symm;have h2:=hgS _ e.symm;rcases hp with hp | hp
          · omega
          · exact h2 hp)]
         exact hu
        refine ⟨far _ _ (.inl rfl) b0,far _ _ (.inl rfl) b1,?_,far _ _ (.inr rfl) b3,far _ _ (.inr rfl) b4,far _ _ (.inr rfl) b5⟩;rw[hg.frozen_far _ (by show S<_;omega) (fun e=>by have:=hSb _ e.symm;simp only at this;omega)];exact b2
       have HM:=hid hm;have HTK:=hid htk;have HKL:=hid hkl;clear hm hne hSb hgS s2' hsf' a0 a1 a2 hX htk hkl hf2;have HB1:Hid (Below wr.heap.size wr wr.drew):=⟨rfl,rfl,rfl,nL,fun _ _=>rfl⟩;go_wp2_with fail
       clear s1';refine sA 18 [17] (fun w'=>w'.cell? ⟨S,1,none⟩=some (.slice (some ⟨g,0,none⟩) ts.length cE)/\w'.cell? ⟨S,2,none⟩=some (.slice AS k cS)/\w'.frozen? ⟨S,2,none⟩=false/\w'.cell? ⟨g,k*3,none⟩=some (.int .i64 k1)/\w'.cell? ⟨g,k*3+1,none⟩=some (.string (str x1))/\w'.cell? ⟨g,k*3+2,none⟩=some (.string (str e1))) ?_ (fun hHeld=>?_)
       · exact KB.out _ HB1.out
       refine pU 0 ?_;refine pU 1 ?_;refine pU 2 ?_;refine pU 3 ?_;refine tK 4 hHeld ?_;refine pU 5 ?_;refine pU 6 ?_;refine pU 7 ?_;refine tK 8 hHeld ?_;refine pU 9 ?_;refine pU 10 ?_;refine tK 11 hHeld ?_;refine oN 12 (fun K hK=>?_);refine cL func44 #[.agg #[.int .i64 k1,.string (str x1),.string (str e1)]] ?_;refine (HSH.out _).mono ?_;rintro e w2 ⟨rfl,hb2⟩;refine ⟨_,rfl,?_⟩;have HB2:=hid (HB1.out.trans (hb2.mono HB1.out.size));clear hb2;refine oU hK (KB.out _ HB2.out) (fun hHeld=>?_);clear hK K;generalize str (shw ⟨k1,x1,e1⟩)=sx at HTK ⊢;refine oN 13 (fun K hK=>?_);refine vA (.slice (some ⟨w2.heap.size,0,none⟩) 1 1) (w2.alloc (.cells #[.string sx] 9)) ?_;have HB3:=hid (HB2.out.alloc HB2.out.size (.cells #[.string sx] 9));have HM3:=hid (HM.out.step HB3.out);refine oU hK (KB.out _ HB3.out) (fun hHeld=>?_);clear hK K;refine oN 14 (fun K hK=>?_);refine zap (by rfl) _ _ 41 (by rfl) (S+1) 9 i9 _ 1 16 underlying41 hi9 hz90 hz91 hz92 rfl (by omega) (.slice AS k cS) k (Fd.sts (tsS (ts.take k))) (by rfl) (by have:=HM3.out.rS;rw[HKL.out]at this;exact this) (some ⟨w2.heap.size,0,none⟩) 1 1 [.string sx] (by rfl) ⟨rfl,fun _=>⟨_,rfl,World.news_of_block (heap_alloc_new w2 _)⟩⟩ (by simp[Value.oneCell']) (by unfold maxLen;omega) (by omega) (by have:=HB3.out.size;omega) ?_;intro vS2 w4 hown hgr;have hbm:=KP.out _ _ HB3.out hgr;have HMN:Hid (OSt w (w4.setCell ⟨S,2,none⟩ vS2) S (.slice A L.length c) (.slice (some ⟨g,0,none⟩) ts.length cE) vS2 (.slice none 0 0) ts (tsS (ts.take (k+1))) ((L.map (idsOf ts)).take 0)):=by
        have hm3:=HM3.out;rw[HTK.out];refine hm3.putS (by rw[HKL.out];exact hgr) ?_;have e1:(tsS (ts.take k)++[sx]).length=k+1:=(by rw[List.length_append,HKL.out];rfl);have e2:Fd.sts (tsS (ts.take k)++[sx])=Fd.sts (tsS (ts.take k))++[.string sx]:=(by unfold Fd.sts;simp);rw[e1,e2];exact hown
       obtain ⟨AS2,cS2,rfl⟩:=Fd.zac hown;clear hown hgr HM3;refine oU hK hbm (fun hHeld=>?_);clear hK K;refine pU 15 ?_;refine pU 16 ?_;refine lA 17 (fun K hK=>?_);refine skip_ (w1:=?_) (by rfl) rfl ?_ ?_;rotate_left
       · obtain ⟨s1,s2,sf,q0,q1,q2⟩:=hHeld;go_simp;rfl
       refine hK.out _ _ ?_;clear hK K;refine done_ (by kernel_rfl) ?_;clear hHeld hbm KB KP HM HTK HKL;go_wp2;go_roundw
       case rel=>exact ⟨k+1,_,by omega,by go_num,HMN.out⟩
       case measure=>simp[RowKit.intOf];omega
     · obtain rfl:k=ts.length:=(by omega);have HM0:Hid (OSt w wr S (.slice A L.length c) (.slice AE ts.length cE) vS (.slice none 0 0) ts (tsS ts) ((L.map (idsOf ts)).take 0)):=by
        have h:=hm;rw[List.take_length]at h;exact h
       clear hm hsf';obtain ⟨s1',s2',s3',_⟩:=HM0.out.cells;obtain ⟨AS,cS,rfl⟩:=Fd.zac HM0.out.rS;obtain ⟨j0,hj,hj0,hj1,hj2⟩:=zbD;go_wp2;clear s1' s2' s3';go_loopw [6] (fun v6 wr=>∃(k:Nat) (vI:Value),k<=L.length/\v6=.int .i64 k/\OSt w wr S (.slice A L.length c) (.slice AE ts.length cE) (.slice AS (tsS ts).length cS) vI ts (tsS ts) ((L.map (idsOf ts)).take k)) (fun v6 _=>L.length-(RowKit.intOf v6).toNat)
       case atStart=>exact ⟨0,_,Nat.zero_le _,rfl,HM0.out⟩
       case round=>
        clear HM0;obtain ⟨k,vI,hk,rfl,hm⟩:=hrel;by_cases hlt:k<L.length
        · obtain ⟨t,ht⟩:∃x,L[k]?=some x:=⟨_,List.getElem?_eq_getElem hlt⟩;have htm:t∈L:=List.mem_of_getElem? ht;have hrow:=HROW.out wr hm.below;have hrow0:=HROW.out w br;obtain ⟨g,rfl,hg,hcap⟩:=hrow.val (by omega);obtain ⟨g',he',hg',_⟩:=hrow0.val (by omega);cases he'
          have hat:=hrow.at_ k t ht;have hkl:((L.map (idsOf ts)).take k).length=k:=(by rw[List.length_take,List.length_map];omega);obtain ⟨s1',_,s3',hsf'⟩:=hm.cells;obtain ⟨AI,cI,rfl⟩:=Fd.zac hm.rI;rw[hkl]at s3';have hSb:∀j,(Value.slice AI k cI).ownBlock=some j->S+1<=j:=fun j hj=>(hm.rI.lt j (by rw[hkl];exact hj)).1;have hgeS:=hm.ge;have hlS:=hm.lt;have hf3:=hsf' 3;have htk:(L.map (idsOf ts)).take (k+1)=(L.map (idsOf ts)).take k++[idsOf ts t]:=by
           rw[List.take_add_one,List.getElem?_map,ht];rfl
          have ns:=SP.out.s htm;have np:=SP.out.p htm;have no:=SP.out.o htm
          have ID:∀x:VTm,x∈ts->∀W,Below wr.heap.size wr W->Calls prog 80 #[.pointer (some ⟨S,0,none⟩),.agg (encT x.1).toArray] W fun e w'=>e=.returned (.int .i64 (noOf ts x:Nat))/\Below W.heap.size W w':=fun x hx W hW=>
           zjJ ts SP.out.terms.1 (by have:=SP.out.tlen;omega) x hx S (S+1) (.slice AE ts.length cE) W (Fd.own_below hm.rE hW) (zaa s1' hW)
          have I1:=hid fun W hW=>ID (sM t) ns W hW;have I2:=hid fun W hW=>ID (pM t) np W hW;have I3:=hid fun W hW=>ID (oM t) no W hW;have hidv:idsOf ts t=⟨(noOf ts (sM t):Nat),(noOf ts (pM t):Nat),(noOf ts (oM t):Nat)⟩:=rfl;rw[hidv]at htk;generalize noOf ts (sM t)=m1 at I1 htk;generalize noOf ts (pM t)=m2 at I2 htk;generalize noOf ts (oM t)=m3 at I3 htk;unfold sM at I1;unfold pM at I2;unfold oM at I3;clear hidv ns np no ID htm hsf';obtain ⟨⟨⟨k1,x1,e1⟩,⟨k2,x2,e2⟩,⟨k3,x3,e3⟩⟩,htv⟩:=t;unfold encT at I1 I2 I3;simp only at I1 I2 I3;obtain ⟨⟨a0,a1,a2⟩,⟨a3,a4,a5⟩,⟨a6,a7,a8⟩⟩:=hat;simp only[Nat.add_assoc]at a0 a1 a2 a3 a4 a5 a6 a7 a8
          have KB:Hid (∀w',Below wr.heap.size wr w'->w'.cell? ⟨S,1,none⟩=some (.slice AE ts.length cE)/\w'.cell? ⟨S,3,none⟩=some (.slice AI k cI)/\w'.frozen? ⟨S,3,none⟩=false/\w'.cell? ⟨g,k*9,none⟩=some (.int .i64 k1)/\w'.cell? ⟨g,k*9+1,none⟩=some (.string (str x1))/\w'.cell? ⟨g,k*9+2,none⟩=some (.string (str e1))/\w'.cell? ⟨g,k*9+3,none⟩=some (.int .i64 k2)/\w'.cell? ⟨g,k*9+4,none⟩=some (.string (str x2))/\w'.cell? ⟨g,k*9+5,none⟩=some (.string (str e2))/\w'.cell? ⟨g,k*9+6,none⟩=some (.int .i64 k3)/\w'.cell? ⟨g,k*9+7,none⟩=some (.string (str x3))/\w'.cell? ⟨g,k*9+8,none⟩=some (.string (str e3))):=fun w' hb=>
           ⟨zaa s1' hb,zaa s3' hb,(hb.frozen (p:=⟨S,3,none⟩) hlS).trans hf3,zaa a0 hb,zaa a1 hb,zaa a2 hb,zaa a3 hb,zaa a4 hb,zaa a5 hb,zaa a6 hb,zaa a7 hb,zaa a8 hb⟩
          have KP:Hid (∀W w',Below wr.heap.size wr W->W.grownBy w' (Value.slice AI k cI).ownBlock->w'.cell? ⟨S,1,none⟩=some (.slice AE ts.length cE)/\w'.cell? ⟨S,3,none⟩=some (.slice AI k cI)/\w'.frozen? ⟨S,3,none⟩=false/\w'.cell? ⟨g,k*9,none⟩=some (.int .i64 k1)/\w'.cell? ⟨g,k*9+1,none⟩=some (.string (str x1))/\w'.cell? ⟨g,k*9+2,none⟩=some (.string (str e1))/\w'.cell? ⟨g,k*9+3,none⟩=some (.int .i64 k2)/\w'.cell? ⟨g,k*9+4,none⟩=some (.string (str x2))/\w'.cell? ⟨g,k*9+5,none⟩=some (.string (str e2))/\w'.cell? ⟨g,k*9+6,none⟩=some (.int .i64 k3)/\w'.cell? ⟨g,k*9+7,none⟩=some (.string (str x3))/\w'.cell? ⟨g,k*9+8,none⟩=some (.string (str e3))):=fun W w' hW hgr=>by
           obtain ⟨b0,b1,b2,b3,b4,b5,b6,b7,b8,b9,b10,b11⟩:=KB.out W hW;have hs:=hW.size;have far:∀(p:Addr) (u:Value),p.block=S\/p.block=g->W.cell? p=some u->w'.cell? p=some u:=fun p u hp hu=>by
            rw[hgr.cell_far p (by rcases hp with hp | hp<;>rw[hp]<;>omega) (fun e=>by
             have h1:=hSb _ e.symm;rcases hp with hp | hp<;>omega)]
            exact hu
           refine ⟨far _ _ (.inl rfl) b0,far _ _ (.inl rfl) b1,?_,far _ _ (.inr rfl) b3,far _ _ (.inr rfl) b4,far _ _ (.inr rfl) b5,far _ _ (.inr rfl) b6,far _ _ (.inr rfl) b7,far _ _ (.inr rfl) b8,far _ _ (.inr rfl) b9,far _ _ (.inr rfl) b10,far _ _ (.inr rfl) b11⟩;rw[hgr.frozen_far _ (by show S<_;omega) (fun e=>by have:=hSb _ e.symm;simp only at this;omega)];exact b2
          have HM:=hid hm;have HTK:=hid htk;have HKL:=hid hkl;clear hm hrow hrow0 hSb s1' s3' a0 a1 a2 a3 a4 a5 a6 a7 a8 ht htk hkl hf3 hg' hgeS;have HB1:Hid (Below wr.heap.size wr wr.drew):=⟨rfl,rfl,rfl,nL,fun _ _=>rfl⟩;go_wp2_with fail
          refine sA 32 [31] (fun w'=>w'.cell? ⟨S,1,none⟩=some (.slice AE ts.length cE)/\w'.cell? ⟨S,3,none⟩=some (.slice AI k cI)/\w'.frozen? ⟨S,3,none⟩=false/\w'.cell? ⟨g,k*9,none⟩=some (.int .i64 k1)/\w'.cell? ⟨g,k*9+1,none⟩=some (.string (str x1))/\w'.cell? ⟨g,k*9+2,none⟩=some (.string (str e1))/\w'.cell? ⟨g,k*9+3,none⟩=some (.int .i64 k2)/\w'.cell? ⟨g,k*9+4,none⟩=some (.string (str x2))/\w'.cell? ⟨g,k*9+5,none⟩=some (.string (str e2))/\w'.cell? ⟨g,k*9+6,none⟩=some (.int .i64 k3)/\w'.cell? ⟨g,k*9+7,none⟩=some (.string (str x3))/\w'.cell? ⟨g,k*9+8,none⟩=some (.string (str e3))) ?_ (fun hHeld=>?_)
          · exact KB.out _ HB1.out
          refine pU 0 ?_;refine pU 1 ?_;refine pU 2 ?_;refine pU 3 ?_;refine tK 4 hHeld ?_;refine pU 5 ?_;refine pU 6 ?_;refine pU 7 ?_;refine pU 8 ?_;refine pU 9 ?_;refine tK 10 hHeld ?_;refine pU 12 ?_;refine pU 13 ?_;refine pU 14 ?_;refine pU 15 ?_;refine pU 16 ?_;refine tK 17 hHeld ?_;refine pU 19 ?_;refine pU 20 ?_;refine pU 21 ?_;refine pU 22 ?_;refine pU 23 ?_;refine tK 24 hHeld ?_;refine oN 11 (fun K hK=>?_);refine cL func80 #[.pointer (some ⟨S,0,none⟩),.agg #[.int .i64 k1,.string (str x1),.string (str e1)]] ?_;refine (I1.out _ HB1.out).mono ?_;rintro e w2 ⟨rfl,hbx⟩;refine ⟨_,rfl,?_⟩;have HB2:=hid (HB1.out.trans (hbx.mono HB1.out.size));clear hbx I1;refine oU hK (KB.out _ HB2.out) (fun hHeld=>?_);clear hK K;refine oN 18 (fun K hK=>?_);refine cL func80 #[.pointer (some ⟨S,0,none⟩),.agg #[.int .i64 k2,.string (str x2),.string (str e2)]] ?_;refine (I2.out _ HB2.out).mono ?_;rintro e w3 ⟨rfl,hbx⟩;refine ⟨_,rfl,?_⟩;have HB3:=hid (HB2.out.trans (hbx.mono HB2.out.size));clear hbx I2;refine oU hK (KB.out _ HB3.out) (fun hHeld=>?_);clear hK K;refine oN 25 (fun K hK=>?_);refine cL func80 #[.pointer (some ⟨S,0,none⟩),.agg #[.int .i64 k3,.string (str x3),.string (str e3)]] ?_;refine (I3.out _ HB3.out).mono ?_;rintro e w4 ⟨rfl,hbx⟩;refine ⟨_,rfl,?_⟩;have HB4:=hid (HB3.out.trans (hbx.mono HB3.out.size));clear hbx I3;refine oU hK (KB.out _ HB4.out) (fun hHeld=>?_);clear hK K;refine pU 26 ?_;refine oN 27 (fun K hK=>?_);refine vA (.slice (some ⟨w4.heap.size,0,none⟩) 1 1) (w4.alloc (.cells #[.int .i64 (m1:Nat),.int .i64 (m2:Nat),.int .i64 (m3:Nat)] 86)) ?_;have HB5:=hid (HB4.out.alloc HB4.out.size (.cells #[.int .i64 (m1:Nat),.int .i64 (m2:Nat),.int .i64 (m3:Nat)] 86));have HM5:=hid (HM.out.step HB5.out);refine oU hK (KB.out _ HB5.out) (fun hHeld=>?_);clear hK K;refine oN 28 (fun K hK=>?_);refine zap (by rfl) _ _ 42 (by rfl) (S+1) 86 j0 _ 3 24 underlying42 hj hj0 hj1 hj2 rfl (by omega) (.slice AI k cI) k (((L.map (idsOf ts)).take k).flatMap encI) (by rfl) (by have:=HM5.out.rI;rw[HKL.out]at this;exact this) (some ⟨w4.heap.size,0,none⟩) 1 1 [.int .i64 (m1:Nat),.int .i64 (m2:Nat),.int .i64 (m3:Nat)] (by rfl) ⟨rfl,fun _=>⟨_,rfl,World.news_of_block (heap_alloc_new w4 _)⟩⟩ (by simp[Value.oneCell']) (by unfold maxLen;omega) (by omega) (by have:=HB5.out.size;omega) ?_;intro vI2 w6 hown hgr;have hbm:=KP.out _ _ HB5.out hgr;have HMN:Hid (OSt w (w6.setCell ⟨S,3,none⟩ vI2) S (.slice (some ⟨g,0,none⟩) L.length c) (.slice AE ts.length cE) (.slice AS (tsS ts).length cS) vI2 ts (tsS ts) ((L.map (idsOf ts)).take (k+1))):=by
           have hm5:=HM5.out;rw[HTK.out];refine hm5.putI (by rw[HKL.out];exact hgr) ?_;have e1:((L.map (idsOf ts)).take k++[(⟨(m1:Nat),(m2:Nat),(m3:Nat)⟩:Ids)]).length=k+1:=(by rw[List.length_append,HKL.out];rfl);have e2:((L.map (idsOf ts)).take k++[(⟨(m1:Nat),(m2:Nat),(m3:Nat)⟩:Ids)]).flatMap encI=((L.map (idsOf ts)).take k).flatMap encI++[.int .i64 (m1:Nat),.int .i64 (m2:Nat),.int .i64 (m3:Nat)]:=(by rw[List.flatMap_append];rfl);rw[e1,e2];exact hown
          obtain ⟨AI2,cI2,rfl⟩:=Fd.zac hown;clear hown hgr HM5;refine oU hK hbm (fun hHeld=>?_);clear hK K;refine pU 29 ?_;refine pU 30 ?_;refine lA 31 (fun K hK=>?_);refine skip_ (w1:=?_) (by rfl) rfl ?_ ?_;rotate_left
          · obtain ⟨s1,s3,sf,q0,q1,q2,q3,q4,q5,q6,q7,q8⟩:=hHeld;go_simp;rfl
          refine hK.out _ _ ?_;clear hK K;refine done_ (by kernel_rfl) ?_;clear hHeld hbm KB KP HM HTK HKL;go_wp2;go_roundw
          case rel=>exact ⟨k+1,_,by omega,by go_num,HMN.out⟩
          case measure=>simp[RowKit.intOf];omega
        · obtain rfl:k=L.length:=(by omega);have HF:Hid (RefIs wr S (.slice A L.length c) L ts):=by
           have hI:=hm.rI;rw[List.take_of_length_le (by simp),List.length_map]at hI;have hS:=hm.rS;rw[zaS]at hS;have hb:=hm.blk;rw[zaS]at hb;exact ⟨⟨_,_,_,hb,zaj hm.rE (Nat.zero_le _),zaj hS (Nat.zero_le _),zaj hI (Nat.zero_le _)⟩,HROW.out wr hm.below,SP.out⟩
          have HB:=hid hm.below;clear hm;go_wp2;go_ret;exact ⟨S,ts,rfl,HF.out,HB.out⟩
end Go.Proofs.YtjcpjopbgngihaaGreatDoor
end
