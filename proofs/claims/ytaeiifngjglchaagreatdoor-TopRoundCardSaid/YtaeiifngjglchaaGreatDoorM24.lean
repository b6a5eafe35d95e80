/- Proved on the way: What bytes are a Store's file: the steps; Package lines: Parse; The document's Parse: a text's triples, . Each theorem states its own conditions. -/
import Derived.Test.YtaeiifngjglchaaGreatDoorM23
set_option maxHeartbeats 16000000
set_option maxRecDepth 1000000
set_option linter.unusedSimpArgs false
section
namespace Go.Proofs.YtaeiifngjglchaaGreatDoor
open Go.Proofs.Tryz
open Go.RowKit Go.Lib Tv Go.Sort Pk
def IsFile (b:Bs):Prop:=∃L ts,StP L ts/\fileN ts L=b
theorem IsFile.secs {b:Bs} {l:List Bx.Sec} (h:Bx.BxIs b l) (hf:IsFile b):∃L ts,StP L ts/\fileN ts L=b/\l=secN ts L:=by
 obtain ⟨L,ts,hs,rfl⟩:=hf;exact ⟨L,ts,hs,rfl,h.uniq hs.bx⟩
theorem no_box {b:Bs} (h:¬∃l,Bx.BxIs b l):¬IsFile b:=fun ⟨_,_,hs,e⟩=>h ⟨_,e ▸ hs.bx⟩
theorem no_two {b:Bs} {l:List Bx.Sec} (h:Bx.BxIs b l) (h2:l.length≠2):¬IsFile b:=fun hf=>by
 obtain ⟨L,ts,_,_,rfl⟩:=hf.secs h;exact h2 rfl
theorem IsFile.two {b:Bs} {i j:Nat} {x y:Bs} (h:Bx.BxIs b [⟨i,x⟩,⟨j,y⟩]) (hf:IsFile b):∃L ts,StP L ts/\fileN ts L=b/\x=Fp.enc (texts ts)/\y=bodyN ts L:=by
 obtain ⟨L,ts,hs,he,hl⟩:=hf.secs h;unfold secN at hl;injection hl with h1 h2;injection h2 with h2 _;injection h1 with _ h1;injection h2 with _ h2;exact ⟨L,ts,hs,he,h1,h2⟩
theorem znY {b:Bs} {i j:Nat} {x y:Bs} (h:Bx.BxIs b [⟨i,x⟩,⟨j,y⟩]) (h2:y.length<2):¬IsFile b:=fun hf=>by
 obtain ⟨L,ts,_,_,_,rfl⟩:=hf.two h;unfold bodyN at h2;simp only[List.length_cons]at h2;omega
theorem StP.rd {L:List VTri} {ts:List VTm} (h:StP L ts):Fd.Rd (Fp.enc (texts ts)) (tsS ts):=⟨h.mayS,by rw[zm4]⟩
theorem no_rd {b:Bs} {i j:Nat} {x y:Bs} (h:Bx.BxIs b [⟨i,x⟩,⟨j,y⟩]) (h2:¬∃l,Fd.Rd x l):¬IsFile b:=fun hf=>by
 obtain ⟨L,ts,hs,_,rfl,_⟩:=hf.two h;exact h2 ⟨_,hs.rd⟩
theorem ziD {L:List VTri} {ts:List VTm} (h:StP L ts) {p0 p1:UInt8} {q:Bs} (he:p0::p1::q=bodyN ts L):p0.toNat*256+p1.toNat=L.length/\q=(Pk.packB (rowN ts L) (Lib.bitLen ts.length)).map UInt8.ofNat:=by
 unfold bodyN at he;injection he with h1 h2;injection h2 with h2 h3;subst h1;subst h2
 have:=h.len;refine ⟨?_,h3⟩;rw[UInt8.toNat_ofNat',UInt8.toNat_ofNat'];omega
theorem no_n {b:Bs} {i j:Nat} {x:Bs} {p0 p1:UInt8} {q:Bs} (h:Bx.BxIs b [⟨i,x⟩,⟨j,p0::p1::q⟩]) (h2:100<p0.toNat*256+p1.toNat):¬IsFile b:=fun hf=>by
 obtain ⟨L,ts,hs,_,_,hb⟩:=hf.two h;have:=(ziD hs hb).1;have:=hs.len;omega
theorem IsFile.read {b:Bs} {i j:Nat} {x:Bs} {p0 p1:UInt8} {q:Bs} {d:List ByteArray} (h:Bx.BxIs b [⟨i,x⟩,⟨j,p0::p1::q⟩]) (hd:Fd.Rd x d) (hf:IsFile b) :
    ∃L ts,StP L ts/\fileN ts L=b/\d=tsS ts/\p0.toNat*256+p1.toNat=L.length/\Pk.PkIs (natB q) (L.length*3) (Lib.bitLen d.length) (rowN ts L):=by
 obtain ⟨L,ts,hs,he,hx,hb⟩:=hf.two h;obtain ⟨hn,hq⟩:=ziD hs hb;have hdd:d=tsS ts:=hd.uniq (hx ▸ hs.rd);refine ⟨L,ts,hs,he,hdd,hn,?_⟩;rw[hdd,zaN,hq,zdK _ (fun x hx=>Pk.pk_lt _ _ _ x hx:∀x∈Pk.packB (rowN ts L) (Lib.bitLen ts.length),x<256)];exact hs.pk
theorem no_pk {b:Bs} {i j n:Nat} {x:Bs} {p0 p1:UInt8} {q:Bs} {d:List ByteArray} (h:Bx.BxIs b [⟨i,x⟩,⟨j,p0::p1::q⟩]) (hd:Fd.Rd x d) (hn:p0.toNat*256+p1.toNat=n) (h2:¬∃l,Pk.PkIs (natB q) (3*n) (Lib.bitLen d.length) l):¬IsFile b:=fun hf=>by
 obtain ⟨L,ts,_,_,_,h3,h4⟩:=hf.read h hd;apply h2;rw[<-hn,h3,Nat.mul_comm];exact ⟨_,h4⟩
theorem ex_no {ts:List VTm} {x:VTm} (h:x∈ts):exE (tsS ts) (noOf ts x:Int)=some x.1:=by
 obtain ⟨h1,h2⟩:=zaY h;have hg:=zce h;unfold exE;have he:Fd.extZ (tsS ts) (noOf ts x:Int)=str (shw x.1):=by
  unfold Fd.extZ;rw[dif_pos ⟨by omega,by rw[zaN];omega⟩];have e:((noOf ts x:Int)-1).toNat=noOf ts x-1:=(by omega);have hq:(tsS ts)[((noOf ts x:Int)-1).toNat]?=some (str (shw x.1)):=by
   rw[e];unfold tsS;rw[List.getElem?_map,hg];rfl
  exact (List.getElem?_eq_some_iff.1 hq).2
 rw[he,zad];exact (zew _ _).2 ⟨x.2,rfl⟩
theorem zj2 (ts:List VTm):∀(L:List VTri) (k:Nat) (h:k<L.length),(rowN ts L)[3*k]?=some (noOf ts (sM L[k]))/\(rowN ts L)[3*k+1]?=some (noOf ts (pM L[k]))/\(rowN ts L)[3*k+2]?=some (noOf ts (oM L[k]))
 | [],k,h=>by simp at h
 | t::L,0,_=>⟨rfl,rfl,rfl⟩
 | t::L,k+1,h=>by
  have ih:=zj2 ts L k (by simpa using h);exact ih
theorem StP.tris {L:List VTri} {ts:List VTm} (h:StP L ts):(List.range L.length).map (chT (tsS ts) (ints (rowN ts L)))=(L.map Subtype.val).map some:=by
 apply List.ext_getElem
 · simp
 · intro k h1 h2;have hk:k<L.length:=(by simpa using h1);have hm:L[k]∈L:=List.getElem_mem hk;obtain ⟨r0,r1,r2⟩:=zj2 ts L k hk;have key:∀(i:Nat) (z:VTm),(rowN ts L)[i]?=some (noOf ts z)->z∈ts->exE (tsS ts) ((ints (rowN ts L)).getD i 0)=some z.1:=by
    intro i z hi hz;unfold ints;rw[List.getD_eq_getElem?_getD,List.getElem?_map,hi];exact ex_no hz
   rw[List.getElem_map,List.getElem_range];unfold chT;rw[zjH (key _ _ r0 (h.s hm)) (key _ _ r1 (h.p hm)) (key _ _ r2 (h.o hm))];simp;rfl
theorem znW {b:Bs} {i j n:Nat} {x:Bs} {p0 p1:UInt8} {q:Bs} {d:List ByteArray} {l:List Nat} (h:Bx.BxIs b [⟨i,x⟩,⟨j,p0::p1::q⟩]) (hd:Fd.Rd x d) (hn:p0.toNat*256+p1.toNat=n) (hl:Pk.PkIs (natB q) (3*n) (Lib.bitLen d.length) l)
    (h2:¬∃ts:List Tri,(List.range n).map (chT d (ints l))=ts.map some/\∀t∈ts,triT t=true):¬IsFile b:=fun hf=>by
 obtain ⟨L,ts,hs,_,rfl,h3,h4⟩:=hf.read h hd;apply h2;have hln:n=L.length:=hn.symm.trans h3;rw[hln,Nat.mul_comm]at hl;obtain rfl:l=rowN ts L:=hl.unp.trans h4.unp.symm;refine ⟨L.map Subtype.val,?_,?_⟩
 · rw[hln];exact hs.tris
 · intro t ht;obtain ⟨v,_,rfl⟩:=List.mem_map.1 ht;exact v.2
theorem zjy {ts:List Tri} (h:∀t∈ts,triT t=true):∃L:List VTri,L.map Subtype.val=ts:=⟨ts.pmap (fun t h=>⟨t,h⟩) h,by rw[List.map_pmap];simp⟩
theorem zb4 {a b:List VTri} (h:a.map Subtype.val=b.map Subtype.val):a=b:=by
 induction a generalizing b with
 | nil=>cases b with
  | nil=>rfl
  | cons _ _=>cases h
 | cons x a ih=>cases b with
  | nil=>cases h
  | cons y b=>
   rw[List.map_cons,List.map_cons]at h;injection h with h1 h2;rw[Subtype.ext h1,ih h2]
theorem znX {b:Bs} {i j n:Nat} {x:Bs} {p0 p1:UInt8} {q:Bs} {d:List ByteArray} {l:List Nat} {A r:List VTri} {ts:List VTm} (h:Bx.BxIs b [⟨i,x⟩,⟨j,p0::p1::q⟩]) (hd:Fd.Rd x d) (hn:p0.toNat*256+p1.toNat=n) (hl:Pk.PkIs (natB q) (3*n) (Lib.bitLen d.length) l)
    (hA:(List.range n).map (chT d (ints l))=(A.map Subtype.val).map some) (hr:SortOf A r) (hs:StP r ts) (h2:fileN ts r≠b):¬IsFile b:=fun hf=>by
 obtain ⟨L,ts',hs',he,rfl,h3,h4⟩:=hf.read h hd;apply h2;have hln:n=L.length:=hn.symm.trans h3;rw[hln,Nat.mul_comm]at hl;obtain rfl:l=rowN ts' L:=hl.unp.trans h4.unp.symm;rw[hln,hs'.tris]at hA;obtain rfl:A=L:=zb4 (zdz hA).symm;obtain rfl:r=A:=hr.one ⟨hs'.rise,fun _=>Iff.rfl⟩;obtain rfl:ts=ts':=hs.terms.one hs'.terms;exact he
theorem SortOf.len {A r:List VTri} (h:SortOf A r):r.length<=A.length:=zg2 r A (Rise.nodup swoV h.1) fun x hx=>(h.2 x).1 hx
end Go.Proofs.YtaeiifngjglchaaGreatDoor
end
section
namespace Go.Proofs.YtaeiifngjglchaaGreatDoor
open Go.Proofs.Tryz
open Go.RowKit Go.Lib Tv Go.Sort
theorem VTri.key (t:VTri):KeyT t.1:=by
 have key:∀x:VTm,(Lit.int .i64 x.1.k).wf=true:=fun x=>by
  have h:=(za8 x.1 x.2).kind;rcases h with h | h | h | h | h<;>rw[h]<;>rfl
 exact znr t.1 t.sml (key ⟨_,t.s⟩) (key ⟨_,t.p⟩) (key ⟨_,t.o⟩)
theorem vkeys {A:List VTri}:∀t∈A.map Subtype.val,KeyT t:=fun t ht=>by
 obtain ⟨x,_,rfl⟩:=List.mem_map.1 ht;exact VTri.key x
theorem lnA_le (s:Bs):(lnA s).length<=s.length:=(List.takeWhile_sublist _).length_le
theorem cr_le (s:Bs):(cr s).length<=s.length:=by
 unfold cr;split
 · rw[List.length_dropLast];omega
 · exact nL
theorem zjr (s:Bs) (w:World) (ht:Lay w) (hl:s.length<=20000) :
    Calls prog 46 #[.string (str s),.string ⟨#[10]⟩] w fun e w'=>e=.returned (.tuple #[.string (str (lnA s)),.string (str (lnB s)),.bool (lnE s)])/\∃n,w'=w.drewN n:=by
 obtain ⟨m,hm⟩:=ht.most;have h:=Tryz.strings_Cut (str s) ⟨#[10]⟩ m w (by rw[zab];omega) hm;rw[zad]at h;have e:(⟨#[10]⟩:ByteArray).data.toList=[10]:=rfl;rw[e,zni]at h;exact h
theorem zgV (s:Bs) (w:World) (hl:s.length<=20000) :
    Calls prog 47 #[.string (str s),.string ⟨#[13]⟩] w fun e w'=>e=.returned (.string (str (cr s)))/\w'=w:=by
 have h:=Tryz.strings_TrimSuffix (str s) ⟨#[13]⟩ w (by rw[zab];omega);rw[zad]at h;have e:(⟨#[13]⟩:ByteArray).data.toList=[13]:=rfl;rw[e,znq]at h;exact h
def ParAns (w:World) (s:Bs) (e:Ending) (w':World):Prop:=
 ((∃(A r:List VTri) (n:Nat) (v:Value),parV false s=.ok (A.map Subtype.val,n)/\A.length<=100/\SortOf A r/\e=.returned (.tuple #[v,.int .i64 n,.int .i64 0])/\RowV w' w.heap.size v r)\/(∃n k:Nat,parV false s=.error (n,k)/\e=.returned (.tuple #[.slice none 0 0,.int .i64 n,.int .i64 k])))/\Below w.heap.size w w'
theorem MapIs.below {w w':World} {b:Nat} {L:List Tri} (h:MapIs w b L) (hb:Below w.heap.size w w'):MapIs w' b L:=by
 obtain ⟨es,c,h1,h2⟩:=h;exact ⟨es,c,(hb.block b (Array.getElem?_eq_some_iff.1 h1).1).trans h1,h2⟩
theorem MapIs.lt {w:World} {b:Nat} {L:List Tri} (h:MapIs w b L):b<w.heap.size:=by
 obtain ⟨es,c,h1,h2⟩:=h;exact (Array.getElem?_eq_some_iff.1 h1).1
theorem MapIs.grown {w w':World} {b:Nat} {L:List Tri} {B:Nat} {e:TypeId} {sz n:Nat} {v:Value} {xs:List Value} (h:MapIs w b L) (ho:w.ownsRow B e sz v n xs) (hg:w.grownBy w' v.ownBlock):MapIs w' b L:=by
 obtain ⟨es,c,h1,h2⟩:=h;refine ⟨es,c,(hg.block b (Array.getElem?_eq_some_iff.1 h1).1 ?_).trans h1,h2⟩;rcases ho.2 with ⟨rfl,_⟩ | ⟨g,cap,cur,rfl,_,hh,_⟩
 · simp[Value.ownBlock]
 · intro hk;simp[Value.ownBlock]at hk;subst hk;rw[h1]at hh;cases hh
theorem zdH (s:Bs) (w:World) (h4:4<=w.heap.size) (ht:Lay w):Calls prog 13 #[.string (str s)] w (ParAns w s):=by
 have hsz:(str s).size=s.length:=zab s;by_cases hl:20000<s.length
 · have HP:=hid (zf7 hl);have hz:(20000:Int)<((str s).size:Int):=(by rw[hsz];omega);generalize str s=S at hz ⊢;clear hsz;go_enter func13,ntmps13
   go_wp2;go_step3
   go_wp2
   (try rw[Exit.noGoto_ret])
   go_ret3;exact ⟨.inr ⟨0,4,HP.out,rfl⟩,br⟩
 · have HP:=hid (zhn hl);have hz:¬(20000:Int)<((str s).size:Int):=(by rw[hsz];omega);have HLY:Hid (∀W,Below w.heap.size w W->Lay W):=fun W hW=>ht.below hW;clear hsz ht;have hmm:=@run_makeMap prog;obtain ⟨S0,hS0⟩:∃S0,str s=S0:=⟨_,rfl⟩;have HS0:=hid hS0;rw[hS0]at hz ⊢;clear hS0;go_enter func13,ntmps13
   go_wp2;go_step3
   go_wp2;go_step3
   go_wp2;clear hmm hz;rw[<-HS0.out];go_loopw [0,6,7] (fun v0 v6 v7 wr=>∃(t:Bs) (A:List VTri) (n:Nat),v0=.string (str t)/\v7=.int .i64 n/\t.length<=20000/\A.length<=100/\n<=200/\Hid (parV false s=parX t (A.map Subtype.val) n)/\RowV wr w.heap.size v6 A/\Hid (MapIs wr w.heap.size (A.map Subtype.val))/\Below w.heap.size w wr) (fun v0 _ _ _=>match v0 with | .string x=>x.size | _=>0)
   case atStart=>exact ⟨s,[],0,rfl,rfl,by omega,by simp,by omega,HP,World.ownsRow_nil _ _ _ _,hid ⟨#[],0,by exact heap_alloc_new w _,rfl⟩,br.alloc nL _⟩
   case round=>
    obtain ⟨t,A,n,rfl,rfl,htl,hAl,hn2,HPX,hrow,HMAP,hB⟩:=hrel;have HROW:=hid hrow;have HB:=hid hB;have hws:=hB.size;have htz:=zbW t;clear hrow hB;by_cases hte:t=[]
    · subst hte;have HOK:Hid (parV false s=.ok (A.map Subtype.val,n)):=by
       show _=_;rw[HPX.out,zfi]
      have HSO:=hid (zev A _ w.heap.size wr HROW.out (by omega));rw[dT rfl]at htz;clear HPX HROW HMAP;go_wp2_with fail
      refine HSO.out.mono ?_;rintro e w2 ⟨v',r,rfl,hr2,hso,hb2⟩;have HR2:=hid (zam hr2 hws);have HS2:=hid hso;have HB2:=hid (HB.out.trans (hb2.mono hws));clear hr2 hso hb2 HSO;go_wp2
      (try rw[Exit.noGoto_ret])
      go_ret3;exact ⟨.inl ⟨A,r,n,v',HOK.out,hAl,HS2.out,rfl,HR2.out⟩,HB2.out⟩
    · rw[dF hte]at htz;have HCUT:=hid (zjr t wr (HLY.out _ HB.out) htl);have htl2:=zfm t hte;have hla:=lnA_le t;have hcr:=cr_le (lnA t);have hlnl:(ln t).length<=20000:=by
       unfold ln;split
       · omega
       · omega
      have HNE:=hid hte;have HL0:Hid (lnE t=false->ln t=lnA t):=fun h=>(by unfold ln;rw[h];rfl);have HL1:Hid (lnE t=true->ln t=cr (lnA t)):=fun h=>(by unfold ln;rw[h];rfl);have HTR:=hid fun W=>zgV (lnA t) W (by omega);clear hla hcr hte;obtain ⟨tr,htr⟩:∃tr,lnB t=tr:=⟨_,rfl⟩;obtain ⟨b,hb⟩:∃b,lnE t=b:=⟨_,rfl⟩;rw[htr]at HCUT htl2;rw[hb]at HCUT HL0 HL1;have HTRE:=hid htr;clear htr hb;by_cases h200:200<n+1
      · have h2z:(200:Int)<(n:Int)+1:=(by omega);have hwn:IntKind.i64.wrap ((n:Int)+1)=(n:Int)+1:=(wI (by omega));have HER:Hid (parV false s=.error (n+1,3)):=by
         show _=_;rw[HPX.out,zf6 HNE.out h200]
        clear h200;go_wp2_with fail
        refine HCUT.out.mono ?_;rintro e w2 ⟨rfl,nn,rfl⟩;have HB2:Hid (Below w.heap.size w (wr.drewN nn)):=HB.out.trans ⟨rfl,rfl,rfl,nL,fun _ _=>rfl⟩;cases b
        · go_wp2
          (try rw[Exit.noGoto_ret])
          go_ret3;exact ⟨.inr ⟨n+1,3,HER.out,by go_num⟩,HB2.out⟩
        · go_wp2_with fail
          refine (HTR.out _).mono ?_;rintro e w3 ⟨rfl,rfl⟩;go_wp2
          (try rw[Exit.noGoto_ret])
          go_ret3;exact ⟨.inr ⟨n+1,3,HER.out,by go_num⟩,HB2.out⟩
      · have h2z:¬(200:Int)<(n:Int)+1:=(by omega);have hwn:IntKind.i64.wrap ((n:Int)+1)=(n:Int)+1:=(wI (by omega));have H200:=hid h200;clear h200;go_wp2_with fail
        refine HCUT.out.mono ?_;rintro e w2 ⟨rfl,nn,rfl⟩;have hbd:Below wr.heap.size wr (wr.drewN nn):=⟨rfl,rfl,rfl,nL,fun _ _=>rfl⟩;have HB2:=hid (HB.out.trans (hbd.mono hws));have HROW2:=hid (HROW.out.below hbd);have HMAP2:=hid (HMAP.out.below hbd);clear hbd HB HROW HMAP HCUT;generalize wr.drewN nn=w2 at HB2 HROW2 HMAP2 ⊢;have HON:=hid (zgb (ln t) w2 (by have:=HB2.out.size;omega) (HLY.out _ HB2.out) (by omega));have hwB:w.heap.size<w2.heap.size:=HMAP2.out.lt;rcases hbb:b with _ | _;all_goals subst hbb
        · have HE:=hid (HL0.out rfl);clear HL0 HL1;go_wp2_with fail
          rw[<-HE.out];refine HON.out.mono ?_;rintro e w3 ⟨hb3,rfl⟩;have HB3:=hid (HB2.out.trans (hb3.mono HB2.out.size));have HROW3:=hid (HROW2.out.below hb3);have HMAP3:=hid (HMAP2.out.below hb3);have hwB3:w.heap.size<w3.heap.size:=HMAP3.out.lt;have hws3:=HB3.out.size;clear hb3 HON HTR HMAP2 HROW2 HB2;obtain ⟨o,ho⟩:∃o,oneV false (ln t)=o:=⟨_,rfl⟩;rw[ho];have HO:=hid ho;clear ho;rcases o with _ | _ | ⟨⟨k0,x0,e0⟩,⟨k1,x1,e1⟩,⟨k2,x2,e2⟩⟩
          · have HER:Hid (parV false s=.error (n+1,2)):=by
             show _=_;rw[HPX.out,zfj HNE.out H200.out HO.out]
            go_wp2
            (try rw[Exit.noGoto_ret])
            go_ret3;exact ⟨.inr ⟨n+1,2,HER.out,by go_num⟩,HB3.out.alloc hws3 _⟩
          · have HPX2:Hid (parV false s=parX tr (A.map Subtype.val) (n+1)):=by
             show _=_;rw[HPX.out,zhl HNE.out H200.out HO.out,HTRE.out]
            have HMAP4:=hid (HMAP3.out.below ((Below.refl _ w3).alloc nL (.cells #[.int .i64 0,.string ⟨#[]⟩,.string ⟨#[]⟩,.int .i64 0,.string ⟨#[]⟩,.string ⟨#[]⟩,.int .i64 0,.string ⟨#[]⟩,.string ⟨#[]⟩] 110)));have HROW4:=hid (HROW3.out.below ((Below.refl _ w3).alloc nL (.cells #[.int .i64 0,.string ⟨#[]⟩,.string ⟨#[]⟩,.int .i64 0,.string ⟨#[]⟩,.string ⟨#[]⟩,.int .i64 0,.string ⟨#[]⟩,.string ⟨#[]⟩] 110)));have HB4:=hid (HB3.out.alloc hws3 (.cells #[.int .i64 0,.string ⟨#[]⟩,.string ⟨#[]⟩,.int .i64 0,.string ⟨#[]⟩,.string ⟨#[]⟩,.int .i64 0,.string ⟨#[]⟩,.string ⟨#[]⟩] 110));go_wp2;go_roundw
            case rel=>exact ⟨tr,A,n+1,rfl,by go_num,by omega,hAl,by have:=H200.out;omega,HPX2.out,HROW4.out,HMAP4.out,HB4.out⟩
            case measure=>simp only[zab];omega
          · have hgood:triT ⟨⟨k0,x0,e0⟩,⟨k1,x1,e1⟩,⟨k2,x2,e2⟩⟩=true:=zaZ HO.out;obtain ⟨wb,hwb⟩:∃wb,w3.alloc (.cells #[.int .i64 k0,.string (str x0),.string (str e0),.int .i64 k1,.string (str x1),.string (str e1),.int .i64 k2,.string (str x2),.string (str e2)] 110)=wb:=⟨_,rfl⟩;have h9:A9 wb w3.heap.size 110 (.int .i64 k0) (.string (str x0)) (.string (str e0)) (.int .i64 k1) (.string (str x1)) (.string (str e1)) (.int .i64 k2) (.string (str x2)) (.string (str e2)):=(by rw[<-hwb];exact A9.new _ _ _ _ _ _ _ _ _ _ _);have hbb:Below w3.heap.size w3 wb:=(by rw[<-hwb];exact br.alloc nL _);have HB4:=hid (HB3.out.trans (hbb.mono hws3));have HROW4:=hid (HROW3.out.below hbb);have HMAP4:=hid (HMAP3.out.below hbb);have hlook:=zh5 HMAP4.out vkeys ⟨⟨k0,x0,e0⟩,⟨k1,x1,e1⟩,⟨k2,x2,e2⟩⟩ (VTri.key ⟨_,hgood⟩);have hput:=zjZ HMAP4.out vkeys ⟨⟨k0,x0,e0⟩,⟨k1,x1,e1⟩,⟨k2,x2,e2⟩⟩ (VTri.key ⟨_,hgood⟩);have HGOOD:=hid hgood;unfold encTri encT at hlook hput ⊢;simp only[List.cons_append,List.nil_append]at hlook hput ⊢;have HPUT:=hid hput;have H9:=hid h9;have c0:=h9.c0;have c1:=h9.c1;have c2:=h9.c2;have c3:=h9.c3;have c4:=h9.c4;have c5:=h9.c5;have c6:=h9.c6;have c7:=h9.c7;have c8:=h9.c8;have hs4:=HB4.out.size;clear h9 hbb hput hgood HB3 HROW3 HMAP3;by_cases hin:(⟨⟨k0,x0,e0⟩,⟨k1,x1,e1⟩,⟨k2,x2,e2⟩⟩:Tri)∈A.map Subtype.val
            · rw[dT hin]at hlook;have HPX2:Hid (parV false s=parX tr (A.map Subtype.val) (n+1)):=by
               show _=_;rw[HPX.out,zhm HNE.out H200.out HO.out hin,HTRE.out]
              clear hin HPUT;go_wp2;go_roundw
              case rel=>exact ⟨tr,A,n+1,rfl,by go_num,by omega,hAl,by have:=H200.out;omega,HPX2.out,HROW4.out,HMAP4.out,HB4.out⟩
              case measure=>simp only[zab];omega
            · rw[dF hin]at hlook;obtain ⟨o,hput,hmap5⟩:=HPUT.out hin;have hmo:∃es cl,wb.heap[w.heap.size]?=some (.map es cl):=by
               obtain ⟨es,cl,h,_⟩:=HMAP4.out;exact ⟨es,cl,h⟩
              obtain ⟨es,cl,hmo⟩:=hmo;have hb5:Below w.heap.size wb (wb.putObj w.heap.size o):=(Below.refl _ wb).grown (grownBy_putObj' wb w.heap.size o) (by omega) (fun k e=>by cases e;exact nL);have HB5:=hid (HB4.out.trans hb5);have HROW5:=hid (ownsRow_putObj HROW4.out o hmo rfl);have HMAP5:=hid hmap5;have h9b:A9 (wb.putObj w.heap.size o) w3.heap.size 110 (.int .i64 k0) (.string (str x0)) (.string (str e0)) (.int .i64 k1) (.string (str x1)) (.string (str e1)) (.int .i64 k2) (.string (str x2)) (.string (str e2)):=⟨(World.putObj_heap_other (by omega)).trans H9.out.h⟩;have d0:=h9b.c0;have d1:=h9b.c1;have d2:=h9b.c2;have d3:=h9b.c3;have d4:=h9b.c4;have d5:=h9b.c5;have d6:=h9b.c6;have d7:=h9b.c7;have d8:=h9b.c8;have hs5:=HB5.out.size;have HIN:=hid hin;obtain ⟨i0,hi,hz0,hz1,hz2⟩:=zbb;clear h9b hb5 hmap5 hmo H9 HPUT hin;obtain ⟨wc,hwc⟩:∃wc,wb.putObj w.heap.size o=wc:=⟨_,rfl⟩;rw[hwc]at hput HB5 HROW5 HMAP5 d0 d1 d2 d3 d4 d5 d6 d7 d8 hs5;clear hwc;obtain ⟨al,hal⟩:∃al,A.length=al:=⟨_,rfl⟩;have HAL:=hid hal;have hrow5:wc.ownsRow w.heap.size 110 9 u6 al (A.flatMap encV):=by
               have h:=HROW5.out;rw[hal]at h;exact h
              have HROW6:=hid hrow5;rw[hal]at hAl;clear hrow5 hal;go_wp2_with (at_builtin;refine wpList_append_own _ rfl _ _ 36 rfl w.heap.size 110 i0 _ 9 120 underlying36 hi hz0 hz1 hz2 rfl (by decide) _ al (A.flatMap encV) rfl (HROW6.out.alloc _) ⟨wc.heap.size,0,none⟩ 1 1 [.int .i64 k0,.string (str x0),.string (str e0),.int .i64 k1,.string (str x1),.string (str e1),.int .i64 k2,.string (str x2),.string (str e2)] rfl rfl ?q1 ?q2 ?q3 ?q4 ?q5 ?_)
              case q1=>exact World.news_of_block (heap_alloc_new wc _)
              case q2=>simp[Value.oneCell']
              case q3=>unfold maxLen;omega
              case q4=>omega
              case q5=>simp;omega
              intro v8 w8 hown8 hg8 _;obtain ⟨Av8,cv8,rfl⟩:=Fd.zac hown8;have HROW8:Hid (RowV w8 w.heap.size (.slice Av8 (al+1) cv8) (A++[(⟨_,HGOOD.out⟩:VTri)])):=by
               show w8.ownsRow _ _ _ _ _ _;rw[List.length_append,List.flatMap_append,HAL.out];exact hown8
              have HMAP8:Hid (MapIs w8 w.heap.size ((A++[(⟨_,HGOOD.out⟩:VTri)]).map Subtype.val)):=by
               show MapIs _ _ _;rw[List.map_append];exact (HMAP5.out.below ((Below.refl _ wc).alloc nL (.cells #[.int .i64 k0,.string (str x0),.string (str e0),.int .i64 k1,.string (str x1),.string (str e1),.int .i64 k2,.string (str x2),.string (str e2)] 110))).grown (HROW6.out.alloc _) hg8
              have HB8:=hid ((HB5.out.alloc HB5.out.size (.cells #[.int .i64 k0,.string (str x0),.string (str e0),.int .i64 k1,.string (str x1),.string (str e1),.int .i64 k2,.string (str x2),.string (str e2)] 110)).grown hg8 (by simp;omega) (fun j hj=>(HROW6.out.lt j hj).1));clear hown8 hg8 HROW6 HROW5 HMAP5 HB5 d0 d1 d2 d3 d4 d5 d6 d7 d8 c0 c1 c2 c3 c4 c5 c6 c7 c8 hput hlook;by_cases h100:100<al+1
              · have h100z:(100:Int)<(al:Int)+1:=(by omega);have HER:Hid (parV false s=.error (n+1,3)):=by
                 show _=_;rw[HPX.out,zdI HNE.out H200.out HO.out HIN.out (by rw[List.length_map,HAL.out];exact h100)]
                clear h100;go_wp2
                (try rw[Exit.noGoto_ret])
                go_ret3;exact ⟨.inr ⟨n+1,3,HER.out,by go_num⟩,HB8.out⟩
              · have h100z:¬(100:Int)<(al:Int)+1:=(by omega);have HPX2:Hid (parV false s=parX tr ((A++[(⟨_,HGOOD.out⟩:VTri)]).map Subtype.val) (n+1)):=by
                 show _=_;rw[HPX.out,zcX HNE.out H200.out HO.out HIN.out (by rw[List.length_map,HAL.out];exact h100),HTRE.out,List.map_append];rfl
                have hl100:al+1<=100:=(by omega);clear h100;go_wp2;go_roundw
                case rel=>exact ⟨tr,A++[(⟨_,HGOOD.out⟩:VTri)],n+1,rfl,by go_num,by omega,by rw[List.length_append,HAL.out];exact hl100,by have:=H200.out;omega,HPX2,HROW8.out,HMAP8,HB8.out⟩
                case measure=>simp only[zab];omega
        · have HE:=hid (HL1.out rfl);clear HL0 HL1;go_wp2_with fail
          refine (HTR.out _).mono ?_;rintro e w3 ⟨rfl,rfl⟩;go_wp2_with fail
          rw[<-HE.out];refine HON.out.mono ?_;rintro e w3 ⟨hb3,rfl⟩;have HB3:=hid (HB2.out.trans (hb3.mono HB2.out.size));have HROW3:=hid (HROW2.out.below hb3);have HMAP3:=hid (HMAP2.out.below hb3);have hwB3:w.heap.size<w3.heap.size:=HMAP3.out.lt;have hws3:=HB3.out.size;clear hb3 HON HTR HMAP2 HROW2 HB2;obtain ⟨o,ho⟩:∃o,oneV false (ln t)=o:=⟨_,rfl⟩;rw[ho];have HO:=hid ho;clear ho;rcases o with _ | _ | ⟨⟨k0,x0,e0⟩,⟨k1,x1,e1⟩,⟨k2,x2,e2⟩⟩
          · have HER:Hid (parV false s=.error (n+1,2)):=by
             show _=_;rw[HPX.out,zfj HNE.out H200.out HO.out]
            go_wp2
            (try rw[Exit.noGoto_ret])
            go_ret3;exact ⟨.inr ⟨n+1,2,HER.out,by go_num⟩,HB3.out.alloc hws3 _⟩
          · have HPX2:Hid (parV false s=parX tr (A.map Subtype.val) (n+1)):=by
             show _=_;rw[HPX.out,zhl HNE.out H200.out HO.out,HTRE.out]
            have HMAP4:=hid (HMAP3.out.below ((Below.refl _ w3).alloc nL (.cells #[.int .i64 0,.string ⟨#[]⟩,.string ⟨#[]⟩,.int .i64 0,.string ⟨#[]⟩,.string ⟨#[]⟩,.int .i64 0,.string ⟨#[]⟩,.string ⟨#[]⟩] 110)));have HROW4:=hid (HROW3.out.below ((Below.refl _ w3).alloc nL (.cells #[.int .i64 0,.string ⟨#[]⟩,.string ⟨#[]⟩,.int .i64 0,.string ⟨#[]⟩,.string ⟨#[]⟩,.int .i64 0,.string ⟨#[]⟩,.string ⟨#[]⟩] 110)));have HB4:=hid (HB3.out.alloc hws3 (.cells #[.int .i64 0,.string ⟨#[]⟩,.string ⟨#[]⟩,.int .i64 0,.string ⟨#[]⟩,.string ⟨#[]⟩,.int .i64 0,.string ⟨#[]⟩,.string ⟨#[]⟩] 110));go_wp2;go_roundw
            case rel=>exact ⟨tr,A,n+1,rfl,by go_num,by omega,hAl,by have:=H200.out;omega,HPX2.out,HROW4.out,HMAP4.out,HB4.out⟩
            case measure=>simp only[zab];omega
          · have hgood:triT ⟨⟨k0,x0,e0⟩,⟨k1,x1,e1⟩,⟨k2,x2,e2⟩⟩=true:=zaZ HO.out;obtain ⟨wb,hwb⟩:∃wb,w3.alloc (.cells #[.int .i64 k0,.string (str x0),.string (str e0),.int .i64 k1,.string (str x1),.string (str e1),.int .i64 k2,.string (str x2),.string (str e2)] 110)=wb:=⟨_,rfl⟩;have h9:A9 wb w3.heap.size 110 (.int .i64 k0) (.string (str x0)) (.string (str e0)) (.int .i64 k1) (.string (str x1)) (.string (str e1)) (.int .i64 k2) (.string (str x2)) (.string (str e2)):=(by rw[<-hwb];exact A9.new _ _ _ _ _ _ _ _ _ _ _);have hbb:Below w3.heap.size w3 wb:=(by rw[<-hwb];exact br.alloc nL _);have HB4:=hid (HB3.out.trans (hbb.mono hws3));have HROW4:=hid (HROW3.out.below hbb);have HMAP4:=hid (HMAP3.out.below hbb);have hlook:=zh5 HMAP4.out vkeys ⟨⟨k0,x0,e0⟩,⟨k1,x1,e1⟩,⟨k2,x2,e2⟩⟩ (VTri.key ⟨_,hgood⟩);have hput:=zjZ HMAP4.out vkeys ⟨⟨k0,x0,e0⟩,⟨k1,x1,e1⟩,⟨k2,x2,e2⟩⟩ (VTri.key ⟨_,hgood⟩);have HGOOD:=hid hgood;unfold encTri encT at hlook hput ⊢;simp only[List.cons_append,List.nil_append]at hlook hput ⊢;have HPUT:=hid hput;have H9:=hid h9;have c0:=h9.c0;have c1:=h9.c1;have c2:=h9.c2;have c3:=h9.c3;have c4:=h9.c4;have c5:=h9.c5;have c6:=h9.c6;have c7:=h9.c7;have c8:=h9.c8;have hs4:=HB4.out.size;clear h9 hbb hput hgood HB3 HROW3 HMAP3;by_cases hin:(⟨⟨k0,x0,e0⟩,⟨k1,x1,e1⟩,⟨k2,x2,e2⟩⟩:Tri)∈A.map Subtype.val
            · rw[dT hin]at hlook;have HPX2:Hid (parV false s=parX tr (A.map Subtype.val) (n+1)):=by
               show _=_;rw[HPX.out,zhm HNE.out H200.out HO.out hin,HTRE.out]
              clear hin HPUT;go_wp2;go_roundw
              case rel=>exact ⟨tr,A,n+1,rfl,by go_num,by omega,hAl,by have:=H200.out;omega,HPX2.out,HROW4.out,HMAP4.out,HB4.out⟩
              case measure=>simp only[zab];omega
            · rw[dF hin]at hlook;obtain ⟨o,hput,hmap5⟩:=HPUT.out hin;have hmo:∃es cl,wb.heap[w.heap.size]?=some (.map es cl):=by
               obtain ⟨es,cl,h,_⟩:=HMAP4.out;exact ⟨es,cl,h⟩
              obtain ⟨es,cl,hmo⟩:=hmo;have hb5:Below w.heap.size wb (wb.putObj w.heap.size o):=(Below.refl _ wb).grown (grownBy_putObj' wb w.heap.size o) (by omega) (fun k e=>by cases e;exact nL);have HB5:=hid (HB4.out.trans hb5);have HROW5:=hid (ownsRow_putObj HROW4.out o hmo rfl);have HMAP5:=hid hmap5;have h9b:A9 (wb.putObj w.heap.size o) w3.heap.size 110 (.int .i64 k0) (.string (str x0)) (.string (str e0)) (.int .i64 k1) (.string (str x1)) (.string (str e1)) (.int .i64 k2) (.string (str x2)) (.string (str e2)):=⟨(World.putObj_heap_other (by omega)).trans H9.out.h⟩;have d0:=h9b.c0;have d1:=h9b.c1;have d2:=h9b.c2;have d3:=h9b.c3;have d4:=h9b.c4;have d5:=h9b.c5;have d6:=h9b.c6;have d7:=h9b.c7;have d8:=h9b.c8;have hs5:=HB5.out.size;have HIN:=hid hin;obtain ⟨i0,hi,hz0,hz1,hz2⟩:=zbb;clear h9b hb5 hmap5 hmo H9 HPUT hin;obtain ⟨wc,hwc⟩:∃wc,wb.putObj w.heap.size o=wc:=⟨_,rfl⟩;rw[hwc]at hput HB5 HROW5 HMAP5 d0 d1 d2 d3 d4 d5 d6 d7 d8 hs5;clear hwc;obtain ⟨al,hal⟩:∃al,A.length=al:=⟨_,rfl⟩;have HAL:=hid hal;have hrow5:wc.ownsRow w.heap.size 110 9 u6 al (A.flatMap encV):=by
               have h:=HROW5.out;rw[hal]at h;exact h
              have HROW6:=hid hrow5;rw[hal]at hAl;clear hrow5 hal;go_wp2_with (at_builtin;refine wpList_append_own _ rfl _ _ 36 rfl w.heap.size 110 i0 _ 9 120 underlying36 hi hz0 hz1 hz2 rfl (by decide) _ al (A.flatMap encV) rfl (HROW6.out.alloc _) ⟨wc.heap.size,0,none⟩ 1 1 [.int .i64 k0,.string (str x0),.string (str e0),.int .i64 k1,.string (str x1),.string (str e1),.int .i64 k2,.string (str x2),.string (str e2)] rfl rfl ?q1 ?q2 ?q3 ?q4 ?q5 ?_)
              case q1=>exact World.news_of_block (heap_alloc_new wc _)
              case q2=>simp[Value.oneCell']
              case q3=>unfold maxLen;omega
              case q4=>omega
              case q5=>simp;omega
              intro v8 w8 hown8 hg8 _;obtain ⟨Av8,cv8,rfl⟩:=Fd.zac hown8;have HROW8:Hid (RowV w8 w.heap.size (.slice Av8 (al+1) cv8) (A++[(⟨_,HGOOD.out⟩:VTri)])):=by
               show w8.ownsRow _ _ _ _ _ _;rw[List.length_append,List.flatMap_append,HAL.out];exact hown8
              have HMAP8:Hid (MapIs w8 w.heap.size ((A++[(⟨_,HGOOD.out⟩:VTri)]).map Subtype.val)):=by
               show MapIs _ _ _;rw[List.map_append];exact (HMAP5.out.below ((Below.refl _ wc).alloc nL (.cells #[.int .i64 k0,.string (str x0),.string (str e0),.int .i64 k1,.string (str x1),.string (str e1),.int .i64 k2,.string (str x2),.string (str e2)] 110))).grown (HROW6.out.alloc _) hg8
              have HB8:=hid ((HB5.out.alloc HB5.out.size (.cells #[.int .i64 k0,.string (str x0),.string (str e0),.int .i64 k1,.string (str x1),.string (str e1),.int .i64 k2,.string (str x2),.string (str e2)] 110)).grown hg8 (by simp;omega) (fun j hj=>(HROW6.out.lt j hj).1));clear hown8 hg8 HROW6 HROW5 HMAP5 HB5 d0 d1 d2 d3 d4 d5 d6 d7 d8 c0 c1 c2 c3 c4 c5 c6 c7 c8 hput hlook;by_cases h100:100<al+1
              · have h100z:(100:Int)<(al:Int)+1:=(by omega);have HER:Hid (parV false s=.error (n+1,3)):=by
                 show _=_;rw[HPX.out,zdI HNE.out H200.out HO.out HIN.out (by rw[List.length_map,HAL.out];exact h100)]
                clear h100;go_wp2
                (try rw[Exit.noGoto_ret])
                go_ret3;exact ⟨.inr ⟨n+1,3,HER.out,by go_num⟩,HB8.out⟩
              · have h100z:¬(100:Int)<(al:Int)+1:=(by omega);have HPX2:Hid (parV false s=parX tr ((A++[(⟨_,HGOOD.out⟩:VTri)]).map Subtype.val) (n+1)):=by
                 show _=_;rw[HPX.out,zcX HNE.out H200.out HO.out HIN.out (by rw[List.length_map,HAL.out];exact h100),HTRE.out,List.map_append];rfl
                have hl100:al+1<=100:=(by omega);clear h100;go_wp2;go_roundw
                case rel=>exact ⟨tr,A++[(⟨_,HGOOD.out⟩:VTri)],n+1,rfl,by go_num,by omega,by rw[List.length_append,HAL.out];exact hl100,by have:=H200.out;omega,HPX2,HROW8.out,HMAP8,HB8.out⟩
                case measure=>simp only[zab];omega
theorem zf4 (s:Bs) (w:World) (h4:4<=w.heap.size) (ht:Lay w):Calls prog 24 #[.string (str s)] w (ParAns w s):=by
 have hsz:(str s).size=s.length:=zab s;by_cases hl:20000<s.length
 · have HP:=hid (zf7 hl);have hz:(20000:Int)<((str s).size:Int):=(by rw[hsz];omega);generalize str s=S at hz ⊢;clear hsz;go_enter func24,ntmps24
   go_wp2;go_ret3;exact ⟨.inr ⟨0,4,HP.out,rfl⟩,br⟩
 · have HP:=hid (zhn hl);have hz:¬(20000:Int)<((str s).size:Int):=(by rw[hsz];omega);have HLY:Hid (∀W,Below w.heap.size w W->Lay W):=fun W hW=>ht.below hW;clear hsz ht;obtain ⟨S0,hS0⟩:∃S0,str s=S0:=⟨_,rfl⟩;have HS0:=hid hS0;rw[hS0]at hz ⊢;clear hS0;go_enter func24,ntmps24
   go_wp2;clear hz;rw[<-HS0.out];go_loopw [0,5,6] (fun v0 v5 v6 wr=>∃(t:Bs) (A r:List VTri) (n:Nat),v0=.string (str t)/\v6=.int .i64 n/\t.length<=20000/\A.length<=100/\n<=200/\Hid (parV false s=parX t (A.map Subtype.val) n)/\RowV wr w.heap.size v5 r/\Hid (SortB (ltOf cmpV) A r/\r.length=A.length)/\Below w.heap.size w wr) (fun v0 _ _ _=>match v0 with | .string x=>x.size | _=>0)
   case atStart=>exact ⟨s,[],[],0,rfl,rfl,by omega,by simp,by omega,HP,World.ownsRow_nil _ _ _ _,hid ⟨SortB.nil _,rfl⟩,br⟩
   case round=>
    obtain ⟨t,A,r,n,rfl,rfl,htl,hAl,hn2,HPX,hrow,HSB,hB⟩:=hrel;obtain ⟨Ar,cr0,rfl⟩:=Fd.zac hrow;have HROW:=hid hrow;have HB:=hid hB;have hws:=hB.size;have htz:=zbW t;have hrl:r.length<=100:=(by have:=HSB.out.2;omega);clear hrow hB;by_cases hte:t=[]
    · subst hte;have HOK:Hid (parV false s=.ok (A.map Subtype.val,n)):=by
       show _=_;rw[HPX.out,zfi]
      rw[dT rfl]at htz;clear HPX;go_wp2;go_ret3;exact ⟨.inl ⟨A,r,n,_,HOK.out,hAl,HSB.out.1,rfl,HROW.out⟩,HB.out⟩
    · rw[dF hte]at htz;have htl2:=zfm t hte;have hlnl:(ln t).length<=20000:=(by have:=ln_len t;omega);have HNE:=hid hte;have HAT:=hid (ln_at t);have HBK:=hid (zn4 t);have HN0:=hid (zn3 t);have HWH:=hid (zmf t);have HON:Hid (∀W,Below w.heap.size w W->Calls prog 65 #[.string (str (ln t))] W fun v w'=>Below W.heap.size W w'/\OneOut (oneV false (ln t)) v):=fun W hW=>by
       rw[<-znS];exact zi5 (ln t) W (by have:=hW.size;omega) (HLY.out _ hW) (by omega)
      obtain ⟨K,hK⟩:∃K,(lnA t).length=K:=⟨_,rfl⟩;rw[hK]at HAT HBK HN0 HWH;have hKl:K<=t.length:=HAT.out.2.1;have hsz:=zab t;have hs0:=fun a=>ze6 t a;have hsd:=fun a=>zaW t a;have hgi:∀(i:Nat) (h:i<t.length),(str t)[i]'(by rw[hsz];exact h)=t[i]:=fun _ _=>rfl;clear hte hK;obtain ⟨S,hS⟩:∃S,str t=S:=⟨_,rfl⟩;have HGI:Hid (∀(i:Nat) (c:UInt8),t[i]?=some c->∃h:i<S.size,S[i]'h=c):=fun i c h=>by
       subst hS;have hi:=(List.getElem?_eq_some_iff.1 h).1;exact ⟨by rw[hsz];exact hi,by rw[hgi i hi];exact (List.getElem?_eq_some_iff.1 h).2⟩
      clear hgi;rw[hS]at hs0 hsd hsz htz;have HS0':=hid hs0;have HSD':=hid hsd;have HSS:=hid hS;rw[hS];clear hs0 hsd hS;go_wp2;go_loopw [7] (fun v7 wi=>∃k m:Nat,v7=.int .i64 k/\k<=K/\wi=wr.drewN m) (fun v7 _=>K-(intOf v7).toNat)
      case atStart=>exact ⟨0,0,rfl,Nat.zero_le _,rfl⟩
      case round=>
       obtain ⟨k,m,rfl,hk,rfl⟩:=hrel;have HBM:Hid (Below w.heap.size w (wr.drewN m)):=HB.out.trans ⟨rfl,rfl,rfl,nL,fun _ _=>rfl⟩;by_cases hlt:k<K
       · have hkl:k<t.length:=(by omega);obtain ⟨hi,hc⟩:=HGI.out k t[k] (List.getElem?_eq_getElem hkl);have hne:=HAT.out.1 k t[k] hlt (List.getElem?_eq_getElem hkl);have q1:=zb6 t[k] 10 (by decide);rw[dF (show ¬t[k]=UInt8.ofNat 10 from hne)]at q1;generalize t[k]=c at hc q1;have hklz:(k:Int)<(t.length:Int):=(by omega);clear hne;go_wp2;go_roundw
         case rel=>exact ⟨k+1,m,by go_num,by omega,rfl⟩
         case measure=>simp[intOf];omega
       · obtain rfl:k=K:=(by omega);have HROW1:=hid (HROW.out.below (show Below wr.heap.size wr (wr.drewN m) from ⟨rfl,rfl,rfl,nL,fun _ _=>rfl⟩));clear hlt hk HROW HB;generalize wr.drewN m=w1 at HBM HROW1 ⊢;have HLB:Hid (lnB t=t.drop (k+1)):=HAT.out.2.2.2.2.2
         have hcase:(k=t.length/\S.extract 0 k=str (ln t)/\lnB t=[])\/(k<t.length/\k=0/\(∃h:k<S.size,S[k]'h=10)/\S.extract 0 k=str (ln t)/\S.extract (k+1) t.length=str (lnB t))\/
             (∃j,k=j+1/\k<t.length/\(∃h:k<S.size,S[k]'h=10)/\(∃h:j<S.size,S[j]'h=13)/\S.extract 0 j=str (ln t)/\S.extract (k+1) t.length=str (lnB t))\/
             (∃j c,k=j+1/\k<t.length/\(∃h:k<S.size,S[k]'h=10)/\(∃h:j<S.size,S[j]'h=c)/\c≠13/\S.extract 0 k=str (ln t)/\S.extract (k+1) t.length=str (lnB t)):=by
          by_cases h1:k=t.length
          · refine .inl ⟨h1,?_,?_⟩
            · rw[HS0'.out,HWH.out (HAT.out.2.2.2.1 h1)]
            · rw[HLB.out,List.drop_of_length_le (by omega)]
          · have h2:k<t.length:=(by omega);obtain ⟨e10,hE⟩:=HAT.out.2.2.1 h2;have g10:=HGI.out k 10 e10;have gB:S.extract (k+1) t.length=str (lnB t):=(by rw[HSD'.out,HLB.out]);cases k with
            | zero=>exact .inr (.inl ⟨h2,rfl,g10,by rw[HS0'.out,HN0.out rfl];rfl,gB⟩)
            | succ j=>
             have hb:=HBK.out j rfl hE;by_cases h13:t[j]?=some 13
             · rw[if_pos h13]at hb;exact .inr (.inr (.inl ⟨j,rfl,h2,g10,HGI.out j 13 h13,by rw[HS0'.out,hb],gB⟩))
             · rw[if_neg h13]at hb;have hj:j<t.length:=(by omega);exact .inr (.inr (.inr ⟨j,t[j],rfl,h2,g10,HGI.out j _ (List.getElem?_eq_getElem hj),fun e=>h13 (by rw[List.getElem?_eq_getElem hj,e]),by rw[HS0'.out,hb],gB⟩))
         clear HS0' HSD' HLB HAT HBK HN0 HWH HGI;have HER3:Hid (200<n+1->parV false s=.error (n+1,3)):=fun h=>(by rw[HPX.out,zf6 HNE.out h]);have HER2:Hid (¬200<n+1->oneV false (ln t)=none->parV false s=.error (n+1,2)):=fun h h2=>(by rw[HPX.out,zfj HNE.out h h2]);have HGO0:Hid (¬200<n+1->oneV false (ln t)=some none->parV false s=parX (lnB t) (A.map Subtype.val) (n+1)):=fun h h2=>(by rw[HPX.out,zhl HNE.out h h2]);have HGOT:Hid (∀T:VTri,¬200<n+1->oneV false (ln t)=some (some T.1)->(T∈A->parV false s=parX (lnB t) (A.map Subtype.val) (n+1))/\(T∉A->100<A.length+1->parV false s=.error (n+1,3))/\(T∉A->¬100<A.length+1->parV false s=parX (lnB t) ((A++[T]).map Subtype.val) (n+1))):=fun T h h2=>by
          have hm:T∈A↔T.1∈A.map Subtype.val:=⟨fun h=>List.mem_map_of_mem h,fun h=>by
           obtain ⟨u,hu,e⟩:=List.mem_map.1 h;rwa[<-Subtype.ext e]⟩
          refine ⟨fun hi=>?_,fun hi hc=>?_,fun hi hc=>?_⟩
          · rw[HPX.out,zhm HNE.out h h2 (hm.1 hi)]
          · rw[HPX.out,zdI HNE.out h h2 (fun e=>hi (hm.2 e)) (by rw[List.length_map];exact hc)]
          · rw[HPX.out,zcX HNE.out h h2 (fun e=>hi (hm.2 e)) (by rw[List.length_map];exact hc),List.map_append];rfl
         obtain ⟨L,hL⟩:∃L,ln t=L:=⟨_,rfl⟩;obtain ⟨R,hR⟩:∃R,lnB t=R:=⟨_,rfl⟩;rw[hL]at HON HER2 HGO0 HGOT hcase hlnl;rw[hR]at HGO0 HGOT hcase htl2;clear hL hR HPX HNE;have hw1:IntKind.i64.wrap ((k:Int)+1)=(k:Int)+1:=(wI (by omega));have hwn:IntKind.i64.wrap ((n:Int)+1)=(n:Int)+1:=(wI (by omega));have hk0:(k:Int)<=(t.length:Int):=(by omega);by_cases h200:200<n+1
         · have h2z:(200:Int)<(n:Int)+1:=(by omega);have HE:=hid (HER3.out h200);rcases hcase with ⟨g1,g2,rfl⟩ | ⟨g1,g6,⟨g2,g3⟩,g4,g5⟩ | ⟨j,g8,g1,⟨g2,g3⟩,⟨g6,g7⟩,g4,g5⟩ | ⟨j,c,g9,g1,⟨g2,g3⟩,⟨g6,g7⟩,g8,g4,g5⟩
           · have gz:¬(k:Int)<(t.length:Int):=(by omega);have gm:min ((k:Int)+1) (t.length:Int)=(t.length:Int):=(by omega);clear g1;go_wp2;go_ret3;exact ⟨.inr ⟨n+1,3,HE.out,by go_num⟩,HBM.out⟩
           · have gz:(k:Int)<(t.length:Int):=(by omega);have gm:min ((k:Int)+1) (t.length:Int)=(k:Int)+1:=(by omega);have gn:((k:Int)+1).toNat=k+1:=(by omega);have gj:¬(0:Int)<(k:Int):=(by omega);have gl:(k:Int)+1<=(t.length:Int):=(by omega);clear g1 g6;go_wp2;go_ret3;exact ⟨.inr ⟨n+1,3,HE.out,by go_num⟩,HBM.out⟩
           · have gz:(k:Int)<(t.length:Int):=(by omega);have gm:min ((k:Int)+1) (t.length:Int)=(k:Int)+1:=(by omega);have gn:((k:Int)+1).toNat=k+1:=(by omega);have gj:(0:Int)<(k:Int):=(by omega);have gl:(k:Int)+1<=(t.length:Int):=(by omega);have gw:IntKind.i64.wrap ((k:Int)-1)=(j:Int):=(wI (by omega));have gjl:(j:Int)<(t.length:Int):=(by omega);have gjk:(j:Int)<=(t.length:Int):=(by omega);clear g1 g8;go_wp2;go_ret3;exact ⟨.inr ⟨n+1,3,HE.out,by go_num⟩,HBM.out⟩
           · have gz:(k:Int)<(t.length:Int):=(by omega);have gm:min ((k:Int)+1) (t.length:Int)=(k:Int)+1:=(by omega);have gn:((k:Int)+1).toNat=k+1:=(by omega);have gj:(0:Int)<(k:Int):=(by omega);have gl:(k:Int)+1<=(t.length:Int):=(by omega);have gw:IntKind.i64.wrap ((k:Int)-1)=(j:Int):=(wI (by omega));have gjl:(j:Int)<(t.length:Int):=(by omega);have q1:=zb6 c 13 (by decide);rw[dF (show ¬c=UInt8.ofNat 13 from g8)]at q1;clear g1 g8 g9;go_wp2;go_ret3;exact ⟨.inr ⟨n+1,3,HE.out,by go_num⟩,HBM.out⟩
         · have h2z:¬(200:Int)<(n:Int)+1:=(by omega);have H200:=hid h200;clear h200 HER3;rcases hcase with ⟨g1,g2,rfl⟩ | ⟨g1,g6,⟨g2,g3⟩,g4,g5⟩ | ⟨j,g8,g1,⟨g2,g3⟩,⟨g6,g7⟩,g4,g5⟩ | ⟨j,c,g9,g1,⟨g2,g3⟩,⟨g6,g7⟩,g8,g4,g5⟩
           · have gz:¬(k:Int)<(t.length:Int):=(by omega);have gm:min ((k:Int)+1) (t.length:Int)=(t.length:Int):=(by omega);clear g1;go_wp2_with fail
             refine (HON.out _ HBM.out).mono ?_;rintro v w2 ⟨hb2,rfl⟩;have HB2:=hid (HBM.out.trans (hb2.mono HBM.out.size));have HROW2:=hid (HROW1.out.below hb2);have hs2:=HB2.out.size;clear hb2 HON HBM HROW1;obtain ⟨o,ho⟩:∃o,oneV false L=o:=⟨_,rfl⟩;rw[ho];have HO:=hid ho;clear ho;rcases o with _ | _ | ⟨⟨k0,x0,e0⟩,⟨k1,x1,e1⟩,⟨k2,x2,e2⟩⟩
             · have HE:=hid (HER2.out H200.out HO.out);go_wp2;go_ret3;exact ⟨.inr ⟨n+1,2,HE.out,by go_num⟩,HB2.out.alloc hs2 _⟩
             · have HPX2:=hid (HGO0.out H200.out HO.out);have HROW4:=hid (HROW2.out.below ((Below.refl _ w2).alloc nL (.cells #[.int .i64 0,.string ⟨#[]⟩,.string ⟨#[]⟩,.int .i64 0,.string ⟨#[]⟩,.string ⟨#[]⟩,.int .i64 0,.string ⟨#[]⟩,.string ⟨#[]⟩] 110)));have HB4:=hid (HB2.out.alloc hs2 (.cells #[.int .i64 0,.string ⟨#[]⟩,.string ⟨#[]⟩,.int .i64 0,.string ⟨#[]⟩,.string ⟨#[]⟩,.int .i64 0,.string ⟨#[]⟩,.string ⟨#[]⟩] 110));have hrz:¬(100:Int)<(r.length:Int):=(by omega);go_wp2;go_roundw
               case rel=>exact ⟨[],A,r,n+1,rfl,by go_num,by omega,hAl,by have:=H200.out;omega,HPX2,HROW4.out,HSB,HB4.out⟩
               case measure=>first | (simp only[zab,hsz];omega) | (show 0<S.size;rw[hsz];simpa using htl2)
             · have hgood:triT ⟨⟨k0,x0,e0⟩,⟨k1,x1,e1⟩,⟨k2,x2,e2⟩⟩=true:=zaZ HO.out;obtain ⟨X,hX⟩:∃X:VTri,X.1=⟨⟨k0,x0,e0⟩,⟨k1,x1,e1⟩,⟨k2,x2,e2⟩⟩:=⟨⟨_,hgood⟩,rfl⟩;have HGT:=hid (HGOT.out X H200.out (by rw[hX];exact HO.out));obtain ⟨wb,hwb⟩:∃wb,w2.alloc (.cells #[.int .i64 k0,.string (str x0),.string (str e0),.int .i64 k1,.string (str x1),.string (str e1),.int .i64 k2,.string (str x2),.string (str e2)] 110)=wb:=⟨_,rfl⟩;have h9:A9 wb w2.heap.size 110 (.int .i64 k0) (.string (str x0)) (.string (str e0)) (.int .i64 k1) (.string (str x1)) (.string (str e1)) (.int .i64 k2) (.string (str x2)) (.string (str e2)):=(by rw[<-hwb];exact A9.new _ _ _ _ _ _ _ _ _ _ _);have hbb:Below w2.heap.size w2 wb:=(by rw[<-hwb];exact br.alloc nL _);have HB4:=hid (HB2.out.trans (hbb.mono hs2));have hrow4:=HROW2.out.below hbb;have HP:=hid (zbD r _ w.heap.size X wb hrow4 (by omega) HB4.out.size);obtain ⟨c0,c1,c2,c3,c4,c5,c6,c7,c8⟩:=h9.all;rw[hX]at HP;unfold encTri encT at HP ⊢;simp only[List.cons_append,List.nil_append]at HP ⊢;clear h9 hbb hrow4 hgood HB2 HROW2 HGOT HGO0 HER2 HO;go_wp2_with fail
               refine HP.out.mono ?_;rintro e w5 ⟨v',r',rfl,hput,hrow5,hb5⟩;have HPL:=hid (zfg HSB.out.1 HSB.out.2 hput);have HB5:=hid (HB4.out.trans (hb5.mono HB4.out.size));have HROW5:=hid hrow5;obtain ⟨A5,c5',rfl⟩:=Fd.zac hrow5;clear hput hrow5 hb5 HP c0 c1 c2 c3 c4 c5 c6 c7 c8 hwb;by_cases hin:X∈A
               · have HPX2:=hid (HGT.out.1 hin);have HS5:=hid (HPL.out.1 hin);have hrz:¬(100:Int)<(r'.length:Int):=(by have:=HS5.out.2;omega);clear HPL HGT hin;go_wp2;go_roundw
                 case rel=>exact ⟨[],A,r',n+1,rfl,by go_num,by omega,hAl,by have:=H200.out;omega,HPX2,HROW5.out,HS5,HB5.out⟩
                 case measure=>first | (simp only[zab,hsz];omega) | (show 0<S.size;rw[hsz];simpa using htl2)
               · have HS5:=hid (HPL.out.2 hin);have hr5:r'.length=A.length+1:=(by have:=HS5.out.2;rwa[List.length_append,List.length_singleton]at this);by_cases h100:100<A.length+1
                 · have HE:=hid (HGT.out.2.1 hin h100);have hrz:(100:Int)<(r'.length:Int):=(by omega);clear HPL HGT hin hr5 h100;go_wp2;go_ret3;exact ⟨.inr ⟨n+1,3,HE.out,by go_num⟩,HB5.out⟩
                 · have HPX2:=hid (HGT.out.2.2 hin h100);have hrz:¬(100:Int)<(r'.length:Int):=(by omega);have hA2:(A++[X]).length<=100:=(by rw[List.length_append,List.length_singleton];omega);clear HPL HGT hin hr5 h100;go_wp2;go_roundw
                   case rel=>exact ⟨[],A++[X],r',n+1,rfl,by go_num,by omega,hA2,by have:=H200.out;omega,HPX2,HROW5.out,HS5,HB5.out⟩
                   case measure=>first | (simp only[zab,hsz];omega) | (show 0<S.size;rw[hsz];simpa using htl2)
           · have gz:(k:Int)<(t.length:Int):=(by omega);have gm:min ((k:Int)+1) (t.length:Int)=(k:Int)+1:=(by omega);have gn:((k:Int)+1).toNat=k+1:=(by omega);have gj:¬(0:Int)<(k:Int):=(by omega);have gl:(k:Int)+1<=(t.length:Int):=(by omega);clear g1 g6;go_wp2_with fail
             refine (HON.out _ HBM.out).mono ?_;rintro v w2 ⟨hb2,rfl⟩;have HB2:=hid (HBM.out.trans (hb2.mono HBM.out.size));have HROW2:=hid (HROW1.out.below hb2);have hs2:=HB2.out.size;clear hb2 HON HBM HROW1;obtain ⟨o,ho⟩:∃o,oneV false L=o:=⟨_,rfl⟩;rw[ho];have HO:=hid ho;clear ho;rcases o with _ | _ | ⟨⟨k0,x0,e0⟩,⟨k1,x1,e1⟩,⟨k2,x2,e2⟩⟩
             · have HE:=hid (HER2.out H200.out HO.out);go_wp2;go_ret3;exact ⟨.inr ⟨n+1,2,HE.out,by go_num⟩,HB2.out.alloc hs2 _⟩
             · have HPX2:=hid (HGO0.out H200.out HO.out);have HROW4:=hid (HROW2.out.below ((Below.refl _ w2).alloc nL (.cells #[.int .i64 0,.string ⟨#[]⟩,.string ⟨#[]⟩,.int .i64 0,.string ⟨#[]⟩,.string ⟨#[]⟩,.int .i64 0,.string ⟨#[]⟩,.string ⟨#[]⟩] 110)));have HB4:=hid (HB2.out.alloc hs2 (.cells #[.int .i64 0,.string ⟨#[]⟩,.string ⟨#[]⟩,.int .i64 0,.string ⟨#[]⟩,.string ⟨#[]⟩,.int .i64 0,.string ⟨#[]⟩,.string ⟨#[]⟩] 110));have hrz:¬(100:Int)<(r.length:Int):=(by omega);go_wp2;go_roundw
               case rel=>exact ⟨R,A,r,n+1,rfl,by go_num,by omega,hAl,by have:=H200.out;omega,HPX2,HROW4.out,HSB,HB4.out⟩
               case measure=>first | (simp only[zab,hsz];omega) | (show 0<S.size;rw[hsz];simpa using htl2)
             · have hgood:triT ⟨⟨k0,x0,e0⟩,⟨k1,x1,e1⟩,⟨k2,x2,e2⟩⟩=true:=zaZ HO.out;obtain ⟨X,hX⟩:∃X:VTri,X.1=⟨⟨k0,x0,e0⟩,⟨k1,x1,e1⟩,⟨k2,x2,e2⟩⟩:=⟨⟨_,hgood⟩,rfl⟩;have HGT:=hid (HGOT.out X H200.out (by rw[hX];exact HO.out));obtain ⟨wb,hwb⟩:∃wb,w2.alloc (.cells #[.int .i64 k0,.string (str x0),.string (str e0),.int .i64 k1,.string (str x1),.string (str e1),.int .i64 k2,.string (str x2),.string (str e2)] 110)=wb:=⟨_,rfl⟩;have h9:A9 wb w2.heap.size 110 (.int .i64 k0) (.string (str x0)) (.string (str e0)) (.int .i64 k1) (.string (str x1)) (.string (str e1)) (.int .i64 k2) (.string (str x2)) (.string (str e2)):=(by rw[<-hwb];exact A9.new _ _ _ _ _ _ _ _ _ _ _);have hbb:Below w2.heap.size w2 wb:=(by rw[<-hwb];exact br.alloc nL _);have HB4:=hid (HB2.out.trans (hbb.mono hs2));have hrow4:=HROW2.out.below hbb;have HP:=hid (zbD r _ w.heap.size X wb hrow4 (by omega) HB4.out.size);obtain ⟨c0,c1,c2,c3,c4,c5,c6,c7,c8⟩:=h9.all;rw[hX]at HP;unfold encTri encT at HP ⊢;simp only[List.cons_append,List.nil_append]at HP ⊢;clear h9 hbb hrow4 hgood HB2 HROW2 HGOT HGO0 HER2 HO;go_wp2_with fail
               refine HP.out.mono ?_;rintro e w5 ⟨v',r',rfl,hput,hrow5,hb5⟩;have HPL:=hid (zfg HSB.out.1 HSB.out.2 hput);have HB5:=hid (HB4.out.trans (hb5.mono HB4.out.size));have HROW5:=hid hrow5;obtain ⟨A5,c5',rfl⟩:=Fd.zac hrow5;clear hput hrow5 hb5 HP c0 c1 c2 c3 c4 c5 c6 c7 c8 hwb;by_cases hin:X∈A
               · have HPX2:=hid (HGT.out.1 hin);have HS5:=hid (HPL.out.1 hin);have hrz:¬(100:Int)<(r'.length:Int):=(by have:=HS5.out.2;omega);clear HPL HGT hin;go_wp2;go_roundw
                 case rel=>exact ⟨R,A,r',n+1,rfl,by go_num,by omega,hAl,by have:=H200.out;omega,HPX2,HROW5.out,HS5,HB5.out⟩
                 case measure=>first | (simp only[zab,hsz];omega) | (show 0<S.size;rw[hsz];simpa using htl2)
               · have HS5:=hid (HPL.out.2 hin);have hr5:r'.length=A.length+1:=(by have:=HS5.out.2;rwa[List.length_append,List.length_singleton]at this);by_cases h100:100<A.length+1
                 · have HE:=hid (HGT.out.2.1 hin h100);have hrz:(100:Int)<(r'.length:Int):=(by omega);clear HPL HGT hin hr5 h100;go_wp2;go_ret3;exact ⟨.inr ⟨n+1,3,HE.out,by go_num⟩,HB5.out⟩
                 · have HPX2:=hid (HGT.out.2.2 hin h100);have hrz:¬(100:Int)<(r'.length:Int):=(by omega);have hA2:(A++[X]).length<=100:=(by rw[List.length_append,List.length_singleton];omega);clear HPL HGT hin hr5 h100;go_wp2;go_roundw
                   case rel=>exact ⟨R,A++[X],r',n+1,rfl,by go_num,by omega,hA2,by have:=H200.out;omega,HPX2,HROW5.out,HS5,HB5.out⟩
                   case measure=>first | (simp only[zab,hsz];omega) | (show 0<S.size;rw[hsz];simpa using htl2)
           · have gz:(k:Int)<(t.length:Int):=(by omega);have gm:min ((k:Int)+1) (t.length:Int)=(k:Int)+1:=(by omega);have gn:((k:Int)+1).toNat=k+1:=(by omega);have gj:(0:Int)<(k:Int):=(by omega);have gl:(k:Int)+1<=(t.length:Int):=(by omega);have gw:IntKind.i64.wrap ((k:Int)-1)=(j:Int):=(wI (by omega));have gjl:(j:Int)<(t.length:Int):=(by omega);have gjk:(j:Int)<=(t.length:Int):=(by omega);clear g1 g8;go_wp2_with fail
             refine (HON.out _ HBM.out).mono ?_;rintro v w2 ⟨hb2,rfl⟩;have HB2:=hid (HBM.out.trans (hb2.mono HBM.out.size));have HROW2:=hid (HROW1.out.below hb2);have hs2:=HB2.out.size;clear hb2 HON HBM HROW1;obtain ⟨o,ho⟩:∃o,oneV false L=o:=⟨_,rfl⟩;rw[ho];have HO:=hid ho;clear ho;rcases o with _ | _ | ⟨⟨k0,x0,e0⟩,⟨k1,x1,e1⟩,⟨k2,x2,e2⟩⟩
             · have HE:=hid (HER2.out H200.out HO.out);go_wp2;go_ret3;exact ⟨.inr ⟨n+1,2,HE.out,by go_num⟩,HB2.out.alloc hs2 _⟩
             · have HPX2:=hid (HGO0.out H200.out HO.out);have HROW4:=hid (HROW2.out.below ((Below.refl _ w2).alloc nL (.cells #[.int .i64 0,.string ⟨#[]⟩,.string ⟨#[]⟩,.int .i64 0,.string ⟨#[]⟩,.string ⟨#[]⟩,.int .i64 0,.string ⟨#[]⟩,.string ⟨#[]⟩] 110)));have HB4:=hid (HB2.out.alloc hs2 (.cells #[.int .i64 0,.string ⟨#[]⟩,.string ⟨#[]⟩,.int .i64 0,.string ⟨#[]⟩,.string ⟨#[]⟩,.int .i64 0,.string ⟨#[]⟩,.string ⟨#[]⟩] 110));have hrz:¬(100:Int)<(r.length:Int):=(by omega);go_wp2;go_roundw
               case rel=>exact ⟨R,A,r,n+1,rfl,by go_num,by omega,hAl,by have:=H200.out;omega,HPX2,HROW4.out,HSB,HB4.out⟩
               case measure=>first | (simp only[zab,hsz];omega) | (show 0<S.size;rw[hsz];simpa using htl2)
             · have hgood:triT ⟨⟨k0,x0,e0⟩,⟨k1,x1,e1⟩,⟨k2,x2,e2⟩⟩=true:=zaZ HO.out;obtain ⟨X,hX⟩:∃X:VTri,X.1=⟨⟨k0,x0,e0⟩,⟨k1,x1,e1⟩,⟨k2,x2,e2⟩⟩:=⟨⟨_,hgood⟩,rfl⟩;have HGT:=hid (HGOT.out X H200.out (by rw[hX];exact HO.out));obtain ⟨wb,hwb⟩:∃wb,w2.alloc (.cells #[.int .i64 k0,.string (str x0),.string (str e0),.int .i64 k1,.string (str x1),.string (str e1),.int .i64 k2,.string (str x2),.string (str e2)] 110)=wb:=⟨_,rfl⟩;have h9:A9 wb w2.heap.size 110 (.int .i64 k0) (.string (str x0)) (.string (str e0)) (.int .i64 k1) (.string (str x1)) (.string (str e1)) (.int .i64 k2) (.string (str x2)) (.string (str e2)):=(by rw[<-hwb];exact A9.new _ _ _ _ _ _ _ _ _ _ _);have hbb:Below w2.heap.size w2 wb:=(by rw[<-hwb];exact br.alloc nL _);have HB4:=hid (HB2.out.trans (hbb.mono hs2));have hrow4:=HROW2.out.below hbb;have HP:=hid (zbD r _ w.heap.size X wb hrow4 (by omega) HB4.out.size);obtain ⟨c0,c1,c2,c3,c4,c5,c6,c7,c8⟩:=h9.all;rw[hX]at HP;unfold encTri encT at HP ⊢;simp only[List.cons_append,List.nil_append]at HP ⊢;clear h9 hbb hrow4 hgood HB2 HROW2 HGOT HGO0 HER2 HO;go_wp2_with fail
               refine HP.out.mono ?_;rintro e w5 ⟨v',r',rfl,hput,hrow5,hb5⟩;have HPL:=hid (zfg HSB.out.1 HSB.out.2 hput);have HB5:=hid (HB4.out.trans (hb5.mono HB4.out.size));have HROW5:=hid hrow5;obtain ⟨A5,c5',rfl⟩:=Fd.zac hrow5;clear hput hrow5 hb5 HP c0 c1 c2 c3 c4 c5 c6 c7 c8 hwb;by_cases hin:X∈A
               · have HPX2:=hid (HGT.out.1 hin);have HS5:=hid (HPL.out.1 hin);have hrz:¬(100:Int)<(r'.length:Int):=(by have:=HS5.out.2;omega);clear HPL HGT hin;go_wp2;go_roundw
                 case rel=>exact ⟨R,A,r',n+1,rfl,by go_num,by omega,hAl,by have:=H200.out;omega,HPX2,HROW5.out,HS5,HB5.out⟩
                 case measure=>first | (simp only[zab,hsz];omega) | (show 0<S.size;rw[hsz];simpa using htl2)
               · have HS5:=hid (HPL.out.2 hin);have hr5:r'.length=A.length+1:=(by have:=HS5.out.2;rwa[List.length_append,List.length_singleton]at this);by_cases h100:100<A.length+1
                 · have HE:=hid (HGT.out.2.1 hin h100);have hrz:(100:Int)<(r'.length:Int):=(by omega);clear HPL HGT hin hr5 h100;go_wp2;go_ret3;exact ⟨.inr ⟨n+1,3,HE.out,by go_num⟩,HB5.out⟩
                 · have HPX2:=hid (HGT.out.2.2 hin h100);have hrz:¬(100:Int)<(r'.length:Int):=(by omega);have hA2:(A++[X]).length<=100:=(by rw[List.length_append,List.length_singleton];omega);clear HPL HGT hin hr5 h100;go_wp2;go_roundw
                   case rel=>exact ⟨R,A++[X],r',n+1,rfl,by go_num,by omega,hA2,by have:=H200.out;omega,HPX2,HROW5.out,HS5,HB5.out⟩
                   case measure=>first | (simp only[zab,hsz];omega) | (show 0<S.size;rw[hsz];simpa using htl2)
           · have gz:(k:Int)<(t.length:Int):=(by omega);have gm:min ((k:Int)+1) (t.length:Int)=(k:Int)+1:=(by omega);have gn:((k:Int)+1).toNat=k+1:=(by omega);have gj:(0:Int)<(k:Int):=(by omega);have gl:(k:Int)+1<=(t.length:Int):=(by omega);have gw:IntKind.i64.wrap ((k:Int)-1)=(j:Int):=(wI (by omega));have gjl:(j:Int)<(t.length:Int):=(by omega);have q1:=zb6 c 13 (by decide);rw[dF (show ¬c=UInt8.ofNat 13 from g8)]at q1;clear g1 g8 g9;go_wp2_with fail
             refine (HON.out _ HBM.out).mono ?_;rintro v w2 ⟨hb2,rfl⟩;have HB2:=hid (HBM.out.trans (hb2.mono HBM.out.size));have HROW2:=hid (HROW1.out.below hb2);have hs2:=HB2.out.size;clear hb2 HON HBM HROW1;obtain ⟨o,ho⟩:∃o,oneV false L=o:=⟨_,rfl⟩;rw[ho];have HO:=hid ho;clear ho;rcases o with _ | _ | ⟨⟨k0,x0,e0⟩,⟨k1,x1,e1⟩,⟨k2,x2,e2⟩⟩
             · have HE:=hid (HER2.out H200.out HO.out);go_wp2;go_ret3;exact ⟨.inr ⟨n+1,2,HE.out,by go_num⟩,HB2.out.alloc hs2 _⟩
             · have HPX2:=hid (HGO0.out H200.out HO.out);have HROW4:=hid (HROW2.out.below ((Below.refl _ w2).alloc nL (.cells #[.int .i64 0,.string ⟨#[]⟩,.string ⟨#[]⟩,.int .i64 0,.string ⟨#[]⟩,.string ⟨#[]⟩,.int .i64 0,.string ⟨#[]⟩,.string ⟨#[]⟩] 110)));have HB4:=hid (HB2.out.alloc hs2 (.cells #[.int .i64 0,.string ⟨#[]⟩,.string ⟨#[]⟩,.int .i64 0,.string ⟨#[]⟩,.string ⟨#[]⟩,.int .i64 0,.string ⟨#[]⟩,.string ⟨#[]⟩] 110));have hrz:¬(100:Int)<(r.length:Int):=(by omega);go_wp2;go_roundw
               case rel=>exact ⟨R,A,r,n+1,rfl,by go_num,by omega,hAl,by have:=H200.out;omega,HPX2,HROW4.out,HSB,HB4.out⟩
               case measure=>first | (simp only[zab,hsz];omega) | (show 0<S.size;rw[hsz];simpa using htl2)
             · have hgood:triT ⟨⟨k0,x0,e0⟩,⟨k1,x1,e1⟩,⟨k2,x2,e2⟩⟩=true:=zaZ HO.out;obtain ⟨X,hX⟩:∃X:VTri,X.1=⟨⟨k0,x0,e0⟩,⟨k1,x1,e1⟩,⟨k2,x2,e2⟩⟩:=⟨⟨_,hgood⟩,rfl⟩;have HGT:=hid (HGOT.out X H200.out (by rw[hX];exact HO.out));obtain ⟨wb,hwb⟩:∃wb,w2.alloc (.cells #[.int .i64 k0,.string (str x0),.string (str e0),.int .i64 k1,.string (str x1),.string (str e1),.int .i64 k2,.string (str x2),.string (str e2)] 110)=wb:=⟨_,rfl⟩;have h9:A9 wb w2.heap.size 110 (.int .i64 k0) (.string (str x0)) (.string (str e0)) (.int .i64 k1) (.string (str x1)) (.string (str e1)) (.int .i64 k2) (.string (str x2)) (.string (str e2)):=(by rw[<-hwb];exact A9.new _ _ _ _ _ _ _ _ _ _ _);have hbb:Below w2.heap.size w2 wb:=(by rw[<-hwb];exact br.alloc nL _);have HB4:=hid (HB2.out.trans (hbb.mono hs2));have hrow4:=HROW2.out.below hbb;have HP:=hid (zbD r _ w.heap.size X wb hrow4 (by omega) HB4.out.size);obtain ⟨c0,c1,c2,c3,c4,c5,c6,c7,c8⟩:=h9.all;rw[hX]at HP;unfold encTri encT at HP ⊢;simp only[List.cons_append,List.nil_append]at HP ⊢;clear h9 hbb hrow4 hgood HB2 HROW2 HGOT HGO0 HER2 HO;go_wp2_with fail
               refine HP.out.mono ?_;rintro e w5 ⟨v',r',rfl,hput,hrow5,hb5⟩;have HPL:=hid (zfg HSB.out.1 HSB.out.2 hput);have HB5:=hid (HB4.out.trans (hb5.mono HB4.out.size));have HROW5:=hid hrow5;obtain ⟨A5,c5',rfl⟩:=Fd.zac hrow5;clear hput hrow5 hb5 HP c0 c1 c2 c3 c4 c5 c6 c7 c8 hwb;by_cases hin:X∈A
               · have HPX2:=hid (HGT.out.1 hin);have HS5:=hid (HPL.out.1 hin);have hrz:¬(100:Int)<(r'.length:Int):=(by have:=HS5.out.2;omega);clear HPL HGT hin;go_wp2;go_roundw
                 case rel=>exact ⟨R,A,r',n+1,rfl,by go_num,by omega,hAl,by have:=H200.out;omega,HPX2,HROW5.out,HS5,HB5.out⟩
                 case measure=>first | (simp only[zab,hsz];omega) | (show 0<S.size;rw[hsz];simpa using htl2)
               · have HS5:=hid (HPL.out.2 hin);have hr5:r'.length=A.length+1:=(by have:=HS5.out.2;rwa[List.length_append,List.length_singleton]at this);by_cases h100:100<A.length+1
                 · have HE:=hid (HGT.out.2.1 hin h100);have hrz:(100:Int)<(r'.length:Int):=(by omega);clear HPL HGT hin hr5 h100;go_wp2;go_ret3;exact ⟨.inr ⟨n+1,3,HE.out,by go_num⟩,HB5.out⟩
                 · have HPX2:=hid (HGT.out.2.2 hin h100);have hrz:¬(100:Int)<(r'.length:Int):=(by omega);have hA2:(A++[X]).length<=100:=(by rw[List.length_append,List.length_singleton];omega);clear HPL HGT hin hr5 h100;go_wp2;go_roundw
                   case rel=>exact ⟨R,A++[X],r',n+1,rfl,by go_num,by omega,hA2,by have:=H200.out;omega,HPX2,HROW5.out,HS5,HB5.out⟩
                   case measure=>first | (simp only[zab,hsz];omega) | (show 0<S.size;rw[hsz];simpa using htl2)
end Go.Proofs.YtaeiifngjglchaaGreatDoor
end
