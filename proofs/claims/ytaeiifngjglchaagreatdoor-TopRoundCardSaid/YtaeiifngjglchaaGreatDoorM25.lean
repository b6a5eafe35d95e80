/- Proved on the way: What is printed is read as it was: plain; Package store: Decode. Each theorem states its own conditions. -/
import Derived.Test.YtaeiifngjglchaaGreatDoorM24
set_option maxHeartbeats 16000000
set_option maxRecDepth 1000000
set_option linter.unusedSimpArgs false
section
namespace Go.Proofs.YtaeiifngjglchaaGreatDoor
open Go.Proofs.Tryz
open Go.Lib Tv Go.Sort
theorem zmB (c:UInt8):∀b∈escB c,b≠10:=by
 refine zas c (fun c=>∀b∈escB c,b≠10) ?_;decide +kernel
theorem zkV (l:Bs):∀b∈escS l,b≠10:=fun b hb=>by
 unfold escS at hb;obtain ⟨c,_,h⟩:=List.mem_flatMap.1 hb;exact zmB c b h
theorem zhZ:∀b:UInt8,isTag b=true->b≠10:=fun b h e=>by subst e;revert h;decide
theorem zip {x:Bs} (h:iriT x=true):∀b∈x,b≠10:=fun b hb e=>by
 subst e;rw[zkB (.inl hb)]at h;cases h
theorem zhg (l:Bs):∀b∈qt l,b≠10:=fun b hb=>by
 unfold qt at hb;simp only[List.cons_append,List.nil_append,List.mem_cons,List.mem_append,List.not_mem_nil,or_false]at hb;rcases hb with rfl | hb | rfl
 · decide
 · exact zkV l b hb
 · decide
theorem zb8 (t:Tm) (h:tmT t=true):(∃c q,shw t=c::q/\c≠35)/\∀b∈shw t,b≠10:=by
 obtain ⟨k,x,e⟩:=t;have hk:=(za8 _ h).kind;simp only at hk;rcases hk with rfl | rfl | rfl | rfl | rfl
 · have hi:(iriT x && decide (e=[]))=true:=h;simp only[Bool.and_eq_true,decide_eq_true_eq]at hi;refine ⟨⟨60,x++[62],rfl,by decide⟩,fun b hb=>?_⟩;have hb:b∈60::(x++[62]):=hb;simp only[List.mem_cons,List.mem_append,List.not_mem_nil,or_false]at hb;rcases hb with rfl | hb | rfl
   · decide
   · exact zip hi.1 b hb
   · decide
 · refine ⟨⟨95,58::x,rfl,by decide⟩,fun b hb=>?_⟩;have hb:b∈95::58::x:=hb;simp only[List.mem_cons]at hb;rcases hb with rfl | rfl | hb
   · decide
   · decide
   · refine zhZ b ?_;unfold isTag;rw[(za8 _ h).label rfl b hb];rfl
 · exact ⟨⟨34,escS x++[34],rfl,by decide⟩,fun b hb=>zhg x b hb⟩
 · refine ⟨⟨34,escS x++[34]++64::e,rfl,by decide⟩,fun b hb=>?_⟩;have hb:b∈qt x++64::e:=hb;simp only[List.mem_cons,List.mem_append]at hb;rcases hb with hb | rfl | hb
   · exact zhg x b hb
   · decide
   · exact zhZ b ((za8 _ h).lang rfl b hb).1
 · have hi:(decide (x.length<=30) && validD x && iriT e)=true:=h;simp only[Bool.and_eq_true,decide_eq_true_eq]at hi;refine ⟨⟨34,escS x++[34]++94::94::60::(e++[62]),rfl,by decide⟩,fun b hb=>?_⟩;have hb:b∈qt x++94::94::60::(e++[62]):=hb;simp only[List.mem_cons,List.mem_append,List.not_mem_nil,or_false]at hb;rcases hb with hb | rfl | rfl | rfl | hb | rfl
   · exact zhg x b hb
   · decide
   · decide
   · decide
   · exact zip hi.2 b hb
   · decide
def lineT (T:Tri):Bs:=shw T.s++32::(shw T.p++32::(shw T.o++[32,46]))
theorem zn5 (T:Tri):linT T=lineT T++[10]:=by unfold linT lineT;simp
theorem sp_ok (r:Bs):∀c,((32:UInt8)::r).head?=some c->isTag c=false/\c≠64/\c≠94:=fun c h=>by cases h;decide
theorem zl6 (x:VTri):oneV false (lineT x.1)=some (some x.1):=by
 obtain ⟨⟨⟨c,q,e,hc⟩,_⟩,hv1,hv2,hv3⟩:((∃c q,shw x.1.s=c::q/\c≠35)/\∀b∈shw x.1.s,b≠10)/\validD (shw x.1.s)=true/\validD (shw x.1.p)=true/\validD (shw x.1.o)=true:=⟨zb8 _ x.s,zb5 _ x.s,zb5 _ x.p,zb5 _ x.o⟩;have hval:validD (lineT x.1)=true:=by
  unfold lineT;rw[zaF _ _ hv1,validD_cons 32 _ (by decide),zaF _ _ hv2,validD_cons 32 _ (by decide),zaF _ _ hv3];decide
 have hblk:blk (lineT x.1)=lineT x.1:=zdB _ _;have hov:ovr (lineT x.1)=false:=by
  unfold lineT ovr;rw[e];simp[hc]
 have h3:threeV false (lineT x.1)=some (x.1,[46]):=by
  unfold threeV lineT;rw[zbh false _ x.s _ (sp_ok _),Option.bind_some];show ((termV false (blk (32::(shw x.1.p++32::(shw x.1.o++[32,46])))))).bind _=_;rw[ziE,zdB,zbh false _ x.p _ (sp_ok _),Option.bind_some];show ((termV false (blk (32::(shw x.1.o++[32,46]))))).map _=_;rw[ziE,zdB,zbh false _ x.o _ (sp_ok _),Option.map_some];rfl
 unfold oneV;rw[if_pos hval,hblk,hov,if_neg (by decide),h3,Option.bind_some];show (if ovr (blk []) && triT x.1 then some (some x.1) else none)=_;rw[x.2];rfl
theorem znd:∀(b r:Bs),(∀c∈b,c≠10)->lnA (b++10::r)=b/\lnB (b++10::r)=r/\lnE (b++10::r)=true
 | [],r,_=>by
  rw[List.nil_append,lnA_c,lnB_c,lnE_c];exact ⟨rfl,rfl,rfl⟩
 | c::b,r,h=>by
  obtain ⟨h1,h2,h3⟩:=znd b r fun d hd=>h d (List.mem_cons_of_mem _ hd);have hc:c≠10:=h c (by simp);rw[List.cons_append,lnA_c,lnB_c,lnE_c,if_neg hc,if_neg hc,if_neg hc,h1,h2,h3];exact ⟨rfl,rfl,rfl⟩
theorem zku (x:VTri):∀b∈lineT x.1,b≠10:=fun b hb=>by
 unfold lineT at hb;simp only[List.mem_cons,List.mem_append,List.not_mem_nil,or_false]at hb;rcases hb with hb | rfl | hb | rfl | hb | rfl | rfl
 · exact (zb8 _ x.s).2 b hb
 · decide
 · exact (zb8 _ x.p).2 b hb
 · decide
 · exact (zb8 _ x.o).2 b hb
 · decide
 · decide
theorem zf5:∀(L A:List VTri) (n:Nat),(A++L).Nodup->A.length+L.length<=100->n+L.length<=200->parX (prtT L) (A.map Subtype.val) n=.ok ((A++L).map Subtype.val,n+L.length)
 | [],A,n,_,_,_=>by
  show parX [] _ _=_;rw[zfi,List.append_nil];rfl
 | x::L,A,n,hnd,hl,hn=>by
  have e:prtT (x::L)=lineT x.1++10::prtT L:=by
   show linT x.1++prtT L=_;rw[zn5];simp
  obtain ⟨h1,h2,h3⟩:=znd (lineT x.1) (prtT L) (zku x);have hln:ln (lineT x.1++10::prtT L)=lineT x.1:=by
   unfold ln cr;have e46:lineT x.1=(shw x.1.s++32::(shw x.1.p++32::(shw x.1.o++[32])))++[46]:=(by unfold lineT;simp);rw[h3,if_pos rfl,h1,if_neg];rw[e46,List.getLast?_concat];decide
  have hx:x.1∉A.map Subtype.val:=fun h=>by
   obtain ⟨u,hu,hux⟩:=List.mem_map.1 h;have:u=x:=Subtype.ext hux;subst this;rw[List.nodup_append]at hnd;exact hnd.2.2 u hu u (by simp) rfl
  simp only[List.length_cons]at hl hn ⊢;rw[e,zcX (t:=x.1) (by simp) (by omega) (by rw[hln];exact zl6 x) hx (by rw[List.length_map];omega),h2];have h:=zf5 L (A++[x]) (n+1) (by rw[List.append_assoc];exact hnd) (by rw[List.length_append,List.length_singleton];omega) (by omega);rw[List.map_append]at h;rw[show List.map Subtype.val A++[x.1]=List.map Subtype.val A++List.map Subtype.val [x] from rfl,h,List.append_assoc]
  congr 2
  omega
end Go.Proofs.YtaeiifngjglchaaGreatDoor
end
section
namespace Go.Proofs.YtaeiifngjglchaaGreatDoor
open Go.Proofs.Tryz
open Go.RowKit Go.Lib Tv Go.Sort Pk
open Go.Proofs.YtaeiifngjglchaaGreatDoorW.PrintLast
open Go.Proofs.YtaeiifngjglchaaGreatDoorW.PrintWords (nums)
def DecAns (w:World) (b:Bs) (e:Ending) (w':World):Prop:=
 ((∃S v L ts,fileN ts L=b/\StoreIs w' S v L ts/\e=.returned (.tuple #[.pointer (some ⟨S,0,none⟩),.int .i64 0]))\/(¬IsFile b/\e=.returned (.tuple #[.pointer none,.int .i64 2])))/\Below w.heap.size w w'
theorem DecAns.no {w w':World} {b:Bs} {e:Ending} (h:¬IsFile b) (he:e=.returned (.tuple #[.pointer none,.int .i64 2])) (hb:Below w.heap.size w w'):DecAns w b e w':=⟨.inr ⟨h,he⟩,hb⟩
theorem PunAns.two {w w':World} {b:List UInt8} {n d:Nat} {e:Ending} (h:PunAns w b n d e w'):∃vr er,e=.returned (.tuple #[vr,.int .i64 er])/\((∃l A c,PkIs (natB b) n d l/\vr=.slice A n c/\er=0/\w'.ownsRow w.heap.size 3 1 (.slice A n c) n (nums .i64 (ints l)))\/((¬∃l,PkIs (natB b) n d l)/\er=2))/\Below w.heap.size w w':=by
 rcases h with ⟨⟨l,A,c,h1,rfl,h2⟩ | ⟨h1,rfl⟩,hb⟩
 · exact ⟨_,_,rfl,.inl ⟨l,A,c,h1,rfl,rfl,h2⟩,hb⟩
 · exact ⟨_,_,rfl,.inr ⟨h1,rfl⟩,hb⟩
theorem ziZ (A:Option Addr) (c:Nat) (b:Bs) (w:World) (hs:Fd.Seg w A b.length (Fd.bys b)) (hA:0<b.length->∃g,A=some ⟨g,0,none⟩) (hbig:b.length<=80000) (hc:b.length<=c) :
    Calls prog 30 #[.slice A b.length c] w (Fd.ReadsAs w b):=by
 by_cases h2:b.length<2
 · exact Fd.ziY A c b w h2
 · obtain ⟨g,rfl⟩:=hA (by omega);exact Fd.zj6 g c b w hs (by omega) hbig hc
theorem zb3 (x:Nat) (h:x<1000000):IntKind.i64.wrap (x:Int)=(x:Int):=wI (by omega)
theorem n_val (a c:Nat) (ha:a<256) (hb:c<256):IntKind.i64.wrap (IntKind.i64.wrap (IntKind.i64.wrap (a:Int)*256)+IntKind.i64.wrap (c:Int))=((a*256+c:Nat):Int):=by
 rw[zb3 a (by omega),zb3 c (by omega),show (a:Int)*256=((a*256:Nat):Int) by omega,zb3 (a*256) (by omega),show ((a*256:Nat):Int)+(c:Int)=((a*256+c:Nat):Int) by omega,zb3 _ (by omega)]
theorem zgC (blk c:Nat) (b:Bs) (w:World) (h4:4<=w.heap.size) (hl:Lay w) (h:Fd.Seg w (some ⟨blk,0,none⟩) b.length (Fd.bys b)) (hc:b.length<=c) (hlen:b.length<=80000) :
    Calls prog 9 #[.slice (some ⟨blk,0,none⟩) b.length c] w (DecAns w b):=by
 have HUN:=hid (zd7 blk c b w h hc hlen);have HS:=hid h;have HLA:=hid hl;clear h hl;go_enter func9,ntmps9
 go_wp2_with fail
 refine HUN.out.mono ?_;rintro e w1 ⟨⟨xs,v,hbx,rfl,hrow,hpart⟩ | ⟨hno,rfl⟩,hb1⟩
 case inr=>
  have HN:=hid (no_box hno);have HB1:=hid hb1;clear hno hb1;go_wp2;go_ret2;exact DecAns.no HN.out rfl HB1.out
 obtain ⟨Ax,cx,rfl⟩:=Fd.zac hrow.own;have HB1:=hid hb1;have HBX:=hid hbx;have HROW:=hid hrow;have HPART:=hid hpart;clear hb1 hbx hrow hpart HUN;by_cases h2:xs.length=2
 case neg=>
  have HN:=hid (no_two HBX.out (by rw[za3];exact h2));have hz:((xs.length:Int) != 2)=true:=(by rw[bne_iff_ne];omega);generalize xs.length=xl at hz;clear h2 HBX HROW HPART;go_wp2;go_ret2;exact DecAns.no HN.out rfl HB1.out
 obtain ⟨x0,x1,rfl⟩:∃x0 x1,xs=[x0,x1]:=by
  match xs,h2 with
  | [x0,x1],_=>exact ⟨x0,x1,rfl⟩
 clear h2;obtain ⟨gx,rfl,_,_⟩:=zdF HROW.out.own (by simp);obtain ⟨ci0,ca0⟩:=HROW.out.at_ 0 x0 rfl;obtain ⟨ci1,ca1⟩:=HROW.out.at_ 1 x1 rfl;obtain ⟨p0h,p0c⟩:=HROW.out.part x0 (by simp);obtain ⟨p1h,p1c⟩:=HROW.out.part x1 (by simp);obtain ⟨l0,a0⟩:=HPART.out x0 (by simp);obtain ⟨l1,a1⟩:=HPART.out x1 (by simp);obtain ⟨i0,A0,c0,b0⟩:=x0;obtain ⟨i1,A1,c1,b1⟩:=x1;simp only at ci0 ca0 ci1 ca1 p0h p0c p1h p1c l0 a0 l1 a1;have hbx:Bx.BxIs b [⟨i0,b0⟩,⟨i1,b1⟩]:=HBX.out;have HBX2:=hid hbx;have HC0:=hid ca0;have HC1:=hid ca1;clear hbx HBX HROW HPART ci0 ci1;rw[show ([⟨i0,A0,c0,b0⟩,⟨i1,A1,c1,b1⟩]:List SecV).length=2 from rfl];by_cases h22:b1.length<2
 case pos=>
  have HN:=hid (znY HBX2.out h22);have hz:(b1.length:Int)<2:=(by omega);clear h22;go_wp2;go_ret2;exact DecAns.no HN.out rfl HB1.out
 have hz:¬(b1.length:Int)<2:=(by omega);obtain ⟨p0,p1,q,rfl⟩:∃p0 p1 q,b1=p0::p1::q:=by
  match b1,h22 with
  | p0::p1::q,_=>exact ⟨p0,p1,q,rfl⟩
  | [_],h=>exact absurd (by simp) h
  | [],h=>exact absurd (by simp) h
 obtain ⟨blen,hblen⟩:∃blen,(p0::p1::q).length=blen:=⟨_,rfl⟩;have hbq:blen=q.length+2:=(by rw[<-hblen];simp);obtain ⟨g1,rfl⟩:=a1 (by simp);have hk0:w1.cell? ⟨g1,0,none⟩=some (.int .u8 (p0.toNat:Int)):=by
  obtain ⟨ad,e,h⟩:=p1h.byte (k:=0) (by simp);cases e
  exact h
 have hk1:w1.cell? ⟨g1,1,none⟩=some (.int .u8 (p1.toNat:Int)):=by
  obtain ⟨ad,e,h⟩:=p1h.byte (k:=1) (by simp);cases e
  rw[Fd.add_zero']at h;exact h
 have HQS:Hid (Fd.Seg w1 (some ⟨g1,2,none⟩) q.length (Fd.bys q)):=by
  have:=Fd.zjV p1h 2 q.length (by simp;omega);rw[show (List.drop 2 (p0::p1::q)).take q.length=q from by simp]at this;exact this
 have HRD:=hid (ziZ A0 c0 b0 w1 p0h a0 (by omega) p0c);have HK0:=hid hk0;have HK1:=hid hk1;have HBL:=hid hblen;rw[hblen]at hz p1c l1 ca1;clear hk0 hk1 h22 p0h p1h a0 a1 HC0 HC1;clear hblen;go_wp2_with fail
 refine HRD.out.mono ?_;rintro e w2 ⟨⟨d,D,hrd,rfl,hdic⟩ | ⟨hno,rfl⟩,hb2⟩
 case inr=>
  have HN:=hid (no_rd HBX2.out hno);have HB2:=hid (HB1.out.trans (hb2.mono HB1.out.size));have HQL:=hid hbq;clear HQS hno;have k0:=zaa HK0.out hb2;have k1:=zaa HK1.out hb2;have ca2:=zaa ca1 hb2;have ha:=p0.toNat_lt;have hb:=p1.toNat_lt;have z0:(0:Int)<(blen:Int):=(by omega);have z1:(1:Int)<(blen:Int):=(by omega);have y0:0<blen:=(by omega);have y1:1<blen:=(by omega);obtain ⟨n,hn⟩:∃n,p0.toNat*256+p1.toNat=n:=⟨_,rfl⟩;have HNE:=hid hn;have hval:=n_val p0.toNat p1.toNat ha hb;rw[hn]at hval;have HVAL:=hid hval;generalize p0.toNat=a at k0 ha hval HVAL;generalize p1.toNat=cc at k1 hb hval HVAL;have ha0:(a:Int)<=255:=(by omega);have hb0:(cc:Int)<=255:=(by omega);clear HK0 HK1 HRD hbq ha hb hval hn;go_wp2_with fail
  refine sA 11 [] (fun w'=>w'.cell? ⟨g1,0,none⟩=some (.int .u8 (a:Int))/\w'.cell? ⟨g1,1,none⟩=some (.int .u8 (cc:Int))) ?_ (fun hHeld=>?_)
  · exact ⟨k0,k1⟩
  refine pU 0 ?_;refine pU 1 ?_;refine tK 2 hHeld ?_;refine pU 3 ?_;refine pU 4 ?_;refine pU 5 ?_;refine pU 6 ?_;refine tK 7 hHeld ?_;refine pU 8 ?_;refine pU 9 ?_;refine pU 10 ?_;refine done_ (by kernel_rfl) ?_;rw[HVAL.out];clear hHeld k0 k1 ha0 hb0 HVAL;go_wp2;go_ret2;exact DecAns.no HN.out rfl HB2.out.drew
 have HB2:=hid (HB1.out.trans (hb2.mono HB1.out.size));have HQ2:=hid (HQS.out.below hb2);have HRDD:=hid hrd;have HDIC:=hid hdic;have HQL:=hid hbq;clear hrd hdic HQS;have k0:=zaa HK0.out hb2;have k1:=zaa HK1.out hb2;have ca2:=zaa ca1 hb2;have ha:=p0.toNat_lt;have hb:=p1.toNat_lt;have z0:(0:Int)<(blen:Int):=(by omega);have z1:(1:Int)<(blen:Int):=(by omega);have y0:0<blen:=(by omega);have y1:1<blen:=(by omega);obtain ⟨n,hn⟩:∃n,p0.toNat*256+p1.toNat=n:=⟨_,rfl⟩;have HNE:=hid hn;have hval:=n_val p0.toNat p1.toNat ha hb;rw[hn]at hval;have HVAL:=hid hval;generalize p0.toNat=a at k0 ha hval HVAL;generalize p1.toNat=cc at k1 hb hval HVAL;have ha0:(a:Int)<=255:=(by omega);have hb0:(cc:Int)<=255:=(by omega);clear HK0 HK1 HRD hbq ha hb hval hn;go_wp2_with fail
 refine sA 11 [] (fun w'=>w'.cell? ⟨g1,0,none⟩=some (.int .u8 (a:Int))/\w'.cell? ⟨g1,1,none⟩=some (.int .u8 (cc:Int))) ?_ (fun hHeld=>?_)
 · exact ⟨k0,k1⟩
 refine pU 0 ?_;refine pU 1 ?_;refine tK 2 hHeld ?_;refine pU 3 ?_;refine pU 4 ?_;refine pU 5 ?_;refine pU 6 ?_;refine tK 7 hHeld ?_;refine pU 8 ?_;refine pU 9 ?_;refine pU 10 ?_;refine done_ (by kernel_rfl) ?_;rw[HVAL.out];clear hHeld k0 k1 ha0 hb0 HVAL;by_cases h100:100<n
 · have HN:=hid (no_n HBX2.out (by rw[HNE.out];exact h100));have hgt:(100:Int)<(n:Int):=(by omega);clear h100;go_wp2;go_ret2;exact DecAns.no HN.out rfl HB2.out.drew
 have hgt:¬(100:Int)<(n:Int):=(by omega);have hgt2:(n:Int)<=100:=(by omega);obtain ⟨w3,hw3⟩:∃w3,w2.drew=w3:=⟨_,rfl⟩;have hb23:Below w2.heap.size w2 w3:=(by rw[<-hw3];exact br.drew);have HB3:=hid (HB2.out.trans (hb23.mono HB2.out.size));have HQ3:=hid (HQ2.out.below hb23);have HDIC3:=hid (HDIC.out.below hb23);have hdl:=HDIC.out.may.1;clear hb23 ca2 HB2 HQ2 HDIC;rw[hw3];clear hw3;have z2:(2:Int)<=(blen:Int):=(by omega);have y2:2<=blen:=(by omega);have f3:IntKind.i64.wrap ((n:Int)*3)=((3*n:Nat):Int):=(wI (by omega));obtain ⟨Aq,hAq⟩:∃Aq:Option Addr,(if c1=2 then some (⟨g1,0,none⟩:Addr) else some ⟨g1,2,none⟩)=Aq:=⟨_,rfl⟩;have HSQ:Hid (Fd.Seg w3 Aq q.length (Fd.bys q)):=by
  show Fd.Seg w3 Aq q.length (Fd.bys q);rw[<-hAq];by_cases h2:c1=2
  · rw[if_pos h2];have hq0:q.length=0:=(by have:=HQL.out;omega);obtain rfl:q=[]:=List.eq_nil_of_length_eq_zero hq0;exact ⟨rfl,fun h=>absurd h (by simp)⟩
  · rw[if_neg h2];exact HQ3.out
 go_wp2_with fail
 refine sT 13 (fun hHeld=>?_);refine pU 0 ?_;refine pU 1 ?_;refine pU 2 ?_;refine pU 3 ?_;refine pU 4 ?_;refine oN 5 (fun K hK=>?_);refine cL func33 #[.pointer (some ⟨D,0,none⟩)] ?_;refine (Fd.zgh D d _ (HDIC3.out.below br.drew)).mono ?_;rintro e w4 ⟨rfl,rfl⟩;refine ⟨_,rfl,?_⟩;refine oU hK trivial (fun hHeld=>?_);clear hK K;refine oN 6 (fun K hK=>?_);refine cL func32 #[.int .i64 d.length] ?_;refine (zc8 d.length (by omega) _).mono ?_;rintro e w4 ⟨rfl,hb4⟩;refine ⟨_,rfl,?_⟩;have hb4':Below w3.heap.size w3 w4:=br.drew.trans hb4;have HB4:=hid (HB3.out.trans (hb4'.mono HB3.out.size));have HQ4:=hid (HSQ.out.below hb4');have HDIC4:=hid (HDIC3.out.below hb4');refine oU hK trivial (fun hHeld=>?_);clear hK K;have hqe:q.length=blen-2:=(by have:=HQL.out;omega);have hpu:=zcT Aq (c1-2) q (3*n) (Lib.bitLen d.length) w4 HQ4.out (by omega) (by omega) (by omega) (by have:=zbM hdl;omega);rw[hqe,show ((3*n:Nat):Int)=3*(n:Int) by omega]at hpu;have HPU:=hid hpu;clear hpu hqe hb4 hb4' HB3 HQ3 HDIC3 HQ4 HSQ;refine oN 7 (fun K hK=>?_);refine cL func31 #[.slice Aq (blen-2) (c1-2),.int .i64 (3*(n:Int)),.int .i64 (Lib.bitLen d.length:Nat)] ?_;refine HPU.out.mono ?_;rintro e w5 hpun;obtain ⟨vr,er,rfl,hor,hb5⟩:=hpun.two;refine ⟨_,rfl,?_⟩;have HB5:=hid (HB4.out.trans (hb5.mono HB4.out.size));have HDIC5:=hid (HDIC4.out.below hb5);have HOR:=hid hor;clear hor hb5 HDIC4 HB4 hpun HPU;refine oU hK trivial (fun hHeld=>?_);clear hK K;refine pU 8 ?_;refine pU 9 ?_;refine pU 10 ?_;refine pU 11 ?_;refine pU 12 ?_;refine done_ (by kernel_rfl) ?_;clear hHeld f3;rcases HOR.out with ⟨l,Ar,cr,hpk,rfl,rfl,hrow⟩ | ⟨hno,rfl⟩
 case inr=>
  have HN:=hid (no_pk HBX2.out HRDD.out HNE.out hno);clear hno HOR;go_wp2;go_ret2;exact DecAns.no HN.out rfl HB5.out
 have HPK:=hid hpk;have hdsz:∀s∈d,s.size<=40000:=by
  intro s hs;obtain ⟨i,hi,rfl⟩:=List.mem_iff_getElem.1 hs;have:=(HDIC5.out.may.2 i hi).2.2.1;omega
 have HTR:=hid (zeZ D d Ar cr n (ints l) w5 (by have:=HB5.out.size;omega) (HLA.out.below HB5.out) HDIC5.out hdsz (zam hrow (Nat.zero_le _)) (by omega));clear hpk hrow HOR hdsz;go_wp2_with fail
 refine HTR.out.mono ?_;rintro e w6 ⟨⟨ts,v6,rfl,hmap,hok,hown⟩ | ⟨hno,v6,rfl⟩,hb6⟩
 case inr=>
  have HN:=hid (znW HBX2.out HRDD.out HNE.out HPK.out hno);have HB6:=hid (HB5.out.trans (hb6.mono HB5.out.size));clear hno hb6;go_wp2;go_ret2;exact DecAns.no HN.out rfl HB6.out
 have HB6:=hid (HB5.out.trans (hb6.mono HB5.out.size));obtain ⟨A0L,rfl⟩:=zjy hok;have hlen0:A0L.length=n:=by
  have:=congrArg List.length hmap;simp at this;omega
 have hrv:RowV w6 w5.heap.size v6 A0L:=by
  unfold RowV;rw[List.length_map,List.flatMap_map]at hown;exact hown
 have HSO:=hid (zev A0L v6 w5.heap.size w6 hrv (by omega));have HMAP:=hid hmap;clear hown hrv hok hmap hb6 HTR;go_wp2_with fail
 refine HSO.out.mono ?_;rintro e w7 ⟨v7,r,rfl,hrow7,hsort,hb7⟩;have HB7:=hid (HB6.out.trans (hb7.mono HB6.out.size));have hrl:=hsort.len;have HMD:=hid (zeC r v7 w7 (zam hrow7 (Nat.zero_le _)) hsort.1 (by omega));have HSORT:=hid hsort;clear hrow7 hsort hb7 HSO;go_wp2_with fail
 refine HMD.out.mono ?_;rintro e w8 ⟨S,ts,rfl,hst,hb8⟩;have HB8:=hid (HB7.out.trans (hb8.mono HB7.out.size));have HST:=hid hst;have HEN:=hid (zcO S v7 r ts w8 hst);clear hst hb8 HMD;go_wp2_with fail
 refine HEN.out.mono ?_;rintro e w9 ⟨A9,c9,rfl,hown9,hb9⟩;have HB9:=hid (HB8.out.trans (hb9.mono HB8.out.size));have HST9:=hid (HST.out.below hb9);have hfl:(fileN ts r).length<=1000000:=by
  have:=HST.out.ok.bx;have h1:=this.1.2.2;have h2:(fileN ts r).length=9+7*(secN ts r).length+(Bx.bodB (secN ts r)).length:=Bx.zc5 _;omega
 have HEQ:=hid (beq_calls A9 c9 (fileN ts r) (some ⟨blk,0,none⟩) c b w9 (Fd.Seg.of_own hown9) (Fd.own_le' hown9) (HS.out.below HB9.out) hc hfl (by omega));clear hown9 hb9 HEN HST;by_cases hE:fileN ts r=b
 · rw[dT hE]at HEQ;have HEE:=hid hE;generalize (fileN ts r).length=fl at HEQ hfl ⊢;clear hE;go_wp2_with fail
   refine HEQ.out.mono ?_;rintro e w10 ⟨rfl,hb10⟩;have HB10:=hid (HB9.out.trans (hb10.mono HB9.out.size));have HST10:=hid (HST9.out.below hb10);clear hb10 HEQ;go_wp2;go_ret2;exact ⟨.inl ⟨S,v7,r,ts,HEE.out,HST10.out,rfl⟩,HB10.out⟩
 · rw[dF hE]at HEQ;have HN:=hid (znX HBX2.out HRDD.out HNE.out HPK.out HMAP.out HSORT.out HST9.out.ok hE);generalize (fileN ts r).length=fl at HEQ hfl ⊢;clear hE;go_wp2_with fail
   refine HEQ.out.mono ?_;rintro e w10 ⟨rfl,hb10⟩;have HB10:=hid (HB9.out.trans (hb10.mono HB9.out.size));clear hb10 HEQ;go_wp2;go_ret2;exact DecAns.no HN.out rfl HB10.out
end Go.Proofs.YtaeiifngjglchaaGreatDoor
end
