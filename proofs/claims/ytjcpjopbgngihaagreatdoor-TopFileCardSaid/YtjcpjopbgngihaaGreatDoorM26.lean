/- Proved on the way: The document's box: Unpack. Each theorem states its own conditions. -/
import Derived.Test.YtjcpjopbgngihaaGreatDoorM24
import Derived.Test.YtjcpjopbgngihaaGreatDoorM23
import Derived.Test.YtjcpjopbgngihaaGreatDoorM17
import Derived.Test.YtjcpjopbgngihaaGreatDoorM12
set_option maxHeartbeats 16000000
set_option maxRecDepth 1000000
set_option linter.unusedSimpArgs false
section
namespace Go.Proofs.YtjcpjopbgngihaaGreatDoor
open Tryz
open Go.RowKit Go.Lib Go.Sort
open Go.Proofs.YtjcpjopbgngihaaGreatDoorW.PrintLast
open Bx (Sec MayB boxB rdS parB BxIs r24)
theorem znu {b:List UInt8} (h:8<(b.getD 5 0).toNat):¬∃l,BxIs b l:=by
 rintro ⟨l,⟨h1,h2⟩⟩;have h3:=h1.1;have e:b.getD 5 0=UInt8.ofNat l.length:=(by rw[<-h2];rfl);rw[e,UInt8.toNat_ofNat']at h;omega
theorem zmF (x y z:UInt8):Go.bits .or .i64 (Go.bits .or .i64 ((x.toNat:Int)*65536) ((y.toNat:Int)*256)) (z.toNat:Int)=((r24 x y z:Nat):Int):=by
 have hx:=x.toNat_lt;have hy:=y.toNat_lt;have hz:=z.toNat_lt;rw[show (x.toNat:Int)*65536=((x.toNat*65536:Nat):Int) by omega,show (y.toNat:Int)*256=((y.toNat*256:Nat):Int) by omega];rw[or64 _ _ (by omega) (by omega),or64 _ _ (Nat.or_lt_two_pow (by omega) (by omega)) (by omega),or24 _ _ _ hy hz];rfl
theorem zes (A:Option Addr) (c:Nat) (b:List UInt8) (w:World) (h:Fd.Seg w A b.length (Fd.bys b)) (hc:b.length<=c) (hl:b.length<=20000) :
    Calls prog 24 #[.slice A b.length c] w (UnpAns w b):=by
 by_cases h6:b.length<9
 · have HN:Hid (¬∃l,BxIs b l):=by
    rintro ⟨l,hb⟩;have h1:=Bx.zcz l;rw[hb.2]at h1;omega
   have h6z:decide ((b.length:Int)<9)=true:=dT (by omega);go_enter func24,ntmps24
   go_wp2;go_ret2;exact UnpAns.no HN.out rfl br
 · have h6z:decide ((b.length:Int)<9)=false:=dF (by omega);obtain ⟨⟨blk,ao,ae⟩,rfl,_⟩:=h.cell (by omega);have hadd:∀j:Nat,1<=j->(⟨blk,ao,ae⟩:Addr).add j=⟨blk,ao+j,none⟩:=fun j hj=>(by unfold Addr.add;rw[if_neg (by omega)]);have HCC:Hid (∀W,Below w.heap.size w W->∀j (hj:j<b.length),1<=j->W.cell? ⟨blk,ao+j,none⟩=some (.int .u8 (b[j].toNat:Int))):=fun W hW j hj h1=>by
    obtain ⟨ad',e,h⟩:=(h.below hW).byte hj;cases e
    rw[hadd j h1]at h;exact h
   obtain ⟨n,hn⟩:∃n:Nat,b[5].toNat=n:=⟨_,rfl⟩;have hn255:n<=255:=(by have:=b[5].toNat_lt;omega);have k5:=HCC.out w br 5 (by omega) (by omega);rw[hn]at k5;have hn':(b.getD 5 0).toNat=n:=(by rw[List.getD_eq_getElem?_getD,List.getElem?_eq_getElem (by omega)];exact hn);have HS:=hid h;have HADD:=hid hadd;clear h hn hadd;have h5z:(5:Int)<(b.length:Int):=(by omega);have hwn:IntKind.i64.wrap (n:Int)=n:=(wI (by omega));by_cases h8:8<n
   · have d8:decide ((8:Int)<(n:Int))=true:=dT (by omega);have HN:=hid (znu (by rw[hn'];exact h8));clear hn';go_enter func24,ntmps24
     go_wp2;go_ret2;exact UnpAns.no HN.out rfl br
   · have d8:decide ((8:Int)<(n:Int))=false:=dF (by omega);have hm1:IntKind.i64.wrap (7*(n:Int))=7*(n:Int):=(wI (by omega));have hm2:IntKind.i64.wrap (9+7*(n:Int))=9+7*(n:Int):=(wI (by omega));by_cases h9:9+7*n<=b.length
     · have HP:=hid (zkJ (by omega) hn' h9);have h9z:¬(b.length:Int)<9+7*(n:Int):=(by omega);clear hn';go_enter func24,ntmps24
       go_wp2;clear hm1 hm2 k5 hwn h5z;obtain ⟨i2,hi2,hz20,hz21,hz22⟩:=zcX;obtain ⟨i0,hi,hz0,hz1,hz2⟩:=info_parts Fd.info5;go_loopw [5,6,7] (fun v5 v6 v7 wr=>∃(k off:Nat) (xs:List SecV),k<=n/\v7=.int .i64 k/\v5=.int .i64 off/\off<=b.length/\1<=off/\Hid (UInv b n k off (secs xs))/\wr.ownsRow w.heap.size 53 2 v6 k (xs.flatMap encS)/\Hid (∀x∈xs,wr.ownsRow w.heap.size 5 1 (.slice x.A x.body.length x.c) x.body.length (Fd.bys x.body)/\x.body.length<=b.length/\x.id<=255)/\Below w.heap.size w wr) (fun _ _ v7 _=>n-(RowKit.intOf v7).toNat)
       case atStart=>
        refine ⟨0,9+7*n,[],Nat.zero_le _,rfl,by first | rfl | (congr 1;omega),h9,by omega,hid ⟨rfl,?_⟩,World.ownsRow_nil _ _ _ _,hid (fun x hx=>by cases hx),?_⟩
        · show _=(rdS (n-0) (b.drop (6+7*0)) (b.drop (9+7*n))).map fun q=>q;simp
        · exact ⟨rfl,rfl,rfl,nL,fun _ _=>rfl⟩
       case round=>
        obtain ⟨k,off,xs,hk,rfl,rfl,hoff,hoff1,HU,hown,HPART,hB⟩:=hrel;by_cases hlt:k<n
        · obtain ⟨x0,x1,x2,x3,r,hdr⟩:∃i x y z r,b.drop (6+7*k)=i::x::y::z::r:=by
           have h1:4<=(b.drop (6+7*k)).length:=by rw[List.length_drop];omega
           match b.drop (6+7*k),h1 with
           | i::x::y::z::r,_=>exact ⟨i,x,y,z,r,rfl⟩
          have kk:∀W,Below w.heap.size w W->∀(j:Nat) (u:UInt8),(i:j<4)->(x0::x1::x2::x3::r)[j]?=some u->W.cell? ⟨blk,ao+(6+7*k)+j,none⟩=some (.int .u8 (u.toNat:Int)):=fun W hW j u hj hu=>by
           have h1:=HCC.out W hW (6+7*k+j) (by omega) (by omega);rw[<-Nat.add_assoc]at h1;have h2:b[6+7*k+j]'(by omega)=u:=by
            have h3:(b.drop (6+7*k))[j]?=some u:=(by rw[hdr];exact hu);rw[List.getElem?_drop,List.getElem?_eq_getElem (by omega)]at h3;exact Option.some.inj h3
           rw[h2]at h1;exact h1
          have K0:Hid (∀W,Below w.heap.size w W->W.cell? ⟨blk,ao+(6+7*k),none⟩=some (.int .u8 (x0.toNat:Int))):=fun W hW=>kk W hW 0 x0 (by omega) rfl;have k1:=kk wr hB 1 x1 (by omega) rfl;have k2:=kk wr hB 2 x2 (by omega) rfl;have k3:=kk wr hB 3 x3 (by omega) rfl;have hr24:r24 x1 x2 x3<=16777215:=by
           have:=x1.toNat_lt;have:=x2.toNat_lt;have:=x3.toNat_lt
           unfold r24;omega
          have HFAIL:Hid (¬r24 x1 x2 x3<=b.length-off->rdS n (b.drop 6) (b.drop (9+7*n))=none):=fun h=>HU.out.fail hlt hdr h;have HNX:Hid (r24 x1 x2 x3<=b.length-off->UInv b n (k+1) (off+r24 x1 x2 x3) (secs xs++[⟨x0.toNat,(b.drop off).take (r24 x1 x2 x3)⟩])):=fun h=>HU.out.next hlt hdr h;have h0:=x0.toNat_lt;have hx1:=x1.toNat_lt;have hx2:=x2.toNat_lt;have hx3:=x3.toNat_lt;have HXL:Hid (xs.length=k):=(by have:=HU.out.len;rw[zaD]at this;exact this);have hor:=zmF x1 x2 x3;clear hdr kk HU;generalize r24 x1 x2 x3=sz at HFAIL HNX hr24 hor;generalize x0.toNat=id at K0 HNX h0;generalize x1.toNat=y1 at k1 hx1 hor;generalize x2.toNat=y2 at k2 hx2 hor;generalize x3.toNat=y3 at k3 hx3 hor;have hw1:IntKind.i64.wrap (y1:Int)=y1:=(wI (by omega));have hw2:IntKind.i64.wrap (y2:Int)=y2:=(wI (by omega));have hw3:IntKind.i64.wrap (y3:Int)=y3:=(wI (by omega));have hw4:IntKind.i64.wrap ((y1:Int)*65536)=(y1:Int)*65536:=(wI (by omega));have hw5:IntKind.i64.wrap ((y2:Int)*256)=(y2:Int)*256:=(wI (by omega));have hm1:IntKind.i64.wrap (7*(k:Int))=7*(k:Int):=(wI (by omega));have hm2:IntKind.i64.wrap (6+7*(k:Int))=6+7*(k:Int):=(wI (by omega));have hm6:(6+7*(k:Int)).toNat=6+7*k:=(by omega);have hm7:¬c=6+7*k:=(by omega);have hAk:=HADD.out (6+7*k) (by omega);have hm8:(0:Int)<=6+7*(k:Int):=(by omega);have hm9:6+7*(k:Int)<=(b.length:Int):=(by omega);have hlz:(k:Int)<(n:Int):=(by omega);have hh1:(1:Int)<((b.length-(6+7*k):Nat):Int):=(by omega);have hh2:(2:Int)<((b.length-(6+7*k):Nat):Int):=(by omega);have hh3:(3:Int)<((b.length-(6+7*k):Nat):Int):=(by omega);have HB:=hid hB;have HOWN:=hid hown;clear hB hown;by_cases hsz:sz<=b.length-off
          · have hszz:(sz:Int)<=(b.length:Int)-(off:Int):=(by omega);have hszn:¬(b.length:Int)-(off:Int)<(sz:Int):=(by omega);have HNX2:=hid (HNX.out hsz);obtain ⟨body,hbody⟩:∃body,(b.drop off).take sz=body:=⟨_,rfl⟩;rw[hbody]at HNX2;have hbl:body.length=sz:=(by rw[<-hbody,List.length_take,List.length_drop];omega);have HSG:Hid (∀W,Below w.heap.size w W->∀q:Addr,(sz=0\/q=⟨blk,ao+off,none⟩)->SegK W (some q) sz 1 (Fd.bys body)):=fun W hW q hqq=>by
             rcases hqq with h0 | h0
             · subst h0;obtain rfl:body=[]:=List.eq_nil_of_length_eq_zero hbl;exact SegK.nil _ _ _
             · rw[h0,<-hbody,<-HADD.out off (by omega)];exact seg_k (Fd.zbJ (HS.out.below hW) off sz (by omega))
            have HBL:=hid hbl;clear hbody hbl HNX HFAIL;go_wp2;go_quiet (fail)
            go_wp2;clear hw1 hw2 hw3 hw4 hw5 hor hm1 hm2 hm6 hm7 hm8 hm9 k1 k2 k3 hh1 hh2 hh3 hx1 hx2 hx3;have HBX:Hid (Below w.heap.size w (wr.drewN nq)):=HB.out.trans ⟨rfl,rfl,rfl,nL,fun _ _=>rfl⟩;have HOWN1:=hid (HOWN.out.drewFd nq);have HPART1:Hid (∀x∈xs,(wr.drewN nq).ownsRow w.heap.size 5 1 (.slice x.A x.body.length x.c) x.body.length (Fd.bys x.body)/\x.body.length<=b.length/\x.id<=255):=fun x hx=>⟨(HPART.out x hx).1.drewFd nq,(HPART.out x hx).2⟩;clear HB HOWN HPART;generalize wr.drewN nq=wx at HBX HOWN1 HPART1 ⊢;have hwo:IntKind.i64.wrap ((off:Int)+(sz:Int))=(off:Int)+(sz:Int):=(wI (by omega));have hwt:((off:Int)+(sz:Int)).toNat=off+sz:=(by omega);have hws:off+sz-off=sz:=(by omega);have hc0:(0:Int)<=(off:Int)+(sz:Int):=(by omega);have hc1:(off:Int)+(sz:Int)<=(c:Int):=(by omega);have hc2:(off:Int)<=(off:Int)+(sz:Int):=(by omega);have hwid:IntKind.i64.wrap (id:Int)=id:=(wI (by omega));have hl0:(0:Int)<((b.length-(6+7*k):Nat):Int):=(by omega);have hl1:0<b.length-(6+7*k):=(by omega);have hl2:6+7*k<b.length:=(by omega);have HBD:Hid (Below w.heap.size w wx.drew):=HBX.out.trans ⟨rfl,rfl,rfl,nL,fun _ _=>rfl⟩;have hAo:=HADD.out off hoff1;obtain ⟨q,hq,hqq⟩:∃q:Addr,(if c=off then (some ⟨blk,ao,ae⟩:Option Addr) else some ⟨blk,ao+off,none⟩)=some q/\(sz=0\/q=⟨blk,ao+off,none⟩):=by
             by_cases h:c=off
             · exact ⟨_,if_pos h,.inl (by omega)⟩
             · exact ⟨_,if_neg h,.inr rfl⟩
            go_wp2_with fail
            refine sH 17 K0.out HBD.out (fun hHeld=>?_);refine pU 0 ?_;refine pU 1 ?_;refine pU 2 ?_;refine tK 3 hHeld ?_;refine pU 4 ?_;refine pU 6 ?_;refine pU 7 ?_;refine pU 8 ?_;refine pU 9 ?_;refine pU 10 ?_;refine pU 11 ?_;refine oN 5 (fun K hK=>?_);refine vA (.slice (some ⟨wx.drew.heap.size,0,none⟩) 0 0) (wx.drew.alloc (.cells #[] 5)) ?_;have HBE:=hid (HBD.out.alloc HBD.out.size (.cells #[] 5));refine oU hK (K0.out _ HBE.out) (fun hHeld=>?_);clear hK K;refine oN 12 (fun K hK=>?_);refine zap (by rfl) _ _ 22 (by rfl) w.heap.size 5 i0 (.int .u8 0) 1 1 underlying22 hi hz0 hz1 hz2 rfl (by omega) (.slice (some ⟨wx.drew.heap.size,0,none⟩) 0 0) 0 [] (by rfl) (World.ownsRow_made wx.drew #[] 0 HBD.out.size (Nat.zero_le _) (by simp)) (some q) sz (c-off) (Fd.bys body) (by rfl) (HSG.out _ HBE.out q hqq) (Fd.zaV _) (by unfold maxLen;omega) (by omega) HBE.out.size ?_;intro v2 w2 hown2 hg2;rw[List.nil_append,Nat.zero_add]at hown2;obtain ⟨A2,c2,rfl⟩:=Fd.zac hown2;have hne2:∀kk,(Value.slice (some ⟨wx.drew.heap.size,0,none⟩) 0 0).ownBlock=some kk->wx.drew.heap.size<=kk:=fun kk hk=>by
             injection hk with hk;exact Nat.le_of_eq hk
            have hb2:Below wx.drew.heap.size wx.drew w2:=((Below.refl _ wx.drew).alloc nL (.cells #[] 5)).grown hg2 (by simp) hne2;have HB2':=hid hb2;have HB2:=hid (HBD.out.trans (hb2.mono HBD.out.size));have HO2:=hid hown2;have hs2:=HB2.out.size;have HOWN2:=hid (Fd.own_below HOWN1.out (show Below wx.heap.size wx w2 from (show Below wx.heap.size wx wx.drew from ⟨rfl,rfl,rfl,nL,fun _ _=>rfl⟩).trans hb2));clear hown2 hg2 hne2 hb2;refine oU hK (K0.out _ HB2.out) (fun hHeld=>?_);clear hK K;refine pU 13 ?_;refine oN 14 (fun K hK=>?_);refine vA (.slice (some ⟨w2.heap.size,0,none⟩) 1 1) (w2.alloc (.cells #[.int .i64 id,.slice A2 sz c2] 53)) ?_;have HB3:=hid (HB2.out.alloc hs2 (.cells #[.int .i64 id,.slice A2 sz c2] 53));refine oU hK (K0.out _ HB3.out) (fun hHeld=>?_);clear hK K;refine oN 15 (fun K hK=>?_);refine zap (by rfl) _ _ 49 (by rfl) w.heap.size 53 i2 _ 2 32 underlying49 hi2 hz20 hz21 hz22 rfl (by omega) u6 k (xs.flatMap encS) (by rfl) (HOWN2.out.alloc _) (some ⟨w2.heap.size,0,none⟩) 1 1 [.int .i64 id,.slice A2 sz c2] (by rfl) ⟨rfl,fun _=>⟨_,rfl,World.news_of_block (heap_alloc_new w2 _)⟩⟩ (by simp[Value.oneCell']) (by unfold maxLen;omega) (by omega) HB3.out.size ?_;intro v3 w3 hown3 hgrow;have hne:∀j,u6.ownBlock=some j->w.heap.size<=j:=fun j hj=>(HOWN2.out.lt j hj).1;have hB3:Below w.heap.size w w3:=HB3.out.grown hgrow HB3.out.size hne;refine oU hK (K0.out _ hB3) (fun hHeld=>?_);clear hK K;refine pU 16 ?_;refine done_ (by kernel_rfl) ?_;have hown4:w3.ownsRow w.heap.size 53 2 v3 (k+1) ((xs++[(⟨id,A2,c2,body⟩:SecV)]).flatMap encS):=by
             rw[List.flatMap_append];have e:([⟨id,A2,c2,body⟩]:List SecV).flatMap encS=[.int .i64 id,.slice A2 sz c2]:=by
              show [Value.int .i64 (id:Int),.slice A2 body.length c2]=_;rw[HBL.out]
             rw[e];exact hown3
            have HOWN4:=hid hown4;have HB4:=hid hB3;have HPART3:Hid (∀x∈xs++[(⟨id,A2,c2,body⟩:SecV)],w3.ownsRow w.heap.size 5 1 (.slice x.A x.body.length x.c) x.body.length (Fd.bys x.body)/\x.body.length<=b.length/\x.id<=255):=by
             have key:∀(v:Value) (m:Nat) (ys:List Value),w2.ownsRow w.heap.size 5 1 v m ys->w3.ownsRow w.heap.size 5 1 v m ys:=fun v m ys hv=>by
              have h1:=Fd.own_below hv ((Below.refl _ w2).alloc nL (.cells #[.int .i64 id,.slice A2 sz c2] 53));have h2:=Fd.own_below HOWN2.out ((Below.refl _ w2).alloc nL (.cells #[.int .i64 id,.slice A2 sz c2] 53));refine h1.kept hgrow ?_;exact Fd.own_ne h1 h2 (by decide)
             intro x hx;rcases List.mem_append.1 hx with hx | hx
             · have:=HPART1.out x hx;exact ⟨key _ _ _ (Fd.own_below this.1 ((show Below wx.heap.size wx wx.drew from ⟨rfl,rfl,rfl,nL,fun _ _=>rfl⟩).trans HB2'.out)),this.2⟩
             · rw[List.mem_singleton]at hx;subst hx;have hbl2:=HBL.out;refine ⟨?_,?_,?_⟩
               · show w3.ownsRow w.heap.size 5 1 (.slice A2 body.length c2) body.length (Fd.bys body);rw[hbl2];exact key _ _ _ HO2.out
               · show body.length<=b.length;omega
               · show id<=255;omega
            have HU3:Hid (UInv b n (k+1) (off+sz) (secs (xs++[(⟨id,A2,c2,body⟩:SecV)]))):=by
             show UInv b n (k+1) (off+sz) (secs (xs++[(⟨id,A2,c2,body⟩:SecV)]));rw[zgl];exact HNX2.out
            clear hown3 hgrow hne hB3 hown4 HOWN2 HB2 hHeld HPART1 HOWN1 HB3 HB2' HO2 hq hqq HSG K0;go_wp2;go_round
            case measure=>simp[RowKit.intOf];omega
            case rel=>exact ⟨k+1,off+sz,xs++[(⟨id,A2,c2,body⟩:SecV)],by omega,by go_num,by go_num,by omega,by omega,HU3,HOWN4.out,HPART3,HB4.out⟩
          · have HN:=hid (Bx.zcV (HP.out.trans (HFAIL.out hsz)));have hszz:(b.length:Int)-(off:Int)<(sz:Int):=(by omega);go_wp2;go_quiet (fail)
            go_wp2;go_ret2;exact UnpAns.no HN.out rfl (HB.out.trans ⟨rfl,rfl,rfl,nL,fun _ _=>rfl⟩)
        · obtain rfl:k=n:=(by omega);have hxl:xs.length=k:=(by have:=HU.out.len;rw[zaD]at this;exact this);subst hxl;obtain ⟨A7,c7,rfl⟩:=Fd.zac hown;have HPAR:Hid (parB b=some (secs xs)):=HP.out.trans HU.out.done;have hsec:SecRow wr w.heap.size (.slice A7 xs.length c7) xs:=⟨hown,fun x hx=>⟨Fd.Seg.of_own (HPART.out x hx).1,Fd.own_le' (HPART.out x hx).1⟩⟩;have HPK:=hid (zc0 xs (.slice A7 xs.length c7) w.heap.size wr hsec (fun x hx=>by have:=HPART.out x hx;omega) hn255);have HSEC:=hid hsec;have HB:=hid hB;clear hown hsec hB HU;go_wp2_with fail
          refine HPK.out.mono ?_;rintro e w2 ⟨hor,hb2⟩;have HB2:=hid (HB.out.trans (hb2.mono HB.out.size));have HSEC2:=hid (HSEC.out.below hb2)
          have HLEN:Hid (∀x∈xs,x.body.length<=b.length/\(0<x.body.length->∃g,x.A=some ⟨g,0,none⟩)):=fun x hx=>⟨(HPART.out x hx).2.1,fun h0=>by
              obtain ⟨g,h,_⟩:=zbn (HPART.out x hx).1 h0;exact ⟨g,h⟩⟩
          clear hb2 HPK HSEC HPART;rcases hor with ⟨hmay,A8,c8,rfl,hown8⟩ | ⟨hno,rfl⟩
          · have hbs:=(HS.out.below HB2.out);have hcv1:=Fd.zaG w2 A8 _ c8 _ (Fd.Seg.of_own hown8);have hcv2:=Fd.zaG w2 (some ⟨blk,ao,ae⟩) _ c _ hbs;have hse:=zb4 (boxB (secs xs)) b;have HMAY:=hid hmay;clear hown8 hbs hmay;by_cases hE:boxB (secs xs)=b
            · have HBX:Hid (BxIs b (secs xs)):=⟨HMAY.out,hE⟩;rw[dT hE]at hse;clear hE;generalize boxB (secs xs)=bb at hcv1 hse ⊢;go_wp2;go_ret2;exact ⟨.inl ⟨xs,_,HBX.out,rfl,HSEC2.out,HLEN.out⟩,HB2.out⟩
            · have HN:=hid (Bx.zfV HPAR.out (fun h=>hE h.2));rw[dF hE]at hse;clear hE;generalize boxB (secs xs)=bb at hcv1 hse ⊢;go_wp2;go_ret2;exact UnpAns.no HN.out rfl HB2.out
          · have HN:=hid (Bx.zfV HPAR.out (fun h=>hno h.1));go_wp2;go_ret2;exact UnpAns.no HN.out rfl HB2.out
     · have HN:=hid (Bx.zcV (ziG (by omega) hn' h9));have h9z:(b.length:Int)<9+7*(n:Int):=(by omega);clear hn';go_enter func24,ntmps24
       go_wp2;go_ret2;exact UnpAns.no HN.out rfl br
end Go.Proofs.YtjcpjopbgngihaaGreatDoor
end
