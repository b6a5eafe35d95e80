/- Proved on the way: The document's store: triples. Each theorem states its own conditions. -/
import Derived.Test.YtjcpjopbgngihaaGreatDoorM19
set_option maxHeartbeats 16000000
set_option maxRecDepth 1000000
set_option linter.unusedSimpArgs false
section
namespace Go.Proofs.YtjcpjopbgngihaaGreatDoor
open Tryz
open Go.RowKit Go.Lib Tv Go.Sort
open Go.Proofs.YtjcpjopbgngihaaGreatDoorW.PrintLast
theorem ShT.ex {d:List ByteArray} {T:List VTm} (h:ShT d T) {u:Nat} (hu:u<T.length):exE d ((u:Int)+1)=some (T[u]).1:=by
 have hl:=h.len;have h1:(d.map (fun s=>shownV s.data.toList))[u]?=some (some (T[u]).1):=by
  unfold ShT at h;rw[h,List.getElem?_map,List.getElem?_eq_getElem hu];rfl
 rw[List.getElem?_map,List.getElem?_eq_getElem (by omega),Option.map_some,Option.some.injEq]at h1;unfold exE Fd.extZ;rw[dif_pos ⟨by omega,by omega⟩];have e:((u:Int)+1-1).toNat=u:=(by omega);simp only[e];exact h1
theorem ShT.ex_no {d:List ByteArray} {T:List VTm} (h:ShT d T) {z:Int} (hz:z<1\/(T.length:Int)<z):exE d z=none:=by
 have hl:=h.len;unfold exE Fd.extZ;rw[dif_neg (by omega)];rw[zbe];rintro ⟨t,ht,he⟩;have h1:=(zfk t ht).1;rw[he]at h1;exact absurd h1 (by decide)
theorem znR {d:List ByteArray} {row:List Int} {k j:Nat} (hj:j<3) (h:exE d (row.getD (3*k+j) 0)=none):chT d row k=none:=by
 unfold chT;generalize exE d=E at h ⊢;have h3:j=0\/j=1\/j=2:=(by omega);rcases h3 with rfl | rfl | rfl
 · rw[Nat.add_zero]at h;generalize row.getD (3*k) 0=a at h ⊢;exact zdb h
 · generalize row.getD (3*k) 0=a at h ⊢;generalize row.getD (3*k+1) 0=b at h ⊢;cases h1:E a with
   | none=>exact zdb h1
   | some s=>exact zfj h1 h
 · generalize row.getD (3*k) 0=a at h ⊢;generalize row.getD (3*k+1) 0=b at h ⊢;generalize row.getD (3*k+2) 0=e at h ⊢;cases h1:E a with
   | none=>exact zdb h1
   | some s=>
    cases h2:E b with
    | none=>exact zfj h1 h2
    | some p=>exact zil h1 h2 h
theorem zkQ {d:List ByteArray} {row:List Int} {k m:Nat} (hk:k<m) (h:∀t,chT d row k=some t->triT t=false):¬∃ts:List Tri,(List.range m).map (chT d row)=ts.map some/\∀t∈ts,triT t=true:=by
 rintro ⟨ts,h1,h2⟩;have h3:((List.range m).map (chT d row))[k]?=some (chT d row k):=by
  rw[List.getElem?_map,List.getElem?_range hk];rfl
 rw[h1,List.getElem?_map]at h3;cases ht:ts[k]? with
 | none=>rw[ht]at h3;cases h3
 | some t=>
  rw[ht]at h3;simp only[Option.map_some,Option.some.injEq]at h3;have:=h t h3.symm;rw[h2 t (List.mem_of_getElem? ht)]at this;cases this
theorem zmO {d:List ByteArray} {row:List Int} {k:Nat} {ts:List Tri} {t:Tri} (h:(List.range k).map (chT d row)=ts.map some) (ht:chT d row k=some t):(List.range (k+1)).map (chT d row)=(ts++[t]).map some:=by
 rw[List.range_succ,List.map_append,h,List.map_append];simp[ht]
theorem zdv (d:List ByteArray) (T:List VTm) (A B:Option Addr) (c c2 b m:Nat) (row:List Int) (w:World) (ht:Lay w) (hT:ShT d T) (hrT:RowM w b (.slice B T.length c2) T) (hTn:T.length<=1000)
    (hrow:w.ownsRow 0 3 1 (.slice A (3*m) c) (3*m) (row.map (Value.int .i64))) (hm:m<=1000) :
    Calls prog 29 #[.slice A ((3*m:Nat)) c,.slice B T.length c2] w (TrAns w d row m):=by
 have hrl:row.length=3*m:=(by have:=hrow.1;simpa using this);have HNC:Hid (∀W,Below w.heap.size w W->∀p,p<3*m->∃g,A=some ⟨g,0,none⟩/\W.cell? ⟨g,p,none⟩=some (.int .i64 (row.getD p 0))):=fun W hW p hp=>by
  rcases zai hrow with ⟨h1,h2⟩ | ⟨g,cap,h1,hB,hg,hc,hcell⟩
  · omega
  · injection h1 with h1 h2 h3;refine ⟨g,h1,zaa (hcell p _ ?_) hW⟩;rw[List.getElem?_map,List.getElem?_eq_getElem (by omega),List.getD_eq_getElem?_getD,List.getElem?_eq_getElem (by omega)];rfl
 have HTC:Hid (∀u,u<T.length->∃g,B=some ⟨g,0,none⟩/\∀W,Below w.heap.size w W->∀(h:u<T.length),Cell3 W g (u*3) (T[u]).1):=fun u hu=>by
  obtain ⟨g,cap,hv,_⟩:=hrT.val (by omega);injection hv with h1 h2 h3;subst h1;refine ⟨g,rfl,fun W hW h=>?_⟩;exact RowM.at_ (hrT.below hW) u T[u] (List.getElem?_eq_getElem h)
 have HLY:Hid (∀W,Below w.heap.size w W->Lay W):=fun W hW=>ht.below hW;have HSH:=hid hT;obtain ⟨N,hN⟩:∃N,3*m=N:=⟨_,rfl⟩;have hNm:N<=3*m:=(by omega);have hmN:3*m<=N:=(by omega);rw[hN];clear hrow ht hT hrT hrl hN;go_enter func29,ntmps29
 go_wp2;go_loopw [6,7] (fun v6 v7 wr=>∃(k i:Nat) (ts:List Tri),i<=3*k/\3*k<=i/\k<=m/\v7=.int .i64 i/\ts.length=k/\Hid ((List.range k).map (chT d row)=ts.map some)/\Hid (∀t∈ts,triT t=true)/\wr.ownsRow w.heap.size 96 9 v6 k (ts.flatMap encTri)/\Below w.heap.size w wr) (fun _ v7 _=>3*m-(RowKit.intOf v7).toNat)
 case atStart=>exact ⟨0,0,[],by omega,by omega,Nat.zero_le _,rfl,rfl,hid rfl,hid (fun t h=>by cases h),World.ownsRow_nil _ _ _ _,br⟩
 case round=>
  obtain ⟨k,i,ts,hi1,hi2,hk,rfl,htl,HMP,HOK,hown,hB⟩:=hrel;by_cases hlt:k<m
  · have hz:(i:Int)+2<(N:Int):=(by omega);have HB:=hid hB;have HOWN:=hid hown;clear hB hown
    rename World=>wo
    go_wp2;go_loopw [8] (fun v8 wx=>∃j:Nat,j<=3/\v8=.int .i64 j/\Below wo.heap.size wo wx/\Hid (∀r,r<j->1<=row.getD (i+r) 0/\row.getD (i+r) 0<=T.length)) (fun v8 _=>3-(RowKit.intOf v8).toNat)
    case atStart=>exact ⟨0,by omega,rfl,br,hid (fun r hr=>by omega)⟩
    case round=>
     obtain ⟨j,hj,rfl,hbx,HJ⟩:=hrel;have HBX:=hid (HB.out.trans (hbx.mono HB.out.size));by_cases hj3:j<3
     · obtain ⟨g,rfl,hcell⟩:=HNC.out wr HBX.out (i+j) (by omega);obtain ⟨z,hzz⟩:∃z,row.getD (i+j) 0=z:=⟨_,rfl⟩;rw[hzz]at hcell;have HZ:=hid hzz;have HBXX:=hid hbx;have HI:=hid (And.intro hi1 hi2);have hw1:IntKind.i64.wrap ((i:Int)+(j:Int))=(i:Int)+(j:Int):=(wI (by omega));have hw2:((i:Int)+(j:Int)).toNat=i+j:=(by omega);have hw3:(0:Int)<=(i:Int)+(j:Int):=(by omega);have hw4:(i:Int)+(j:Int)<(N:Int):=(by omega);have hj3z:(j:Int)<3:=(by omega);clear hzz hbx hi1 hi2;by_cases hz1:z<1
       · have d1:decide (z<1)=true:=dT hz1;have HNO:=hid (zkQ (m:=m) hlt (fun t ht=>by
          have h1:=HSH.out.ex_no (z:=z) (.inl hz1);rw[<-HZ.out]at h1;have e:i+j=3*k+j:=(by have:=HI.out;omega);rw[e]at h1;rw[znR hj3 h1]at ht;cases ht))
         clear hz1;go_wp2;go_ret2;exact ⟨.inr ⟨HNO.out,_,rfl⟩,HBX.out⟩
       · have d1:decide (z<1)=false:=dF hz1;by_cases hz2:(T.length:Int)<z
         · have d2:decide ((T.length:Int)<z)=true:=dT hz2;have HNO:=hid (zkQ (m:=m) hlt (fun t ht=>by
            have h1:=HSH.out.ex_no (z:=z) (.inr hz2);rw[<-HZ.out]at h1;have e:i+j=3*k+j:=(by have:=HI.out;omega);rw[e]at h1;rw[znR hj3 h1]at ht;cases ht))
           clear hz1 hz2;go_wp2;go_ret2;exact ⟨.inr ⟨HNO.out,_,rfl⟩,HBX.out⟩
         · have d2:decide ((T.length:Int)<z)=false:=dF hz2;have HJ2:Hid (∀r,r<j+1->1<=row.getD (i+r) 0/\row.getD (i+r) 0<=T.length):=fun r hr=>by
            by_cases h:r<j
            · exact HJ.out r h
            · obtain rfl:r=j:=(by omega);rw[HZ.out];omega
           clear hz1 hz2;go_wp2;go_roundw
           case rel=>exact ⟨j+1,by omega,by go_num,HBXX.out,HJ2⟩
           case measure=>simp[RowKit.intOf];omega
     · obtain rfl:j=3:=(by omega);have hq:∀r,r<3->∃u:Nat,row.getD (i+r) 0=(u:Int)+1/\u<T.length:=fun r hr=>by
        have h1:=HJ.out r hr;exact ⟨(row.getD (i+r) 0-1).toNat,by omega,by omega⟩
       obtain ⟨u0,hu0,hl0⟩:=hq 0 (by omega);obtain ⟨u1,hu1,hl1⟩:=hq 1 (by omega);obtain ⟨u2,hu2,hl2⟩:=hq 2 (by omega);obtain ⟨g,rfl,_⟩:=HNC.out wr HBX.out (i+0) (by omega);have hnum:∀W,Below w.heap.size w W->∀r u,r<3->row.getD (i+r) 0=(u:Int)+1->W.cell? ⟨g,i+r,none⟩=some (.int .i64 ((u:Int)+1)):=fun W hW r u hr hu=>by
        obtain ⟨g',e,hc⟩:=HNC.out W hW (i+r) (by omega);cases e
        rw[hu]at hc;exact hc
       obtain ⟨g2,rfl,_⟩:=HTC.out u0 hl0;have htm:∀W,Below w.heap.size w W->∀u,(h:u<T.length)->Cell3 W g2 (u*3) (T[u]).1:=fun W hW u h=>by
        obtain ⟨g',e,hc⟩:=HTC.out u h;cases e
        exact hc W hW h
       have hch:chT d row k=some ⟨(T[u0]).1,(T[u1]).1,(T[u2]).1⟩:=by
        unfold chT;have e0:3*k=i+0:=(by omega);have e1:3*k+1=i+1:=(by omega);have e2:3*k+2=i+2:=(by omega);rw[e1,e2,e0];exact zhk (by rw[hu0];exact HSH.out.ex hl0) (by rw[hu1];exact HSH.out.ex hl1) (by rw[hu2];exact HSH.out.ex hl2)
       have hsm:SmlT ⟨(T[u0]).1,(T[u1]).1,(T[u2]).1⟩:=⟨VTm.sml _,VTm.sml _,VTm.sml _⟩;obtain ⟨t0,ht0⟩:∃t:Tm,(T[u0]).1=t:=⟨_,rfl⟩;obtain ⟨t1,ht1⟩:∃t:Tm,(T[u1]).1=t:=⟨_,rfl⟩;obtain ⟨t2,ht2⟩:∃t:Tm,(T[u2]).1=t:=⟨_,rfl⟩;rw[ht0,ht1,ht2]at hch hsm;obtain ⟨k0,x0,e0⟩:=t0;obtain ⟨k1,x1,e1⟩:=t1;obtain ⟨k2,x2,e2⟩:=t2;have hsx:∀W,Below w.heap.size w W->(W.cell? ⟨g,i,none⟩=some (.int .i64 ((u0:Int)+1))/\W.cell? ⟨g,i+1,none⟩=some (.int .i64 ((u1:Int)+1))/\W.cell? ⟨g,i+2,none⟩=some (.int .i64 ((u2:Int)+1))/\W.cell? ⟨g2,u0*3,none⟩=some (.int .i64 k0)/\W.cell? ⟨g2,u0*3+1,none⟩=some (.string (str x0))/\W.cell? ⟨g2,u0*3+2,none⟩=some (.string (str e0))/\W.cell? ⟨g2,u1*3,none⟩=some (.int .i64 k1)/\W.cell? ⟨g2,u1*3+1,none⟩=some (.string (str x1))/\W.cell? ⟨g2,u1*3+2,none⟩=some (.string (str e1))/\W.cell? ⟨g2,u2*3,none⟩=some (.int .i64 k2)/\W.cell? ⟨g2,u2*3+1,none⟩=some (.string (str x2))/\W.cell? ⟨g2,u2*3+2,none⟩=some (.string (str e2))):=fun W hW=>by
        obtain ⟨a0,a1,a2⟩:=htm W hW u0 hl0;obtain ⟨b0,b1,b2⟩:=htm W hW u1 hl1;obtain ⟨c0,c1,c2⟩:=htm W hW u2 hl2;rw[ht0]at a0 a1 a2;rw[ht1]at b0 b1 b2;rw[ht2]at c0 c1 c2;exact ⟨hnum W hW 0 u0 (by omega) hu0,hnum W hW 1 u1 (by omega) hu1,hnum W hW 2 u2 (by omega) hu2,a0,a1,a2,b0,b1,b2,c0,c1,c2⟩
       have HSX:=hid hsx;have HCH:=hid hch;have HSM:=hid hsm;have HII:=hid (And.intro hi1 hi2);clear hq hnum htm hch hsm hsx ht0 ht1 ht2 hu0 hu1 hu2 HJ;have hw1:IntKind.i64.wrap ((i:Int)+1)=(i:Int)+1:=(wI (by omega));have hw2:IntKind.i64.wrap ((i:Int)+2)=(i:Int)+2:=(wI (by omega));have hw3:((i:Int)+1).toNat=i+1:=(by omega);have hw4:((i:Int)+2).toNat=i+2:=(by omega);have hv0:IntKind.i64.wrap (u0:Int)=u0:=(wI (by omega));have hv1:IntKind.i64.wrap (u1:Int)=u1:=(wI (by omega));have hv2:IntKind.i64.wrap (u2:Int)=u2:=(wI (by omega));have hn0:(i:Int)<(N:Int):=(by omega);have hn1:(i:Int)+1<(N:Int):=(by omega);have hp1:(0:Int)<=(i:Int)+1:=(by omega);have hp2:(0:Int)<=(i:Int)+2:=(by omega);have hl0z:(u0:Int)<(T.length:Int):=(by omega);have hl1z:(u1:Int)<(T.length:Int):=(by omega);have hl2z:(u2:Int)<(T.length:Int):=(by omega);have HBD:Hid (Below w.heap.size w wr.drew):=HBX.out.trans ⟨rfl,rfl,rfl,nL,fun _ _=>rfl⟩;have HOWN2:=hid (Fd.own_below HOWN.out (hbx.trans (show Below wo.heap.size wr wr.drew from ⟨rfl,rfl,rfl,nL,fun _ _=>rfl⟩)));clear hbx hi1 hi2;go_wp2_with fail
       refine sA 29 [28] (fun W=>(W.cell? ⟨g,i,none⟩=some (.int .i64 ((u0:Int)+1))/\W.cell? ⟨g,i+1,none⟩=some (.int .i64 ((u1:Int)+1))/\W.cell? ⟨g,i+2,none⟩=some (.int .i64 ((u2:Int)+1))/\W.cell? ⟨g2,u0*3,none⟩=some (.int .i64 k0)/\W.cell? ⟨g2,u0*3+1,none⟩=some (.string (str x0))/\W.cell? ⟨g2,u0*3+2,none⟩=some (.string (str e0))/\W.cell? ⟨g2,u1*3,none⟩=some (.int .i64 k1)/\W.cell? ⟨g2,u1*3+1,none⟩=some (.string (str x1))/\W.cell? ⟨g2,u1*3+2,none⟩=some (.string (str e1))/\W.cell? ⟨g2,u2*3,none⟩=some (.int .i64 k2)/\W.cell? ⟨g2,u2*3+1,none⟩=some (.string (str x2))/\W.cell? ⟨g2,u2*3+2,none⟩=some (.string (str e2)))) ?_ (fun hHeld=>?_)
       · exact HSX.out _ HBD.out
       refine pU 0 ?_;refine pU 1 ?_;refine pU 2 ?_;refine pU 3 ?_;refine tK 4 hHeld ?_;refine pU 5 ?_;refine pU 6 ?_;refine tK 7 hHeld ?_;refine pU 8 ?_;refine pU 9 ?_;refine pU 10 ?_;refine pU 11 ?_;refine pU 12 ?_;refine tK 13 hHeld ?_;refine pU 14 ?_;refine pU 15 ?_;refine tK 16 hHeld ?_;refine pU 17 ?_;refine pU 18 ?_;refine pU 19 ?_;refine pU 20 ?_;refine pU 21 ?_;refine tK 22 hHeld ?_;refine pU 23 ?_;refine pU 24 ?_;refine tK 25 hHeld ?_;refine pU 26 ?_;refine oN 27 (fun K hK=>?_);refine vA (.pointer (some ⟨wr.drew.heap.size,0,none⟩)) (wr.drew.alloc (.cells #[.int .i64 0,.string ⟨#[]⟩,.string ⟨#[]⟩,.int .i64 0,.string ⟨#[]⟩,.string ⟨#[]⟩,.int .i64 0,.string ⟨#[]⟩,.string ⟨#[]⟩] 96)) ?_;have HBE:=hid (HBD.out.alloc HBD.out.size (.cells #[.int .i64 0,.string ⟨#[]⟩,.string ⟨#[]⟩,.int .i64 0,.string ⟨#[]⟩,.string ⟨#[]⟩,.int .i64 0,.string ⟨#[]⟩,.string ⟨#[]⟩] 96));refine oU hK (HSX.out _ HBE.out) (fun hHeld=>?_);clear hK K;refine lA 28 (fun K hK=>?_);refine skip_ (w1:=wr.drew.alloc (.cells #[.int .i64 k0,.string (str x0),.string (str e0),.int .i64 k1,.string (str x1),.string (str e1),.int .i64 k2,.string (str x2),.string (str e2)] 96)) (by rfl) rfl ?_ ?_
       · go_simp
       refine hK.out _ _ ?_;clear hK K;refine done_ (by kernel_rfl) ?_;clear hHeld HBE hw1 hw2 hw3 hw4 hv0 hv1 hv2 hp1 hp2 hl0z hl1z hl2z hn0 hn1 HSX;generalize wr.drew=W at HBD HOWN2 ⊢;obtain ⟨wy,hwy⟩:∃wy,W.alloc (.cells #[.int .i64 k0,.string (str x0),.string (str e0),.int .i64 k1,.string (str x1),.string (str e1),.int .i64 k2,.string (str x2),.string (str e2)] 96)=wy:=⟨_,rfl⟩;have h9:A9 wy W.heap.size 96 (.int .i64 k0) (.string (str x0)) (.string (str e0)) (.int .i64 k1) (.string (str x1)) (.string (str e1)) (.int .i64 k2) (.string (str x2)) (.string (str e2)):=(by rw[<-hwy];exact A9.new _ _ _ _ _ _ _ _ _ _ _);have hby:Below W.heap.size W wy:=(by rw[<-hwy];exact br.alloc nL _);have HBY:=hid (HBD.out.trans (hby.mono HBD.out.size));have HOWN3:=hid (Fd.own_below HOWN2.out hby);have HIS:=hid (zjF ⟨⟨k0,x0,e0⟩,⟨k1,x1,e1⟩,⟨k2,x2,e2⟩⟩ HSM.out wy (HLY.out _ HBY.out));unfold encTri encT at HIS;simp only[List.cons_append,List.nil_append]at HIS;have H9:=hid h9;have c0:=h9.c0;have c1:=h9.c1;have c2:=h9.c2;have c3:=h9.c3;have c4:=h9.c4;have c5:=h9.c5;have c6:=h9.c6;have c7:=h9.c7;have c8:=h9.c8;rw[hwy];clear h9 hby hwy HBD HOWN2;obtain ⟨bt,hbt⟩:∃bt,triT ⟨⟨k0,x0,e0⟩,⟨k1,x1,e1⟩,⟨k2,x2,e2⟩⟩=bt:=⟨_,rfl⟩;rw[hbt]at HIS;have HBT:=hid hbt;clear hbt;obtain ⟨W9,hW9⟩:∃n,W.heap.size=n:=⟨_,rfl⟩;rw[hW9]at c0 c1 c2 c3 c4 c5 c6 c7 c8 H9 ⊢;clear hW9;go_wp2_with fail
       refine HIS.out.mono ?_;rintro e w6 ⟨rfl,hb6⟩;have HB6:=hid (HBY.out.trans (hb6.mono HBY.out.size));have h9:=H9.out.fr (Fr.of_below hb6 fun _=>False) fun h=>h;have HOWN6:=hid (Fd.own_below HOWN3.out hb6);clear c0 c1 c2 c3 c4 c5 c6 c7 c8 hb6 HOWN3 H9 HIS HBY;cases bt with
       | false=>
        have HNO:=hid (zkQ (m:=m) hlt (fun t ht=>by rw[HCH.out]at ht;cases ht;exact HBT.out));clear h9;go_wp2;go_ret2;exact ⟨.inr ⟨HNO.out,_,rfl⟩,HB6.out⟩
       | true=>
        have c0:=h9.c0;have c1:=h9.c1;have c2:=h9.c2;have c3:=h9.c3;have c4:=h9.c4;have c5:=h9.c5;have c6:=h9.c6;have c7:=h9.c7;have c8:=h9.c8;have hs6:=HB6.out.size;clear h9;obtain ⟨i0,hi,hz0,hz1,hz2⟩:=za1;go_wp2_with (at_builtin;refine wpList_append_own _ rfl _ _ 39 rfl w.heap.size 96 i0 _ 9 120 underlying39 hi hz0 hz1 hz2 rfl (by decide) _ k (ts.flatMap encTri) rfl (HOWN6.out.alloc _) ⟨w6.heap.size,0,none⟩ 1 1 [.int .i64 k0,.string (str x0),.string (str e0),.int .i64 k1,.string (str x1),.string (str e1),.int .i64 k2,.string (str x2),.string (str e2)] rfl rfl ?q1 ?q2 ?q3 ?q4 ?q5 ?_)
        case q1=>exact World.news_of_block (heap_alloc_new w6 _)
        case q2=>simp[Value.oneCell']
        case q3=>unfold maxLen;omega
        case q4=>omega
        case q5=>simp;omega
        intro v8 w8 hown8 hg8 _;have HOWN8:Hid (w8.ownsRow w.heap.size 96 9 v8 (k+1) ((ts++[(⟨⟨k0,x0,e0⟩,⟨k1,x1,e1⟩,⟨k2,x2,e2⟩⟩:Tri)]).flatMap encTri)):=by
         show w8.ownsRow _ _ _ _ _ _;rw[List.flatMap_append];exact hown8
        have HB8:=hid ((HB6.out.alloc HB6.out.size (.cells #[.int .i64 k0,.string (str x0),.string (str e0),.int .i64 k1,.string (str x1),.string (str e1),.int .i64 k2,.string (str x2),.string (str e2)] 96)).grown hg8 (by simp;omega) (fun j hj=>(HOWN6.out.lt j hj).1));have HMP2:=hid (zmO HMP.out HCH.out);have HOK2:Hid (∀t∈ts++[(⟨⟨k0,x0,e0⟩,⟨k1,x1,e1⟩,⟨k2,x2,e2⟩⟩:Tri)],triT t=true):=fun t ht=>by
         rcases List.mem_append.1 ht with ht | ht
         · exact HOK.out t ht
         · rw[List.mem_singleton]at ht;subst ht;exact HBT.out
        have hi3:i+3<=3*(k+1):=(by have:=HII.out;omega);have hi4:3*(k+1)<=i+3:=(by have:=HII.out;omega);have hkm:k+1<=m:=(by omega);clear hown8 hg8 HOWN6 HB6 c0 c1 c2 c3 c4 c5 c6 c7 c8;have HI34:=hid (And.intro hi3 hi4);clear hi3 hi4;go_wp2;go_roundw
        case rel=>exact ⟨k+1,i+3,_,HI34.out.1,HI34.out.2,hkm,by go_num,by rw[List.length_append,htl];rfl,HMP2.out,HOK2.out,HOWN8.out,HB8.out⟩
        case measure=>simp[RowKit.intOf];omega
  · obtain rfl:k=m:=(by omega);have hz:¬(i:Int)+2<(N:Int):=(by omega);have HB:=hid hB;have HOWN:=hid hown;clear hB hown;go_wp2;go_ret2;refine ⟨.inl ⟨ts,_,rfl,HMP.out,HOK.out,?_⟩,HB.out⟩;rw[htl];exact HOWN.out
end Go.Proofs.YtjcpjopbgngihaaGreatDoor
end
