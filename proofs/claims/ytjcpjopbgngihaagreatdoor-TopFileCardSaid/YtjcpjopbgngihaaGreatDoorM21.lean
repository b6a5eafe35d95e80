/- Proved on the way: What the printed functions of packages c; Package box: Pack; Package ring: matches and All at the pat; Package ring: All at the pattern that al; Sorting terms and triples of numbers; ea; Package ring: the numbers of a triple ar; The reference's sum and its three bytes. Each theorem states its own conditions. -/
import Derived.Test.YtjcpjopbgngihaaGreatDoorPQ2
import Derived.Lib.SmallJoins
import Derived.Test.YtjcpjopbgngihaaGreatDoorM16
set_option maxHeartbeats 16000000
set_option maxRecDepth 1000000
section
namespace Go.Proofs.YtjcpjopbgngihaaGreatDoor
open Tryz
open Go.RowKit Go.Lib Go.Proofs.YtjcpjopbgngihaaGreatDoorW.PrintWords Pk
open Go.Proofs.YtjcpjopbgngihaaGreatDoor.PTopFile
def bInts (l:List UInt8):List Int:=l.map fun b=>(b.toNat:Int)
theorem zao (l:List UInt8):(bInts l).length=l.length:=by simp[bInts]
theorem zba (l:List UInt8):nums .u8 (bInts l)=Fd.bys l:=zmI l
theorem ziB (l:List UInt8) (i:Nat) (hi:i<l.length):rd (bInts l) (i:Int)=((l[i].toNat:Nat):Int):=by
 unfold rd bInts;rw[Int.toNat_natCast,List.getD_eq_getElem?_getD,List.getElem?_map,List.getElem?_eq_getElem hi];rfl
theorem xor64 (a b:Nat) (ha:a<2 ^ 40) (hb:b<2 ^ 40):Go.bits .xor .i64 (a:Int) (b:Int)=((a ^^^ b:Nat):Int):=by
 have hx:a ^^^ b<2 ^ 40:=Nat.xor_lt_two_pow ha hb;have ha':a % 2 ^ 64=a:=Nat.mod_eq_of_lt (by omega);have hb':b % 2 ^ 64=b:=Nat.mod_eq_of_lt (by omega);have e:Go.bits .xor .i64 (a:Int) (b:Int)=IntKind.i64.wrap (((BitVec.ofNat 64 a) ^^^ (BitVec.ofNat 64 b)).toNat:Nat):=by
  simp only[Go.bits,BitVec.ofInt_natCast];rfl
 rw[e,BitVec.toNat_xor,BitVec.toNat_ofNat,BitVec.toNat_ofNat,ha',hb',IntKind.wrap_i64];omega
theorem and24 (y:Nat) (hy:y<33554432):(Go.bits .and .i64 (y:Int) 16777216=0)↔¬16777216<=y:=by
 have h:=(bits_nat .i64 62 (by decide) (fun n h0 h1=>wI (by omega)) y 16777216 (by omega) (by decide)).1;have h2:Go.bits .and .i64 (y:Int) 16777216=((y &&& 16777216:Nat):Int):=h;rw[h2,Bx.bit24 hy];split<;>simp_all
theorem dbl (x:Nat) (h:x<16777216):wrap64 ((x:Int)*2)=((2*x:Nat):Int):=by
 rw[show (x:Int)*2=((2*x:Nat):Int) by omega];exact w64n _ (by omega)
theorem shl16 (c:Nat) (h:c<256):wrap64 (wrap64 (c:Int)*65536)=((c*65536:Nat):Int):=by
 rw[w64n c (by omega),show (c:Int)*65536=((c*65536:Nat):Int) by omega];exact w64n _ (by omega)
theorem znI (F:Nat):∀(m i x:Nat),i+m=8->x<16777216->crc_one.l0 (F+m+1) (x:Int) (i:Int)=some ((Bx.stpN m x:Nat):Int)
 | 0,i,x,hi,_=>by
  obtain rfl:i=8:=(by omega);rw[crc_one.l0,if_neg (by decide)];rfl
 | m+1,i,x,hi,hx=>by
  have c1:(i:Int)<8:=(by omega);have hy:2*x<33554432:=(by omega);have hs:=Bx.zkh hx;have hi1:i+1+m=8:=(by omega);have hi2:i<9223372036854775807:=(by omega);have ih:=znI F m (i+1) (Bx.stp x) hi1 hs;have e:F+(m+1)+1=(F+m+1)+1:=rfl;rw[e,crc_one.l0,if_pos c1,dbl x hx,w64s i hi2];by_cases h:16777216<=2*x
  · rw[if_neg (fun h0=>(and24 _ hy).1 h0 h)];have hp:Go.bits .xor .i64 ((2*x:Nat):Int) 25578747=((2*x ^^^ Bx.poly:Nat):Int):=xor64 (2*x) 25578747 (by omega) (by decide);rw[hp];have es:Bx.stp x=2*x ^^^ Bx.poly:=(by unfold Bx.stp;rw[if_pos h]);rw[es]at ih;rw[ih,Bx.stpN,es]
  · rw[if_pos ((and24 _ hy).2 h)];have es:Bx.stp x=2*x:=(by unfold Bx.stp;rw[if_neg h]);rw[es]at ih;rw[ih,Bx.stpN,es]
theorem one_f (k x:Nat) (c:UInt8) (hk:9<=k) (hx:x<16777216):crc_one.f k (x:Int) (c.toNat:Int)=some ((Bx.crc1 x c:Nat):Int):=by
 have hc:=c.toNat_lt;unfold crc_one.f;rw[shl16 _ hc,xor64 x (c.toNat*65536) (by omega) (by omega)];obtain ⟨F,rfl⟩:∃F,k=F+8+1:=⟨k-9,by omega⟩;exact znI F 8 0 _ (by omega) (Bx.zlK c hx)
theorem znC (l:List UInt8) (F:Nat) (hF:9<=F) (hl:l.length<=1000000) (X:List (List Int)) (x9 x10:Int):∀(m i x:Nat),i+m=l.length->x<16777216->
    crc_Sum.l1 (F+m+1) (x:Int) X x9 x10 (bInts l) (l.length:Int) (i:Int)=crc_Sum.l0 F ((Bx.crcF x (l.drop i):Nat):Int) X x9 (wrap64 (x10+1))
 | 0,i,x,hi,_=>by
  obtain rfl:i=l.length:=(by omega);rw[crc_Sum.l1,if_neg (by omega),List.drop_length,Bx.zi1]
 | m+1,i,x,hi,hx=>by
  have hil:i<l.length:=(by omega);have c1:(i:Int)<(l.length:Int):=(by omega);have c2:(0:Int)<=(i:Int):=(by omega);have hi1:i+1+m=l.length:=(by omega);have hi2:i<9223372036854775807:=(by omega);have hk:9<=F+m+1:=(by omega);have ih:=znC l F hF hl X x9 x10 m (i+1) (Bx.crc1 x l[i]) hi1 (Bx.zlL _ hx);have e:F+(m+1)+1=(F+m+1)+1:=rfl;rw[e,crc_Sum.l1,if_pos c1,if_pos c2,zao,if_pos c1,ziB l i hil,one_f _ _ _ hk hx,Option.bind_some,w64s i hi2,ih];rw[List.drop_eq_getElem_cons hil,Bx.zg1]
theorem sum_f (l:List UInt8) (hl:l.length<=1000000):crc_Sum.f (9+l.length+1+1) [bInts l]=some ((Bx.crcN l:Nat):Int):=by
 unfold crc_Sum.f;rw[crc_Sum.l0,if_pos (by show (0:Int)<1;decide),if_pos (by decide),if_pos (by show (0:Int)<1;decide)];have e1:rd_L2 [bInts l] 0=bInts l:=rfl;rw[e1,zao];have h:=znC l 9 (by omega) hl [bInts l] 1 0 l.length 0 11994318 (by omega) (by omega);rw[List.drop_zero]at h;have h2:crc_Sum.l1 (9+l.length+1) 11994318 [bInts l] (([bInts l].length:Nat):Int) 0 (bInts l) (l.length:Int) 0=_:=h;rw[h2];have e2:wrap64 ((0:Int)+1)=1:=w64s 0 (by omega);rw[e2,show (9:Nat)=8+1 from rfl,crc_Sum.l0,if_neg (by decide)];rfl
theorem zny {w:World} {A:Option Addr} {n c:Nat} {l:List UInt8} {b:Nat} (hb:w.cell? ⟨b,0,none⟩=some (.slice A n c)) (hs:Fd.Seg w A n (Fd.bys l)) (hl:l.length=n) (hn:n<=c) (hm:n<=1000000) :
    Kd.C (Kd.slice 5 (Kd.int .u8)) w (some ⟨b,0,none⟩) 1 [bInts l]:=by
 refine ⟨rfl,by decide,fun _=>⟨_,rfl,fun j p hj=>?_⟩⟩
 match j,hj with
 | 0,hj=>
  simp only[List.getElem?_cons_zero,Option.some.injEq]at hj;subst hj;refine ⟨[.slice A n c],rfl,⟨A,c,by rw[zao,hl],by rw[zao,hl];exact hn,?_⟩,fun i u hi=>?_⟩
  · rw[zao,hl];exact C_int (by omega) (by rw[zba];exact hs)
  · match i,hi with
    | 0,hi=>
     simp only[List.getElem?_cons_zero,Option.some.injEq]at hi;subst hi;simpa [Addr.add] using hb
theorem zg0 (w:World) (A:Option Addr) (n c:Nat) (l:List UInt8) (b:Nat) (hb:w.cell? ⟨b,0,none⟩=some (.slice A n c)) (hs:Fd.Seg w A n (Fd.bys l)) (hl:l.length=n) (hn:n<=c) (hm:n<=1000000) :
    Calls prog 89 #[.slice (some ⟨b,0,none⟩) 1 1] w fun e w'=>e=.returned (.int .i64 (Bx.crcN l:Nat))/\Below w.heap.size w w':=by
 have:=crc_Sum.calls (9+l.length+1+1) (some ⟨b,0,none⟩) 1 [bInts l] ((Bx.crcN l:Nat):Int) w (zny hb hs hl hn hm) nL (sum_f l (by omega));exact Calls.mono this fun e w' h=>⟨h.1,h.2.below⟩
theorem zif (n:Nat):nums .u8 [((n:Nat):Int) / 65536 % 256,(n:Int) / 256 % 256,(n:Int) % 256]=Fd.bys (Bx.w24 n):=by
 rw[<-zba]
 congr 1
theorem zcR (n:Nat) (w:World):Calls prog 88 #[.int .i64 n] w fun e w'=>∃A c,e=.returned (.slice A 3 c)/\w'.ownsRow w.heap.size 5 1 (.slice A 3 c) 3 (Fd.bys (Bx.w24 n))/\Below w.heap.size w w':=by
 refine Calls.mono (box_laid.calls (n:Int) _ w rfl) ?_;rintro e w' ⟨v,rfl,hR,hb⟩;have h1:=R_int hR;obtain ⟨A,c,rfl⟩:=Fd.zac h1;rw[zif]at h1;exact ⟨A,c,rfl,h1,hb⟩
theorem beq_calls (A0:Option Addr) (c0:Nat) (l0:List UInt8) (A1:Option Addr) (c1:Nat) (l1:List UInt8) (w:World) (h0:Fd.Seg w A0 l0.length (Fd.bys l0)) (hc0:l0.length<=c0) (h1:Fd.Seg w A1 l1.length (Fd.bys l1)) (hc1:l1.length<=c1) (hn0:l0.length<=1000000) (hn1:l1.length<=1000000) :
    Calls prog 23 #[.slice A0 l0.length c0,.slice A1 l1.length c1] w fun e w'=>e=.returned (.bool (decide (l0=l1)))/\Below w.heap.size w w':=by
 have h:=bytes_Equal.calls A0 c0 (bInts l0) A1 c1 (bInts l1) (decide (l0=l1)) w (by rw[zao];exact C_int (by omega) (by rw[zba];exact h0)) (by rw[zao];exact hc0) (by rw[zao];exact C_int (by omega) (by rw[zba];exact h1)) (by rw[zao];exact hc1) (by
  unfold bytes_Equal.f
  congr 1
  have e:∀l:List UInt8,(strOfNums (bInts l)).toList=l:=fun l=>by
   have:=Fd.ziJ l;unfold bInts;rw[this,Lib.toList_data,zae]
  rw[e,e,Bool.eq_iff_iff];simp)
 rw[zao,zao]at h;exact Calls.mono h fun e w' h=>⟨h.1,h.2.below⟩
end Go.Proofs.YtjcpjopbgngihaaGreatDoor
end
section
namespace Go.Proofs.YtjcpjopbgngihaaGreatDoor
open Tryz
open Go.RowKit Go.Lib Go.Sort
open Bx (Sec MayB boxB hdsB bodB w24 crcN headB)
structure SecV where
 id:Nat
 A:Option Addr
 c:Nat
 body:List UInt8
instance:Inhabited SecV:=⟨⟨0,none,0,[]⟩⟩
def SecV.sec (x:SecV):Sec:=⟨x.id,x.body⟩
def encS (x:SecV):List Value:=[.int .i64 x.id,.slice x.A x.body.length x.c]
theorem znl (x:SecV):(encS x).length=2:=rfl
def secs (xs:List SecV):List Sec:=xs.map SecV.sec
structure SecRow (w:World) (B:Nat) (v:Value) (xs:List SecV):Prop where
 own:w.ownsRow B 53 2 v xs.length (xs.flatMap encS)
 part:∀x∈xs,Fd.Seg w x.A x.body.length (Fd.bys x.body)/\x.body.length<=x.c
theorem SecRow.below {w w1:World} {B:Nat} {v:Value} {xs:List SecV} (h:SecRow w B v xs) (hb:Below w.heap.size w w1):SecRow w1 B v xs:=
 ⟨Fd.own_below h.own hb,fun x hx=>⟨(h.part x hx).1.below hb,(h.part x hx).2⟩⟩
theorem SecRow.at_ {w:World} {B n g cap:Nat} {xs:List SecV} (h:SecRow w B (.slice (some ⟨g,0,none⟩) n cap) xs) (i:Nat) (x:SecV) (hi:xs[i]?=some x) :
    w.cell? ⟨g,i*2,none⟩=some (.int .i64 x.id)/\w.cell? ⟨g,i*2+1,none⟩=some (.slice x.A x.body.length x.c):=by
 rcases zai h.own with ⟨h,_⟩ | ⟨g',cap',hv,_,_,_,hc⟩
 · cases h
 · cases hv
   have hil:i<xs.length:=(List.getElem?_eq_some_iff.1 hi).1;have key:∀j,j<2->(xs.flatMap encS)[i*2+j]?=(encS x)[j]?:=by
    intro j hj;rw[zaN znl xs (i*2+j) (by omega)];rw[show (i*2+j) / 2=i from by omega,show (i*2+j) % 2=j from by omega,List.getD_eq_getElem?_getD,hi];rfl
   exact ⟨hc (i*2) _ (key 0 (by decide)),hc (i*2+1) _ (key 1 (by decide))⟩
theorem zbn {w:World} {B n c k:Nat} {e:TypeId} {A:Option Addr} {xs:List Value} (h:w.ownsRow B e k (.slice A n c) n xs) (hne:0<n):∃g,A=some ⟨g,0,none⟩/\g<w.heap.size/\n<=c:=by
 rcases zai h with ⟨_,h⟩ | ⟨g,cap,hv,hB,hg,hc,_⟩
 · omega
 · cases hv;exact ⟨g,rfl,hg,hc⟩
def Rest (last sz:Nat) (l:List Sec):Prop:=Bx.Ids last l/\sz+(bodB l).length<=100000
theorem zg9 (s:Sec) (l:List Sec):(bodB (s::l)).length=s.body.length+(bodB l).length:=by
 unfold bodB;rw[List.flatMap_cons,List.length_append]
theorem rest_start (l:List Sec) (h:l.length<=8):MayB l↔Rest 0 (9+7*l.length) l:=⟨fun m=>⟨m.2.1,m.2.2⟩,fun r=>⟨h,r.1,r.2⟩⟩
theorem ziV (la:Nat) (s:Sec) (l:List Sec):Bx.Ids la (s::l)↔la<s.id/\s.id<=255/\Bx.Ids s.id l:=Iff.rfl
theorem zgq {la sz:Nat} {s:Sec} {l:List Sec} (h1:la<s.id) (h2:s.id<=255):Rest la sz (s::l)↔Rest s.id (sz+s.body.length) l:=by
 unfold Rest;rw[zg9,ziV];constructor
 · rintro ⟨⟨_,_,h⟩,k⟩;exact ⟨h,by omega⟩
 · rintro ⟨h,k⟩;exact ⟨⟨h1,h2,h⟩,by omega⟩
theorem zkv {la sz:Nat} {s:Sec} {l:List Sec} (h:s.id<=la\/255<s.id\/100000<sz+s.body.length):¬Rest la sz (s::l):=by
 unfold Rest;rw[zg9,ziV];rintro ⟨⟨a,b,_⟩,k⟩;omega
theorem zgR (l:List Sec) (s:Sec):hdsB (l++[s])=hdsB l++Bx.hdB s:=by unfold hdsB;simp
theorem zg8 (l:List Sec) (s:Sec):bodB (l++[s])=bodB l++s.body:=by unfold bodB;simp
theorem zaD (xs:List SecV):(secs xs).length=xs.length:=by simp[secs]
theorem zcg (xs:List SecV) (k:Nat) (x:SecV) (h:xs[k]?=some x):(secs xs).take (k+1)=(secs xs).take k++[x.sec]:=by
 rw[List.take_add_one];unfold secs;rw[List.getElem?_map,h];rfl
theorem zgm (xs:List SecV) (k:Nat) (x:SecV) (h:xs[k]?=some x):(secs xs).drop k=x.sec::(secs xs).drop (k+1):=by
 have hk:=(List.getElem?_eq_some_iff.1 h).1;rw[List.drop_eq_getElem_cons (by rw[zaD];exact hk)]
 congr 1
 unfold secs;rw[List.getElem_map,(List.getElem?_eq_some_iff.1 h).2]
def PackAns (w:World) (l:List Sec) (e:Ending) (w':World):Prop:=
 ((MayB l/\∃A c,e=.returned (.tuple #[.slice A (boxB l).length c,.int .i64 0])/\w'.ownsRow w.heap.size 5 1 (.slice A (boxB l).length c) (boxB l).length (Fd.bys (boxB l)))\/(¬MayB l/\e=.returned (.tuple #[.slice none 0 0,.int .i64 1])))/\Below w.heap.size w w'
theorem PackAns.no {w w':World} {l:List Sec} {e:Ending} (h:¬MayB l) (he:e=.returned (.tuple #[.slice none 0 0,.int .i64 1])) (hb:Below w.heap.size w w'):PackAns w l e w':=⟨.inr ⟨h,he⟩,hb⟩
structure Acc (w wr:World) (v:Value) (acc:List UInt8):Prop where
 own:wr.ownsRow w.heap.size 5 1 v acc.length (Fd.bys acc)
 below:Below w.heap.size w wr
theorem Acc.step {w wr w2:World} {v:Value} {acc:List UInt8} (h:Acc w wr v acc) (hb:Below wr.heap.size wr w2):Acc w w2 v acc:=⟨Fd.own_below h.own hb,h.below.trans (hb.mono h.below.size)⟩
theorem Acc.put {w wr w2:World} {v v':Value} {acc more:List UInt8} (h:Acc w wr v acc) (hg:wr.grownBy w2 v.ownBlock) (hown:w2.ownsRow w.heap.size 5 1 v' (acc.length+more.length) (Fd.bys acc++Fd.bys more)):Acc w w2 v' (acc++more):=by
 refine ⟨?_,h.below.grown hg h.below.size fun k hk=>(h.own.lt k hk).1⟩;rw[List.length_append,Fd.zej];exact hown
theorem zjK (n:Nat) (hn:n<=8):Fd.bys [84,82,73,86,1,UInt8.ofNat n]=[.int .u8 84,.int .u8 82,.int .u8 73,.int .u8 86,.int .u8 1]++[.int .u8 n]:=by
 have e:((UInt8.ofNat n).toNat:Int)=n:=(by rw[UInt8.toNat_ofNat'];omega);show [Value.int .u8 84,.int .u8 82,.int .u8 73,.int .u8 86,.int .u8 1,.int .u8 ((UInt8.ofNat n).toNat:Int)]=_;rw[e];rfl
theorem zi5 {W w':World} {bx B n:Nat} {v:Value} {cs:Array Value} {xs:List Value} (h:W.heap[bx]?=some (.cells cs 53 (0,0))) (ho:W.ownsRow B 5 1 v n xs) (hg:W.grownBy w' v.ownBlock):w'.heap[bx]?=some (.cells cs 53 (0,0)):=
 (hg.block bx (Array.getElem?_eq_some_iff.1 h).1 (fun e=>zhI ho h (by decide) bx e.symm rfl)).trans h
theorem zcy (xs:List SecV) (v:Value) (B:Nat) (w:World) (h:SecRow w B v xs) (hbs:∀x∈xs,x.body.length<=100000/\x.id<=1000000) (hn:xs.length<=255) :
    Calls prog 37 #[v] w (PackAns w (secs xs)):=by
 obtain ⟨A,c,rfl⟩:=Fd.zac h.own;have HROW:Hid (∀w1,Below w.heap.size w w1->SecRow w1 B (.slice A xs.length c) xs):=fun w1 hb=>h.below hb;have HBS:=hid hbs;have hsl:=zaD xs;clear h hbs;by_cases hn8:xs.length<=8
 · have HST:Hid (MayB (secs xs)↔Rest 0 (9+7*xs.length) (secs xs)):=by
    have:=rest_start (secs xs) (by omega);rw[hsl]at this;exact this
   have HH0:=hid (zjK xs.length hn8);clear hsl;have hw8:IntKind.u8.wrap (xs.length:Int)=xs.length:=(by rw[IntKind.wrap_u8];omega);have hm1:IntKind.i64.wrap (7*(xs.length:Int))=7*(xs.length:Int):=(wI (by omega));obtain ⟨i0,hi,hz0,hz1,hz2⟩:=info_parts Fd.info5;have kc:=fun (w:World) (C:Array Value) (n c:Nat)=>Lib.run_convert_bytes_const (P:=prog) w 22 5 C n c underlying22 underlying5;go_enter func37,ntmps37
   go_wp2_with (at_builtin;refine wpList_append_grows _ rfl _ _ 22 rfl 5 i0 (.int .u8 0) 1 1 underlying22 hi hz0 hz1 hz2 rfl (by decide) (some ⟨w.heap.size,0,none⟩) 5 5 [.int .u8 84,.int .u8 82,.int .u8 73,.int .u8 86,.int .u8 1] rfl (fun h=>by cases h) rfl ?a1 ⟨w.heap.size+1,0,none⟩ 1 1 [.int .u8 xs.length] rfl rfl ?a2 ?a3 (by decide) ?a4 (by decide) ?_)
   case a1=>
    intro b hb j u hj;cases hb
    rw[Fd.add_zero',World.cell?_alloc_past _ _ _ (by simp)];rw[World.cell?_alloc_mark];simpa using hj
   case a2=>
    intro j u hj
    match j,hj with
    | 0,hj=>simp at hj;subst hj;simp[Addr.add]
   case a3=>intro u hu;simp at hu;subst hu;rfl
   case a4=>unfold maxLen;omega
   intro v2 w2 hown2 hg2;have hA0:Acc w w2 v2 [84,82,73,86,1,UInt8.ofNat xs.length]:=by
    refine ⟨?_,?_⟩
    · rw[HH0.out];exact zaj hown2 (by omega)
    · exact (((Below.refl _ w).alloc nL _).alloc (by simp) _).grown hg2 (by simp;omega) (fun k hk=>by cases hk)
   have HA0:=hid hA0;clear hown2 hg2 hA0 kc HH0;have hnz:(xs.length:Int)<=8:=(by omega);go_wp2;go_loopw [4,5,6,28] (fun v4 v5 v6 v28 wr=>∃(k sz la:Nat) (acc:List UInt8),k<=xs.length/\v28=.int .i64 k/\v5=.int .i64 sz/\v6=.int .i64 la/\sz<=100000/\la<=1000000/\Hid (acc.length=6+7*k)/\Acc w wr v4 acc/\Hid (acc=[84,82,73,86,1,UInt8.ofNat xs.length]++hdsB ((secs xs).take k))/\Hid (MayB (secs xs)↔Rest la sz ((secs xs).drop k))) (fun _ _ _ v28 _=>xs.length-(RowKit.intOf v28).toNat)
   case atStart=>exact ⟨0,9+7*xs.length,0,[84,82,73,86,1,UInt8.ofNat xs.length],Nat.zero_le _,rfl,by congr 1;omega,rfl,by omega,by omega,hid (by rfl),HA0.out,hid (by rfl),HST⟩
   case round=>
    clear HA0 HST;obtain ⟨k,sz,la,acc,hk,rfl,rfl,rfl,hsz,hla,HAL,hacc,HAC,HMAY⟩:=hrel;have hal:acc.length<=62:=(by have:=HAL.out;omega);by_cases hlt:k<xs.length
    · obtain ⟨x,hx⟩:∃x,xs[k]?=some x:=⟨_,List.getElem?_eq_getElem hlt⟩;have hrow:=HROW.out wr hacc.below;obtain ⟨g,rfl,hg,hcap⟩:=zbn hrow.own (by omega);obtain ⟨a0,a1⟩:=hrow.at_ k x hx;have hxm:x∈xs:=List.mem_of_getElem? hx;obtain ⟨hseg,hxc⟩:=hrow.part x hxm;obtain ⟨hb1,hb2⟩:=HBS.out x hxm;have HT:=hid (zcg xs k x hx);have HX:=hid hx;have HD:=hid (zgm xs k x hx);have HACC:=hid hacc;obtain ⟨id,Ab,cb,body⟩:=x;unfold SecV.sec at HT HD;simp only at a0 a1 hseg hxc hb1 hb2 HT HD;have HSEG:=hid hseg;clear hrow hx hxm hacc hseg;by_cases hbad:id<=la\/255<id\/100000<sz+body.length
      · have HNO:Hid (¬MayB (secs xs)):=fun m=>by
         have:=HMAY.out.1 m;rw[HD.out]at this;exact zkv hbad this
        have hbw:Below w.heap.size w (wr.alloc (.cells #[.int .i64 id,.slice Ab body.length cb] 53)):=HACC.out.below.alloc HACC.out.below.size _;have HBW:=hid hbw;clear hbw HSEG HX HT HD HACC HMAY HAC HAL;by_cases h1:id<=la
        · have d1:decide (id<=la)=true:=dT h1;go_wp2;go_ret2;exact PackAns.no HNO.out rfl HBW.out
        · have d1:decide (id<=la)=false:=dF h1;by_cases h2:255<id
          · have d2:decide ((255:Int)<(id:Int))=true:=dT (by omega);go_wp2;go_ret2;exact PackAns.no HNO.out rfl HBW.out
          · have d2:decide ((255:Int)<(id:Int))=false:=dF (by omega);have d3:decide ((100000:Int)<(sz:Int)+(body.length:Int))=true:=dT (by omega);go_wp2;go_ret2;exact PackAns.no HNO.out rfl HBW.out
      · obtain ⟨g1,g2,g3⟩:la<id/\id<=255/\sz+body.length<=100000:=(by omega);clear hbad;have HMAY2:Hid (MayB (secs xs)↔Rest id (sz+body.length) ((secs xs).drop (k+1))):=by
         have h1:=HMAY.out;rw[HD.out,zgq (s:=⟨id,body⟩) g1 g2]at h1;exact h1
        have d1:decide (id<=la)=false:=dF (by omega);have d2:decide ((255:Int)<(id:Int))=false:=dF (by omega);have d3:decide ((100000:Int)<(sz:Int)+(body.length:Int))=false:=dF (by omega);have hw8i:IntKind.u8.wrap (id:Int)=id:=(by rw[IntKind.wrap_u8];omega);obtain ⟨wa,hwa⟩:∃wa,wr.alloc (.cells #[.int .i64 id,.slice Ab body.length cb] 53)=wa:=⟨_,rfl⟩;have hba:Below wr.heap.size wr wa:=(by rw[<-hwa];exact br.alloc nL _);have hbx:wr.heap.size<wa.heap.size:=(by rw[<-hwa];simp);have HBX:=hid (show wa.heap[wr.heap.size]?=some (.cells #[.int .i64 id,.slice Ab body.length cb] 53 (0,0)) by rw[<-hwa];exact heap_alloc_new wr _);have hA1:=hid (HACC.out.step hba);clear hba HSEG;have b0:wa.cell? ⟨wr.heap.size,0,none⟩=some (.int .i64 id):=(by rw[cell_of_heap HBX.out];rfl);have b1:wa.cell? ⟨wr.heap.size,1,none⟩=some (.slice Ab body.length cb):=(by rw[cell_of_heap HBX.out];rfl);have hs1:=hA1.out.below.size;go_wp2_with (at_builtin;refine wpList_append_own _ rfl _ _ 22 rfl w.heap.size 5 i0 (.int .u8 0) 1 1 underlying22 hi hz0 hz1 hz2 rfl (by decide) _ acc.length _ rfl (hA1.out.own.alloc _) ⟨wa.heap.size,0,none⟩ 1 1 [.int .u8 id] rfl rfl ?c1 ?c2 ?c3 ?c4 ?c5 ?_)
        case c1=>
         intro j u hj
         match j,hj with
         | 0,hj=>simp at hj;subst hj;simp[Addr.add]
        case c2=>intro u hu;simp at hu;subst hu;rfl
        case c3=>unfold maxLen;omega
        case c4=>omega
        case c5=>simp;omega
        intro v2b w2b hown2 hg2 _
        have hA2:Acc w w2b v2b (acc++[UInt8.ofNat id]):=(hA1.out.step ((Below.refl _ wa).alloc nL _)).put hg2 (by
         have e:((UInt8.ofNat id).toNat:Int)=id:=(by rw[UInt8.toNat_ofNat'];omega);have e2:Fd.bys [UInt8.ofNat id]=[.int .u8 (id:Int)]:=by
          show [Value.int .u8 ((UInt8.ofNat id).toNat:Int)]=_;rw[e]
         rw[e2];exact hown2)
        have hbx2:=zi5 ((Lib.alloc_old wa _ _ hbx).trans HBX.out) (hA1.out.own.alloc _) hg2;have q1:w2b.cell? ⟨wr.heap.size,1,none⟩=some (.slice Ab body.length cb):=(by rw[cell_of_heap hbx2];rfl);have BX2:=hid hbx2;have A2:=hid hA2;have hs2:=hA2.below.size;have hl2:(acc++[UInt8.ofNat id]).length<=63:=(by rw[List.length_append];simp;omega);have HL:=hid fun w=>zcR body.length w;clear hown2 hg2 hbx2 hA2 b0 b1 HBX hwa hA1;generalize hacc2:acc++[UInt8.ofNat id]=acc2 at A2 hl2;have HACC2:=hid hacc2;clear hacc2;go_wp2_with fail
        refine (HL.out _).mono ?_;rintro e w3 ⟨A3,c3,rfl,hown3,hb3⟩;have A3':=hid (A2.out.step hb3);have HO3:=hid hown3;have hs3:=A3'.out.below.size;have hbx3:=(hb3.block _ (Array.getElem?_eq_some_iff.1 BX2.out).1).trans BX2.out;have BX3:=hid hbx3;clear hown3 hb3 hbx3 A2 BX2 q1 HL;go_wp2_with (at_builtin;refine Fd.zah _ rfl _ _ 22 rfl w.heap.size 5 i0 (.int .u8 0) 1 underlying22 hi hz0 hz1 hz2 rfl _ acc2.length _ rfl A3'.out.own A3 3 c3 (Fd.bys (w24 body.length)) rfl (Fd.Seg.of_own HO3.out) (Fd.zaV _) ?e1 ?e2 hs3 ?_)
        case e1=>unfold maxLen;omega
        case e2=>omega
        intro v4b w4 hown4 hg4;have hA4:Acc w w4 v4b (acc2++w24 body.length):=A3'.out.put hg4 hown4;have hbx4:=zi5 BX3.out A3'.out.own hg4;have q1:w4.cell? ⟨wr.heap.size,1,none⟩=some (.slice Ab body.length cb):=(by rw[cell_of_heap hbx4];rfl);obtain ⟨w5,hw5⟩:∃w5,w4.alloc (.cells #[.slice Ab body.length cb] 22)=w5:=⟨_,rfl⟩;have hb5:Below w4.heap.size w4 w5:=(by rw[<-hw5];exact br.alloc nL _);have hA5:=hA4.step hb5;have hrow5:=HROW.out w5 hA5.below;have hseg5:=(hrow5.part ⟨id,Ab,cb,body⟩ (List.mem_of_getElem? HX.out)).1;have HC:=hid (zg0 w5 Ab body.length cb body w4.heap.size (by rw[<-hw5];simp) hseg5 rfl hxc (by omega));have hbx5:=(hb5.block _ (Array.getElem?_eq_some_iff.1 hbx4).1).trans hbx4;have A5:=hid hA5;have BX5:=hid hbx5;have hl4:(acc2++w24 body.length).length<=66:=(by rw[List.length_append];show acc2.length+3<=66;omega);have HL:=hid fun w=>zcR (crcN body) w;clear hown4 hg4 hA4 hbx4 hb5 hA5 hrow5 hseg5 hbx5 A3' HO3 BX3;generalize hacc4:acc2++w24 body.length=acc4 at A5 hl4;have HACC4:=hid hacc4;clear hacc4;generalize hcr:crcN body=cr at HC HL;have HCR:=hid hcr;clear hcr;go_wp2_with fail
        refine HC.out.mono ?_;rintro e w6 ⟨rfl,hb6⟩;have A6:=hid (A5.out.step hb6);clear hb6 HC A5 BX5 hw5 q1;go_wp2_with fail
        refine (HL.out _).mono ?_;rintro e w7 ⟨A8,c8,rfl,hown7,hb7⟩;have A7:=hid (A6.out.step hb7);have HO7:=hid hown7;have hs7:=A7.out.below.size;clear hown7 hb7 A6 HL;go_wp2_with (at_builtin;refine Fd.zah _ rfl _ _ 22 rfl w.heap.size 5 i0 (.int .u8 0) 1 underlying22 hi hz0 hz1 hz2 rfl _ acc4.length _ rfl A7.out.own A8 3 c8 (Fd.bys (w24 cr)) rfl (Fd.Seg.of_own HO7.out) (Fd.zaV _) ?f1 ?f2 hs7 ?_)
        case f1=>unfold maxLen;omega
        case f2=>omega
        intro v8 w8 hown8 hg8;have A9:=hid (A7.out.put hg8 hown8);clear hown8 hg8 A7 HO7;have HAC2:Hid (acc4++w24 cr=[84,82,73,86,1,UInt8.ofNat xs.length]++hdsB ((secs xs).take (k+1))):=by
         show acc4++w24 cr=_;rw[HT.out,zgR,<-List.append_assoc,<-HAC.out,<-HACC4.out,<-HACC2.out,<-HCR.out];unfold Bx.hdB;simp only[List.append_assoc,List.cons_append,List.nil_append]
        have HAL2:Hid ((acc4++w24 cr).length=6+7*(k+1)):=by
         show (acc4++w24 cr).length=_;rw[<-HACC4.out,<-HACC2.out];simp only[List.length_append,List.length_cons,List.length_nil];have e:∀n,(w24 n).length=3:=fun _=>rfl;rw[e,e,HAL.out];omega
        clear HX HACC HACC2 HACC4 HCR HT HD;go_wp2;go_round
        case measure=>simp[RowKit.intOf];omega
        case rel=>exact ⟨k+1,sz+body.length,id,_,by omega,by go_num,by go_num,rfl,g3,by omega,HAL2,A9.out,HAC2,HMAY2⟩
    · obtain rfl:k=xs.length:=by omega
      have HM:Hid (MayB (secs xs)):=HMAY.out.2 (by
       rw[List.drop_of_length_le (by rw[zaD];exact nL)];exact ⟨trivial,by show sz+0<=100000;omega⟩)
      have HH:Hid (acc=headB (secs xs)):=by
       show acc=headB (secs xs);rw[HAC.out,List.take_of_length_le (by rw[zaD];exact nL)];unfold headB;rw[zaD]
      obtain ⟨A4,c4,rfl⟩:=Fd.zac hacc.own;have hc4:=Fd.own_le' hacc.own;obtain ⟨w5,hw5⟩:∃w5,wr.alloc (.cells #[.slice A4 acc.length c4] 22)=w5:=⟨_,rfl⟩;have hb5:Below wr.heap.size wr w5:=(by rw[<-hw5];exact br.alloc nL _);have hA5:=hacc.step hb5;have HC:=hid (zg0 w5 A4 acc.length c4 acc wr.heap.size (by rw[<-hw5];simp) (Fd.Seg.of_own hA5.own) rfl hc4 (by omega));have A5:=hid hA5;have HL:=hid fun w=>zcR (crcN acc) w;clear hacc hb5 hA5 HMAY HAC HAL;generalize hcr:crcN acc=cr at HC HL;have HCR:=hid hcr;clear hcr;go_wp2_with fail
      refine HC.out.mono ?_;rintro e w6 ⟨rfl,hb6⟩;have A6:=hid (A5.out.step hb6);clear hb6 HC A5 hw5;go_wp2_with fail
      refine (HL.out _).mono ?_;rintro e w7 ⟨A8,c8,rfl,hown7,hb7⟩;have A7:=hid (A6.out.step hb7);have HO7:=hid hown7;have hs7:=A7.out.below.size;clear hown7 hb7 A6 HL;go_wp2_with (at_builtin;refine Fd.zah _ rfl _ _ 22 rfl w.heap.size 5 i0 (.int .u8 0) 1 underlying22 hi hz0 hz1 hz2 rfl _ acc.length _ rfl A7.out.own A8 3 c8 (Fd.bys (w24 cr)) rfl (Fd.Seg.of_own HO7.out) (Fd.zaV _) ?f1 ?f2 hs7 ?_)
      case f1=>unfold maxLen;omega
      case f2=>omega
      intro v8 w8 hown8 hg8;have A9:=hid (A7.out.put hg8 hown8);have hl9:(acc++w24 cr).length<=65:=(by rw[List.length_append];show acc.length+3<=65;omega);have HH2:Hid (acc++w24 cr=headB (secs xs)++w24 (crcN (headB (secs xs)))):=by
       show acc++w24 cr=_;rw[<-HCR.out,HH.out]
      clear hown8 hg8 A7 HO7 HCR HH;generalize acc++w24 cr=acc9 at A9 hl9 HH2;go_wp2;go_loopw [4,80] (fun v4 v80 wr=>∃(k:Nat) (acc:List UInt8),k<=xs.length/\v80=.int .i64 k/\acc.length<=65+100000*k/\Acc w wr v4 acc/\Hid (acc=acc9++bodB ((secs xs).take k))) (fun _ v80 _=>xs.length-(RowKit.intOf v80).toNat)
      case atStart=>exact ⟨0,acc9,Nat.zero_le _,rfl,by omega,A9.out,hid (by show acc9=acc9++[];rw[List.append_nil])⟩
      case round=>
       clear A9;obtain ⟨k,acc,hk2,rfl,hal2,hacc,HAC⟩:=hrel;by_cases hlt:k<xs.length
       · obtain ⟨x,hx⟩:∃x,xs[k]?=some x:=⟨_,List.getElem?_eq_getElem hlt⟩;have hrow:=HROW.out wr hacc.below;obtain ⟨g,rfl,hg,hcap⟩:=zbn hrow.own (by omega);obtain ⟨a0,a1⟩:=hrow.at_ k x hx;have hxm:x∈xs:=List.mem_of_getElem? hx;obtain ⟨hb1,hb2⟩:=HBS.out x hxm;have HT:=hid (zcg xs k x hx);have HX:=hid hxm;obtain ⟨id,Ab,cb,body⟩:=x;unfold SecV.sec at HT;simp only at a0 a1 hb1 hb2 HT;obtain ⟨wa,hwa⟩:∃wa,wr.alloc (.cells #[.int .i64 id,.slice Ab body.length cb] 53)=wa:=⟨_,rfl⟩;have hba:Below wr.heap.size wr wa:=(by rw[<-hwa];exact br.alloc nL _);have b0:wa.cell? ⟨wr.heap.size,0,none⟩=some (.int .i64 id):=(by rw[<-hwa];simp);have b1:wa.cell? ⟨wr.heap.size,1,none⟩=some (.slice Ab body.length cb):=(by rw[<-hwa];simp);have hA1:=hid (hacc.step hba);have hs1:=hA1.out.below.size;have HSEG:=hid ((HROW.out wa hA1.out.below).part ⟨id,Ab,cb,body⟩ HX.out).1;clear hrow hx hxm hacc hba;go_wp2_with (at_builtin;refine Fd.zah _ rfl _ _ 22 rfl w.heap.size 5 i0 (.int .u8 0) 1 underlying22 hi hz0 hz1 hz2 rfl _ acc.length _ rfl hA1.out.own Ab body.length cb (Fd.bys body) rfl HSEG.out (Fd.zaV _) ?g1 ?g2 hs1 ?_)
         case g1=>unfold maxLen;omega
         case g2=>omega
         intro v8 w8 hown8 hg8;have A9:=hid (hA1.out.put hg8 hown8);have HAC2:Hid (acc++body=acc9++bodB ((secs xs).take (k+1))):=by
          show acc++body=_;rw[HT.out,zg8,<-List.append_assoc,<-HAC.out]
         have hal3:(acc++body).length<=65+100000*(k+1):=(by rw[List.length_append];omega);clear hown8 hg8 hA1 HSEG HX HT HAC b0 b1 hwa;go_wp2;go_round
         case measure=>simp[RowKit.intOf];omega
         case rel=>exact ⟨k+1,_,by omega,by go_num,hal3,A9.out,HAC2⟩
       · obtain rfl:k=xs.length:=(by omega);have HE:Hid (acc=boxB (secs xs)):=by
          show acc=boxB (secs xs);rw[HAC.out,HH2.out,List.take_of_length_le (by rw[zaD];exact nL)];rfl
         have HA:=hid hacc;clear hacc HAC HH2;go_wp2;go_ret2;obtain ⟨A5,c5,rfl⟩:=Fd.zac HA.out.own;refine ⟨.inl ⟨HM.out,A5,c5,?_,?_⟩,HA.out.below⟩
         · rw[<-HE.out];rfl
         · rw[<-HE.out];exact HA.out.own
 · have HNO:Hid (¬MayB (secs xs)):=fun m=>(by have:=m.1;omega);have hnz:(8:Int)<(xs.length:Int):=(by omega);clear hsl;go_enter func37,ntmps37
   go_wp2;go_ret2;exact PackAns.no HNO.out rfl br
end Go.Proofs.YtjcpjopbgngihaaGreatDoor
end
section
namespace Go.Proofs.YtjcpjopbgngihaaGreatDoor
open Tryz
open Go.RowKit Go.Lib Tv Go.Sort
theorem zew (x:Ids) (w:World):Calls prog 86 #[.agg #[.int .i64 0,.int .i64 0,.int .i64 0],.agg (encI x).toArray] w fun e w'=>e=.returned (.bool true)/\Below w.heap.size w w':=by
 obtain ⟨wa,hwa⟩:∃wa,w.alloc (.cells #[.int .i64 0,.int .i64 0,.int .i64 0] 86)=wa:=⟨_,rfl⟩;obtain ⟨wb,hwb⟩:∃wb,wa.alloc (.cells #[.int .i64 x.a,.int .i64 x.b,.int .i64 x.c] 86)=wb:=⟨_,rfl⟩;have hba:Below w.heap.size w wa:=(by rw[<-hwa];exact br.alloc nL _);have hbb:Below wa.heap.size wa wb:=(by rw[<-hwb];exact br.alloc nL _);have hx:Cell3I wb w.heap.size ⟨0,0,0⟩:=by
  have:Cell3I wa w.heap.size ⟨0,0,0⟩:=(by rw[<-hwa];exact ⟨by simp,by simp,by simp⟩);exact ⟨zaa this.1 hbb,zaa this.2.1 hbb,zaa this.2.2 hbb⟩
 obtain ⟨c0,c1,c2⟩:=hx;simp only at c0 c1 c2;have HB:=hid (hba.trans (hbb.mono hba.size));clear hba hbb;have i0:∀w,Sem.run prog (Instr.index 86 (.agg #[.int .i64 0,.int .i64 0,.int .i64 0]) (.int .i64 0)) w=.ok (.int .i64 0) w:=fun w=>(by rfl);have i1:∀w,Sem.run prog (Instr.index 86 (.agg #[.int .i64 0,.int .i64 0,.int .i64 0]) (.int .i64 1)) w=.ok (.int .i64 0) w:=fun w=>(by rfl);have i2:∀w,Sem.run prog (Instr.index 86 (.agg #[.int .i64 0,.int .i64 0,.int .i64 0]) (.int .i64 2)) w=.ok (.int .i64 0) w:=fun w=>(by rfl);unfold encI;go_enter func86,ntmps86
 go_wp2;go_loopw [8] (fun i wr=>Hid (wr=wb)/\∃(k:Nat),i=.int .i64 k/\(k=0\/k=1\/k=2\/k=3)) (fun i _=>3-(RowKit.intOf i).toNat)
 case atStart=>exact ⟨(rfl:wb=wb),0,rfl,.inl rfl⟩
 case round=>
  obtain ⟨hw,k,rfl,hk⟩:=hrel;have HW:=hw;clear hw;rcases hk with rfl | rfl | rfl | rfl
  · go_wp2;go_round
    case measure=>decide
    case rel=>exact ⟨HW,1,rfl,.inr (.inl rfl)⟩
  · go_wp2;go_round
    case measure=>decide
    case rel=>exact ⟨HW,2,rfl,.inr (.inr (.inl rfl))⟩
  · go_wp2;go_round
    case measure=>decide
    case rel=>exact ⟨HW,3,rfl,.inr (.inr (.inr rfl))⟩
  · go_wp2;go_ret;rw[HW.out];exact ⟨rfl,HB.out⟩
theorem zeH (p:Nat) (x:Ids) (w:World) (hp:Cell3I w p ⟨0,0,0⟩):Calls prog 85 #[.agg (encI x).toArray,.pointer (some ⟨p,0,none⟩)] w fun e w'=>e=.returned (.bool false)/\Below w.heap.size w w':=by
 have HM:=hid fun w=>zew x w;obtain ⟨wa,hwa⟩:∃wa,w.alloc (.cells #[.int .i64 x.a,.int .i64 x.b,.int .i64 x.c] 86)=wa:=⟨_,rfl⟩;have hba:Below w.heap.size w wa:=(by rw[<-hwa];exact br.alloc nL _);have p0:=zaa hp.1 hba;have p1:=zaa hp.2.1 hba;have p2:=zaa hp.2.2 hba;simp only at p0 p1 p2;have b0:wa.cell? ⟨w.heap.size,0,none⟩=some (.int .i64 x.a):=(by rw[<-hwa];simp);have b1:wa.cell? ⟨w.heap.size,1,none⟩=some (.int .i64 x.b):=(by rw[<-hwa];simp);have b2:wa.cell? ⟨w.heap.size,2,none⟩=some (.int .i64 x.c):=(by rw[<-hwa];simp);have HB:=hid hba;clear hba hp;unfold encI at HM ⊢;go_enter func85,ntmps85
 go_wp2_with fail
 refine (HM.out _).mono ?_;rintro e w1 ⟨rfl,hb1⟩;go_wp2;go_ret;exact ⟨rfl,HB.out.trans (hb1.mono HB.out.size)⟩
def RowI (w:World) (B:Nat) (v:Value) (l:List Ids):Prop:=w.ownsRow B 86 3 v l.length (l.flatMap encI)
theorem RowI.below {w w1:World} {B:Nat} {v:Value} {l:List Ids} (h:RowI w B v l) (hb:Below w.heap.size w w1):RowI w1 B v l:=(Fr.of_below hb fun _=>False).own h fun _ _ h=>h
theorem RowI.le {w:World} {B B':Nat} {v:Value} {l:List Ids} (h:RowI w B v l) (hB:B'<=B):RowI w B' v l:=by
 obtain ⟨h1,h⟩:=h;rcases h with h | ⟨g,cap,cur,hv,hg,r⟩
 · exact ⟨h1,.inl h⟩
 · exact ⟨h1,.inr ⟨g,cap,cur,hv,Nat.le_trans hB hg,r⟩⟩
theorem zbD:∃i,prog.info? 86=some i/\i.zero=some (.agg #[.int .i64 0,.int .i64 0,.int .i64 0])/\i.size=3/\i.bytes=24:=
 info_parts (by kernel_rfl)
theorem zc8 (l:List Ids) (v:Value) (B:Nat) (w:World) (h:RowI w B v l) (hl:l.length<=100000) :
    Calls prog 84 #[v] w fun e w'=>∃v',e=.returned v'/\RowI w' w.heap.size v' l/\Below w.heap.size w w':=by
 rcases zai h with ⟨rfl,hn⟩ | ⟨g,cap,rfl,hB,hg,hc,hcell⟩
 · obtain rfl:l=[]:=List.eq_nil_of_length_eq_zero hn;refine (AnyE.slices_Clone_nil (P:=prog) Tryz.cloneI 0 0 w).mono ?_;rintro e w' ⟨rfl,rfl⟩;exact ⟨_,rfl,World.ownsRow_nil _ _ _ _,br⟩
 · obtain ⟨i0,hi,hz0,hz1,hz2⟩:=zbD;have:=AnyE.slices_Clone (P:=prog) Tryz.cloneI i0 _ 3 24 hi hz0 hz1 hz2 rfl (by decide) Tryz.sizeOf86 g 0 l.length cap (l.flatMap encI) w h.1 (by unfold maxLen;omega) (by omega) (fun j u hj=>by rw[Nat.zero_add];exact hcell j u hj) (fun u hu=>by
    rw[List.mem_flatMap]at hu;obtain ⟨x,_,hx⟩:=hu;exact ziZ x u hx)
   refine Calls.mono this ?_;rintro e w' ⟨v',rfl,hown,_,hb⟩;exact ⟨v',rfl,hown,hb⟩
theorem zm0 (l:List Ids):Lib.idxBy (fun _ (_:Ids)=>false) l default = -1:=by
 unfold Lib.idxBy;generalize 0=i;induction l generalizing i with
 | nil=>rfl
 | cons x l ih=>
  unfold Lib.idxByFrom;rw[if_neg (by decide)];exact ih _
theorem zm1 (fv:Value) (w:World):Calls prog 129 #[.slice none 0 0,fv] w fun e w'=>e=.returned (.int .i64 (-1))/\w'=w:=by
 go_enter func129,ntmps129
 go_wp2;refine wp_loop_rounds 1 ?_;rw[rounds_succ];go_wp2;go_ret;exact ⟨rfl,rfl⟩
theorem zng:∀args w,(callFunc 85 args).run prog w=.ok (.enter 85 args) w:=enters_of func85 (by kernel_rfl) rfl
theorem zjH (l:List Ids) (v:Value) (B p:Nat) (w:World) (h:RowI w B v l) (hl:l.length<=100000) (hp:Cell3I w p ⟨0,0,0⟩) :
    Calls prog 129 #[v,.func (.func 85) #[] #[.pointer (some ⟨p,0,none⟩)]] w fun e w'=>e=.returned (.int .i64 (-1))/\Below w.heap.size w w':=by
 rcases zai h with ⟨rfl,hn⟩ | ⟨g,cap,rfl,hB,hg,hc,hcell⟩
 · refine (zm1 _ w).mono ?_;rintro e w' ⟨rfl,rfl⟩;exact ⟨rfl,br⟩
 · have:=AnyQ.slices_IndexFunc (P:=prog) Tryz.idxI 3 Tryz.isAgg86 Tryz.sizeOf86 encI zbS (fun _=>false) 85 #[.pointer (some ⟨p,0,none⟩)] zng g 0 l.length cap l w
    (fun W x hW=>(zeH p x W ⟨zaa hp.1 hW,zaa hp.2.1 hW,zaa hp.2.2 hW⟩).mono fun e w' h=>⟨h.1,hW.trans (h.2.mono hW.size)⟩) nL (by omega) hg (fun j hj i v hi=>by
     have hi3:i<3:=by
      have:=(List.getElem?_eq_some_iff.1 hi).1;exact this
     rw[Nat.zero_add];refine hcell (j*3+i) v ?_;rw[zaN zbS l (j*3+i) (by omega),show (j*3+i) / 3=j from by omega,show (j*3+i) % 3=i from by omega,List.getD_eq_getElem?_getD];rw[getElem!_pos l j hj]at hi;rw[List.getElem?_eq_getElem hj];exact hi)
   rw[List.take_length,zm0]at this;exact this
theorem zfO (l:List Ids) (v:Value) (B p:Nat) (w:World) (h:RowI w B v l) (hl:l.length<=100000) (hp:Cell3I w p ⟨0,0,0⟩) :
    Calls prog 83 #[v,.func (.func 85) #[] #[.pointer (some ⟨p,0,none⟩)]] w fun e w'=>e=.returned v/\Below w.heap.size w w':=by
 have HI:=hid (zjH l v B p w h hl hp);clear h hp;go_enter func83,ntmps83
 go_wp2_with fail
 refine HI.out.mono ?_;rintro e w1 ⟨rfl,hb⟩;go_wp2;go_ret;exact ⟨rfl,hb⟩
theorem zfx (l:List Ids) (v:Value) (B R:Nat) (w:World) (hR:w.cell? ⟨R,3,none⟩=some v) (h:RowI w B v l) (hl:l.length<=100000) :
    Calls prog 34 #[.pointer (some ⟨R,0,none⟩),.agg #[.int .i64 0,.int .i64 0,.int .i64 0]] w fun e w'=>∃v',e=.returned v'/\RowI w' w.heap.size v' l/\Below w.heap.size w w':=by
 obtain ⟨wa,hwa⟩:∃wa,w.alloc (.cells #[.int .i64 0,.int .i64 0,.int .i64 0] 86)=wa:=⟨_,rfl⟩;have hba:Below w.heap.size w wa:=(by rw[<-hwa];exact br.alloc nL _);have hx:Cell3I wa w.heap.size ⟨0,0,0⟩:=(by rw[<-hwa];exact ⟨by simp,by simp,by simp⟩);have hRa:=zaa hR hba;have HC:=hid (zc8 l v B wa (h.below hba) hl);have HX:=hid hx;have HB:=hid hba;clear hx hba h hR;go_enter func34,ntmps34
 go_wp2_with fail
 refine HC.out.mono ?_;rintro e w1 ⟨v1,rfl,hrow,hb1⟩;have HD:=hid (zfO l v1 _ w.heap.size w1 hrow hl ⟨zaa HX.out.1 hb1,zaa HX.out.2.1 hb1,zaa HX.out.2.2 hb1⟩);have HROW:=hid hrow;clear hrow;go_wp2_with fail
 refine HD.out.mono ?_;rintro e w2 ⟨rfl,hb2⟩;go_wp2;go_ret;refine ⟨v1,rfl,(HROW.out.below hb2).le HB.out.size,?_⟩;have h2:=hb1.trans (hb2.mono hb1.size);exact HB.out.trans (h2.mono HB.out.size)
end Go.Proofs.YtjcpjopbgngihaaGreatDoor
end
section
namespace Go.Proofs.YtjcpjopbgngihaaGreatDoor
open Tryz
open Go.RowKit Go.Lib Tv Go.Sort Mg
theorem zeu {β:Type} [Inhabited β] {lt:β->β->Bool} (hT:∀x y,lt x y=false->lt y x=false->x=y) {r:List β} (hs:SortedIn lt 0 r.length r.toArray) (hn:r.Nodup):Rise lt r:=by
 unfold Rise;rw[List.pairwise_iff_getElem];intro i j hi hj hij;have h1:lt (r.toArray[j]!) (r.toArray[i]!)=false:=hs i j (Nat.zero_le _) hij hj;rw[getElem!_pos r.toArray j (by simpa using hj),getElem!_pos r.toArray i (by simpa using hi)]at h1;simp only[List.getElem_toArray]at h1;cases h2:lt r[i] r[j] with
 | true=>rfl
 | false=>
  have:=hT _ _ h2 h1;have:=(List.getElem_inj hn).1 this;omega
theorem ltM_eq (x y:VTm) (h1:ltOf cmpM x y=false) (h2:ltOf cmpM y x=false):x=y:=by
 unfold ltOf cmpM cmpT at h1 h2;rw[decide_eq_false_iff_not,zbB]at h1 h2;rcases zeN (shw x.1) (shw y.1) with h | h | h
 · exact absurd h h1
 · exact Subtype.ext (zb5 x.2 y.2 h)
 · exact absurd h h2
theorem ltI_eq (x y:Ids) (h1:ltOf cmpIds x y=false) (h2:ltOf cmpIds y x=false):x=y:=by
 unfold ltOf at h1 h2;rw[decide_eq_false_iff_not,ze9]at h1 h2;unfold ILt at h1 h2;have a:x.a=y.a:=(by omega);have b:x.b=y.b:=(by omega);have c:x.c=y.c:=(by omega);obtain ⟨_,_,_⟩:=x;obtain ⟨_,_,_⟩:=y;simp only at a b c;simp only[a,b,c]
theorem zn5 (blk off size:Nat) (w:World):CmpLays prog 61 #[] encM 3 cmpM blk off size w:=by
 intro m os dk _ x y;exact Dr.calls_grow (zg3 x.1 y.1 x.sml y.sml _)
theorem zlD:∀args w,(callFunc 65 args).run prog w=.ok (.enter 65 args) w:=enters_of func65 (by kernel_rfl) rfl
def Sorts {α:Type} [Inhabited α] (lt:α->α->Bool) (enc:α->List Value) (ty:TypeId) (k B:Nat) (v:Value) (l:List α) (w w':World):Prop:=
 ∃r:List α,w'.ownsRow B ty k v r.length (r.flatMap enc)/\r.length=l.length/\r.Perm l/\SortedIn lt 0 r.length r.toArray/\Fr w w' (fun j=>v.ownBlock=some j)
theorem ziq {α:Type} [Inhabited α] {lt:α->α->Bool} {enc:α->List Value} {k:Nat} (hk:∀x,(enc x).length=k) {ty:TypeId} {B n g cap:Nat} {d:Array α} {w w':World} (hn:d.size=n) (h:w.ownsRow B ty k (.slice (some ⟨g,0,none⟩) n cap) n (d.toList.flatMap enc))
    {r:Array α} {m:Nat} {os:Array Obj} (hp:PermIn 0 d.size d r) (hs:SortedIn lt 0 d.size r) (hw:w'=sortWorldK enc k w g 0 m r os):Sorts lt enc ty k B (.slice (some ⟨g,0,none⟩) n cap) d.toList w w':=by
 have hrs:r.size=d.size:=hp.1;have how:=za8 hk hn h hrs ⟨m,os,hw⟩;refine ⟨r.toList,by rw[Array.length_toList,hrs,hn];exact how.1,by rw[Array.length_toList,Array.length_toList,hrs],?_,by rw[Array.length_toList,hrs];exact hs,how.2.mono fun j _ hj=>?_⟩
 · have h2:=hp.2.2;have e1:(r.extract 0 d.size).toList=r.toList:=(by rw[<-hrs];simp);have e2:(d.extract 0 d.size).toList=d.toList:=(by simp);rw[e1,e2]at h2;exact h2
 · rw[hj];rfl
theorem zge {α:Type} [Inhabited α] {lt:α->α->Bool} {enc:α->List Value} {k:Nat} {ty:TypeId} {B:Nat} (w:World):Sorts lt enc ty k B (.slice none 0 0) [] w w:=
 ⟨[],World.ownsRow_nil _ _ _ _,rfl,List.Perm.refl _,fun _ j _ _ h=>absurd h (Nat.not_lt_zero j),Fr.refl _ _⟩
theorem zhu (l:List VTm) (v:Value) (B:Nat) (w:World) (h:RowM w B v l) (hl:l.length<=100000) :
    Calls prog 60 #[v,.func (.func 61) #[] #[]] w fun e w'=>e=.returned (.tuple #[])/\Sorts (ltOf cmpM) encM 82 3 B v l w w':=by
 rcases zai h with ⟨rfl,hn⟩ | ⟨g,cap,rfl,hB,hg,hc,_⟩
 · obtain rfl:l=[]:=List.eq_nil_of_length_eq_zero hn;refine (AnyF.slices_SortFunc_none (P:=prog) Tryz.sortT none 0 (.func (.func 61) #[] #[]) w).mono ?_;rintro e w' ⟨rfl,rfl⟩;exact ⟨rfl,zge _⟩
 · obtain ⟨d,hd⟩:∃d:Array VTm,d.toList=l:=⟨l.toArray,by simp⟩;have hds:d.size=l.length:=(by rw[<-hd,Array.length_toList]);have hown:w.ownsRow B 82 3 (.slice (some ⟨g,0,none⟩) l.length cap) l.length (d.toList.flatMap encM):=(by rw[hd];exact h);obtain ⟨hH,_,_⟩:=zbp zbk hds hown;have hS:=AnyQ.slices_SortFunc (P:=prog) Tryz.sortT 3 Tryz.isAgg82 Tryz.sizeOf82 encM zbk zbA cmpM swoM 61 #[] g 0 cap d w zh2 (zn5 _ _ _ _) hH hg (by omega);rw[hds]at hS;refine Calls.mono hS ?_;rintro e w' ⟨rfl,r,m,os,hp,hs,hw⟩;rw[<-hds]at hp hs;have:=ziq (lt:=ltOf cmpM) zbk hds hown hp hs hw;rw[hd]at this;exact ⟨rfl,this⟩
theorem zhv (l:List Ids) (v:Value) (B:Nat) (w:World) (h:RowI w B v l) (hl:l.length<=100000) :
    Calls prog 64 #[v,.func (.func 65) #[] #[]] w fun e w'=>e=.returned (.tuple #[])/\Sorts (ltOf cmpIds) encI 86 3 B v l w w':=by
 rcases zai h with ⟨rfl,hn⟩ | ⟨g,cap,rfl,hB,hg,hc,_⟩
 · obtain rfl:l=[]:=List.eq_nil_of_length_eq_zero hn;refine (AnyF.slices_SortFunc_none (P:=prog) Tryz.sortI none 0 (.func (.func 65) #[] #[]) w).mono ?_;rintro e w' ⟨rfl,rfl⟩;exact ⟨rfl,zge _⟩
 · obtain ⟨d,hd⟩:∃d:Array Ids,d.toList=l:=⟨l.toArray,by simp⟩;have hds:d.size=l.length:=(by rw[<-hd,Array.length_toList]);have hown:w.ownsRow B 86 3 (.slice (some ⟨g,0,none⟩) l.length cap) l.length (d.toList.flatMap encI):=(by rw[hd];exact h);obtain ⟨hH,_,_⟩:=zbp zbS hds hown;have hS:=AnyQ.slices_SortFunc (P:=prog) Tryz.sortI 3 Tryz.isAgg86 Tryz.sizeOf86 encI zbS ziZ cmpIds swoI 65 #[] g 0 cap d w zlD (zjy _ _ _ _) hH hg (by omega);rw[hds]at hS;refine Calls.mono hS ?_;rintro e w' ⟨rfl,r,m,os,hp,hs,hw⟩;rw[<-hds]at hp hs;have:=ziq (lt:=ltOf cmpIds) zbS hds hown hp hs hw;rw[hd]at this;exact ⟨rfl,this⟩
theorem zjl (l:List Ids) (v:Value) (B:Nat) (w:World) (h:RowI w B v l) (hl:l.length<=100000) (hr:Rise (ltOf cmpIds) l) :
    Calls prog 64 #[v,.func (.func 65) #[] #[]] w fun e w'=>e=.returned (.tuple #[])/\RowI w' B v l/\Fr w w' (fun j=>v.ownBlock=some j):=by
 refine (zhv l v B w h hl).mono ?_;rintro e w' ⟨rfl,r,hown,_,hp,hs,hf⟩;have hn:l.Nodup:=List.Pairwise.imp (fun {a b} hab e=>by rw[e,swoI.irrefl b]at hab;cases hab) hr;have hrr:=zeu ltI_eq hs (hp.nodup_iff.2 hn);obtain rfl:r=l:=zde swoI hrr hr fun x=>hp.mem_iff;exact ⟨rfl,hown,hf⟩
theorem zfQ (p:Option Addr) (cap:Nat) (w:World):Calls prog 62 #[.slice p 0 cap] w fun e w'=>e=.returned (.slice p 0 cap)/\w'=w:=by
 go_enter func62,ntmps62
 go_wp2;go_ret;exact ⟨rfl,rfl⟩
theorem zeE (l:List VTm) (v:Value) (B:Nat) (w:World) (h:RowM w B v l) (hl:l.length<=100000) (hs:SortedIn (ltOf cmpM) 0 l.length l.toArray) :
    Calls prog 62 #[v] w fun e w'=>∃v' r,e=.returned v'/\RowM w' B v' r/\Rise (ltOf cmpM) r/\(∀x,x∈r↔x∈l)/\Fr w w' (fun j=>v.ownBlock=some j):=by
 rcases zai h with ⟨rfl,hn⟩ | ⟨g,cap,rfl,hB,hg,hc,_⟩
 · obtain rfl:l=[]:=List.eq_nil_of_length_eq_zero hn;refine (zfQ none 0 w).mono ?_;rintro e w' ⟨rfl,rfl⟩;exact ⟨_,[],rfl,World.ownsRow_nil _ _ _ _,List.Pairwise.nil,fun x=>Iff.rfl,Fr.refl _ _⟩
 · obtain ⟨d,hd⟩:∃d:Array VTm,d.toList=l:=⟨l.toArray,by simp⟩;have hds:d.size=l.length:=(by rw[<-hd,Array.length_toList]);have hown:w.ownsRow B 82 3 (.slice (some ⟨g,0,none⟩) d.size cap) d.size (d.toList.flatMap encM):=(by rw[hd,hds];exact h);have hF:=zeD 3 (by decide) Tryz.isAgg82 Tryz.sizeOf82 encM zh0 zmL g cap B d w zbk zbA (by omega) _ Tryz.zeroValue82 rfl (by decide) hown;rw[hds]at hF;refine Calls.mono hF ?_;rintro e w' ⟨rfl,hrow,hf⟩;have hsd:SortedIn (ltOf cmpM) 0 d.size d:=(by rw[hds,show d=l.toArray from by rw[<-hd]];exact hs);have hcr:=zbK swoM ltM_eq d hsd l.length (by omega);refine ⟨_,compactUpTo d l.length,rfl,hrow,hcr.1,fun x=>?_,hf.mono fun j _ hj=>by rw[hj];rfl⟩;rw[hcr.2,<-hd,zkV,hds,hd]
end Go.Proofs.YtjcpjopbgngihaaGreatDoor
end
section
namespace Go.Proofs.YtjcpjopbgngihaaGreatDoor
open Tryz
open Go.RowKit Go.Lib Tv Go.Sort
theorem zem (n:Int) (h1:1<=n) (h2:n<=1000) (w:World):Calls prog 113 #[.int .i64 n] w fun e w'=>e=.returned (.bool false)/\w'=w:=by
 have d1:decide (n<1)=false:=dF (by omega);have d2:decide (1000<n)=false:=dF (by omega);go_enter func113,ntmps113
 go_wp2;go_ret;exact ⟨rfl,rfl⟩
theorem zoM:∀args w,(callFunc 113 args).run prog w=.ok (.enter 113 args) w:=enters_of func113 (by kernel_rfl) rfl
def Num (x:Ids):Prop:=(1<=x.a/\x.a<=1000)/\(1<=x.b/\x.b<=1000)/\(1<=x.c/\x.c<=1000)
theorem zjI (p:Nat) (x:Ids) (w:World) (hp:Cell3I w p x) (hx:Num x) :
    Calls prog 166 #[.slice (some ⟨p,0,none⟩) 3 3,.func (.func 113) #[] #[]] w fun e w'=>e=.returned (.int .i64 (-1))/\w'=w:=by
 obtain ⟨a1,a2,a3⟩:=hp;obtain ⟨⟨h1,h2⟩,⟨h3,h4⟩,⟨h5,h6⟩⟩:=hx;have H1:=hid fun w=>zem x.a h1 h2 w;have H2:=hid fun w=>zem x.b h3 h4 w;have H3:=hid fun w=>zem x.c h5 h6 w;clear h1 h2 h3 h4 h5 h6;have hent:=zoM;obtain ⟨xa,xb,xc⟩:=x;simp only at a1 a2 a3 H1 H2 H3;go_enter func166,ntmps166
 go_wp2;go_loopw [8] (fun i wr=>Hid (wr=w)/\∃(k:Nat),i=.int .i64 k/\(k=0\/k=1\/k=2\/k=3)) (fun i _=>3-(RowKit.intOf i).toNat)
 case atStart=>exact ⟨(rfl:w=w),0,rfl,.inl rfl⟩
 case round=>
  obtain ⟨hw,k,rfl,hk⟩:=hrel;obtain rfl:wr=w:=hw.out;clear hw;rcases hk with rfl | rfl | rfl | rfl
  · go_wp2_with fail
    refine (H1.out _).mono ?_;rintro e w1 ⟨rfl,rfl⟩;go_wp2;go_round
    case measure=>decide
    case rel=>exact ⟨trivial,1,rfl,.inr (.inl rfl)⟩
  · go_wp2_with fail
    refine (H2.out _).mono ?_;rintro e w1 ⟨rfl,rfl⟩;go_wp2;go_round
    case measure=>decide
    case rel=>exact ⟨trivial,2,rfl,.inr (.inr (.inl rfl))⟩
  · go_wp2_with fail
    refine (H3.out _).mono ?_;rintro e w1 ⟨rfl,rfl⟩;go_wp2;go_round
    case measure=>decide
    case rel=>exact ⟨trivial,3,rfl,.inr (.inr (.inr rfl))⟩
  · go_wp2;go_ret;exact ⟨rfl,rfl⟩
theorem zh4 (p:Nat) (x:Ids) (w:World) (hp:Cell3I w p x) (hx:Num x) :
    Calls prog 114 #[.slice (some ⟨p,0,none⟩) 3 3,.func (.func 113) #[] #[]] w fun e w'=>e=.returned (.bool false)/\w'=w:=by
 have HI:=hid (zjI p x w hp hx);clear hp hx;go_enter func114,ntmps114
 go_wp2_with fail
 refine HI.out.mono ?_;rintro e w1 ⟨rfl,rfl⟩;go_wp2;go_ret;exact ⟨rfl,rfl⟩
end Go.Proofs.YtjcpjopbgngihaaGreatDoor
end
section
namespace Go.Proofs.YtjcpjopbgngihaaGreatDoor
open Tryz
open Go.RowKit Go.Lib Go.Proofs.YtjcpjopbgngihaaGreatDoorW.PrintWords Pk
open Go.Proofs.YtjcpjopbgngihaaGreatDoor.PTopFile
theorem zkq (X:List Int) (x4:Int) (F:Nat):∀(m i x:Nat),i+m=8->x<16777216->triviumref9_Sum.l1 (F+m+1) X (x:Int) x4 (i:Int)=triviumref9_Sum.l0 F X ((Bx.stpN m x:Nat):Int) (wrap64 (x4+1))
 | 0,i,x,hi,_=>by
  obtain rfl:i=8:=(by omega);rw[triviumref9_Sum.l1,if_neg (by decide)];rfl
 | m+1,i,x,hi,hx=>by
  have c1:(i:Int)<8:=(by omega);have hs:=Bx.zkh hx;have hi1:i+1+m=8:=(by omega);have hi2:i<9223372036854775807:=(by omega);have ih:=zkq X x4 F m (i+1) (Bx.stp x) hi1 hs;have e:F+(m+1)+1=(F+m+1)+1:=rfl;rw[e,triviumref9_Sum.l1,if_pos c1,dbl x hx,w64s i hi2];by_cases h:16777216<=2*x
  · rw[if_pos (by omega)];have hp:Go.bits .xor .i64 ((2*x:Nat):Int) 25578747=((2*x ^^^ Bx.poly:Nat):Int):=xor64 (2*x) 25578747 (by omega) (by decide);rw[hp];have es:Bx.stp x=2*x ^^^ Bx.poly:=(by unfold Bx.stp;rw[if_pos h]);rw[es]at ih;rw[ih,Bx.stpN,es]
  · rw[if_neg (by omega)];have es:Bx.stp x=2*x:=(by unfold Bx.stp;rw[if_neg h]);rw[es]at ih;rw[ih,Bx.stpN,es]
theorem zkr (l:List UInt8) (hl:l.length<=1000000):∀(m i x:Nat),i+m=l.length->x<16777216->
    triviumref9_Sum.l0 (10*m+1) (bInts l) (x:Int) (i:Int)=some ((Bx.crcF x (l.drop i):Nat):Int)
 | 0,i,x,hi,_=>by
  obtain rfl:i=l.length:=(by omega);show triviumref9_Sum.l0 (0+1) _ _ _=_;rw[triviumref9_Sum.l0,zao,if_neg (by omega),List.drop_length,Bx.zi1]
 | m+1,i,x,hi,hx=>by
  have hil:i<l.length:=(by omega);have c1:(i:Int)<(l.length:Int):=(by omega);have c2:(0:Int)<=(i:Int):=(by omega);have hi1:i+1+m=l.length:=(by omega);have hi2:i<9223372036854775807:=(by omega);have hc:=(l[i]).toNat_lt;have ih:=zkr l hl m (i+1) (Bx.crc1 x l[i]) hi1 (Bx.zlL _ hx);have e:10*(m+1)+1=((10*m+1)+8+1)+1:=(by omega);rw[e,triviumref9_Sum.l0,zao,if_pos c1,if_pos c2,ziB l i hil,shl16 _ hc,xor64 x (l[i].toNat*65536) (by omega) (by omega)];have h1:=zkq (bInts l) (i:Int) (10*m+1) 8 0 _ (by omega) (Bx.zlK l[i] hx);have h2:triviumref9_Sum.l1 (10*m+1+8+1) (bInts l) ((x ^^^ l[i].toNat*65536:Nat):Int) (i:Int) 0=triviumref9_Sum.l0 (10*m+1) (bInts l) ((Bx.crc1 x l[i]:Nat):Int) (wrap64 ((i:Int)+1)):=h1;rw[h2,w64s i hi2,ih,List.drop_eq_getElem_cons hil,Bx.zg1]
theorem rsum_f (l:List UInt8) (hl:l.length<=1000000):triviumref9_Sum.f (10*l.length+1) (bInts l)=some ((Bx.crcN l:Nat):Int):=by
 have h:=zkr l hl l.length 0 11994318 (by omega) (by omega);rw[List.drop_zero]at h;exact h
theorem zeO (w:World) (A:Option Addr) (n c:Nat) (l:List UInt8) (hs:Fd.Seg w A n (Fd.bys l)) (hl:l.length=n) (hn:n<=c) (hm:n<=1000000) :
    Calls prog 120 #[.slice A n c] w fun e w'=>e=.returned (.int .i64 (Bx.crcN l:Nat))/\Below w.heap.size w w':=by
 subst hl;have h:=triviumref9_Sum.calls (10*l.length+1) A c (bInts l) ((Bx.crcN l:Nat):Int) w (by rw[zao];exact C_int (by omega) (by rw[zba];exact hs)) (by rw[zao];exact hn) (rsum_f l hm);rw[zao]at h;exact Calls.mono h fun e w' h=>⟨h.1,h.2.below⟩
theorem zb1 (n:Nat) (w:World):Calls prog 119 #[.int .i64 n] w fun e w'=>∃A c,e=.returned (.slice A 3 c)/\w'.ownsRow w.heap.size 5 1 (.slice A 3 c) 3 (Fd.bys (Bx.w24 n))/\Below w.heap.size w w':=by
 refine Calls.mono (triviumref10_three.calls (n:Int) _ w rfl) ?_;rintro e w' ⟨v,rfl,hR,hb⟩;have h1:=R_int hR;obtain ⟨A,c,rfl⟩:=Fd.zac h1;rw[zif]at h1;exact ⟨A,c,rfl,h1,hb⟩
end Go.Proofs.YtjcpjopbgngihaaGreatDoor
end
