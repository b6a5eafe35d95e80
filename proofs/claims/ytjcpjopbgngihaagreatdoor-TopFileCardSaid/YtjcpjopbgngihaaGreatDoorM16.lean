/- Proved on the way: slices.Compact at terms; An item put among rising ones, once: pla; append of any slice's elements behind a . Each theorem states its own conditions. -/
import Derived.Test.YtjcpjopbgngihaaGreatDoorM13
set_option maxHeartbeats 16000000
set_option maxRecDepth 1000000
section
namespace Go.Proofs.YtjcpjopbgngihaaGreatDoor
open Tryz
open Go.RowKit Go.Lib Go.Sort
section
variable {α:Type} [Inhabited α] [DecidableEq α]
theorem zeD (k:Nat) (hk0:0<k) (aE:∀w,(isAgg 82).run prog w=.ok true w) (zE:∀w,(Go.sizeOf 82).run prog w=.ok k w) (enc:α->List Value) (hE:∀x y w,(binOp .eql 82 (.agg (enc x).toArray) (.agg (enc y).toArray)).run prog w=.ok (.bool (decide (x=y))) w) (hN:∀x y w,(binOp .neq 82 (.agg (enc x).toArray) (.agg (enc y).toArray)).run prog w=.ok (.bool (!decide (x=y))) w)
    (blk cap B:Nat) (d:Array α) (w0:World) (hk:∀x,(enc x).length=k) (h1:∀x,∀v∈enc x,v.oneCell'=true) (hsz:d.size<1000000) (zc:Array Value) (hz:∀w,(zeroValue 82).run prog w=.ok (.agg zc) w) (hzk:zc.size=k) (hz1:∀v∈zc,v.oneCell'=true)
    (hown:w0.ownsRow B 82 k (.slice (some ⟨blk,0,none⟩) d.size cap) d.size (d.toList.flatMap enc)) :
    Calls prog 62 #[.slice (some ⟨blk,0,none⟩) d.size cap] w0 fun e w'=>
     e=.returned (.slice (some ⟨blk,0,none⟩) (compactUpTo d d.size).length cap)/\w'.ownsRow B 82 k (.slice (some ⟨blk,0,none⟩) (compactUpTo d d.size).length cap) (compactUpTo d d.size).length ((compactUpTo d d.size).flatMap enc)/\Fr w0 w' (fun j=>j=blk):=by
 have hmix:=mixed;obtain ⟨hH,hblk,_⟩:=zbp hk rfl hown;have hcap:d.size<=cap:=by
  rcases hown.2 with ⟨h,_⟩ | ⟨_,_,_,hv,_,_,h,_⟩
  · cases h
  · cases hv;exact h
 have R:RowK enc k w0 blk 0 d:=⟨hk,h1,hH,hblk⟩;have S0:Aside (SWK enc k w0 blk 0 d w0):=SWK.start hH;have HOWN:=hid hown;have HE:=hid hE;have HNE:=hid hN;have same:∀W,SWK enc k w0 blk 0 d W->(∀j,j<d.size->keeps d j=true)->Ending.returned (.slice (some ⟨blk,0,none⟩) d.size cap)=.returned (.slice (some ⟨blk,0,none⟩) (compactUpTo d d.size).length cap)/\W.ownsRow B 82 k (.slice (some ⟨blk,0,none⟩) (compactUpTo d d.size).length cap) (compactUpTo d d.size).length ((compactUpTo d d.size).flatMap enc)/\Fr w0 W (fun j=>j=blk):=by
  intro W hS hall;have e:compactUpTo d d.size=d.toList:=(by rw[compactUpTo_all d _ hall,range_map_get]);rw[e,Array.length_toList];have:=za8 hk rfl HOWN.out rfl hS;exact ⟨rfl,this.1,this.2⟩
 have SAME:=hid same;clear hown hE hN same;by_cases h2:d.size<2
 · have h2z:(d.size:Int)<2:=(by omega);go_enter func62,ntmps62
   go_wp2;go_ret;exact SAME.out _ S0.out (fun j hj=>keeps_lt_one d j (by omega))
 · have h2z:¬(d.size:Int)<2:=(by omega);go_enter func62,ntmps62
   go_wp2;go_loopg [3] d.size (fun gx s5 wr=>∃q:Nat,1<=q/\q<=d.size/\d.size-q<=gx/\s5=.int .i64 q/\Aside (SWK enc k w0 blk 0 d wr)/\Hid (∀j,j<q->keeps d j=true))
   case atStart=>exact ⟨1,nL,by omega,by omega,rfl,S0,keeps_lt_one d⟩
   case round=>
    clear S0;obtain ⟨q,hq1,hq,hg,rfl,S1,HALL⟩:=hrel;by_cases hlt:q<d.size
    · obtain ⟨qp,rfl⟩:∃qp,q=qp+1:=⟨q-1,by omega⟩;have hltz:(qp:Int)+1<(d.size:Int):=(by omega);have ea:((qp:Int)+1).toNat=qp+1:=(by omega);have pa:(0:Int)<=(qp:Int)+1:=(by omega);have ra:IntKind.i64.wrap ((qp:Int))=(qp:Int):=(wI (by omega));have bc:(qp:Int)<(d.size:Int):=(by omega);obtain ⟨x,hx⟩:∃x,x=d[qp+1]!:=⟨_,rfl⟩;obtain ⟨y,hy⟩:∃x,x=d[qp]!:=⟨_,rfl⟩;have la:=S1.out.ld R rfl prog (qp+1) (by omega);have lb:=S1.out.ld R rfl prog qp (by omega);rw[<-hx,Nat.zero_add]at la;rw[<-hy,Nat.zero_add]at lb;have hc:=HE.out x y;have XY:=hid (And.intro hx hy);clear hx hy;by_cases hxy:x=y
      · rw[dT hxy]at hc;have hdup:keeps d (qp+1)=false:=keeps_neg (by omega) (by rw[Nat.add_sub_cancel,<-XY.out.1,<-XY.out.2,hxy]);have HDUP:=hid hdup;clear hdup hxy;go_wp2_with fail
        go_quiet_grown (fail)
        have S2:Aside (SWK enc k w0 blk 0 d (grow (wr.drewN nq) osq)):=S1.out.grown nq osq;clear la lb hc S1;generalize grow (wr.drewN nq) osq=w2 at S2 ⊢;clear nq osq;go_wp2;generalize hn2:d.size-(qp+1)=n2;generalize cap-(qp+1)=c2;have hn2a:qp+1+n2<=d.size:=(by omega);have hn2b:d.size<=qp+1+n2:=(by omega);clear hn2;go_loopg [3,5] n2 (fun gx s5 s7 wr2=>∃(kk kp:Nat) (dk:Array α),s5=.int .i64 kk/\s7=.int .i64 ((kp:Int)+1)/\kp+1<=n2/\n2-(kp+1)<=gx/\Aside (SWK enc k w0 blk 0 dk wr2)/\Hid (CompInv d (qp+1+(kp+1)) kk dk))
        case atStart=>exact ⟨qp+1,0,d,by go_num,rfl,by omega,by omega,S2,CompInv.start HALL.out HDUP.out⟩
        case round=>
         clear S2;obtain ⟨kk,kp,dk,rfl,rfl,hkn,hg2,S1,HCI⟩:=hrel;have hkk:=HCI.out.lt;have hds:=HCI.out.size;by_cases hlt2:kp+1<n2
         · have hltz2:(kp:Int)+1<(n2:Int):=(by omega);have ea:((kp:Int)+1).toNat=kp+1:=(by omega);have pa:(0:Int)<=(kp:Int)+1:=(by omega);have ra:IntKind.i64.wrap ((kp:Int))=(kp:Int):=(wI (by omega));have bc:(kp:Int)<(n2:Int):=(by omega);have bk:(kk:Int)<(d.size:Int):=(by omega);obtain ⟨u,hu⟩:∃x,x=dk[qp+1+(kp+1)]!:=⟨_,rfl⟩;obtain ⟨v,hv⟩:∃x,x=dk[qp+1+kp]!:=⟨_,rfl⟩;have la:=S1.out.ld R hds prog (qp+1+(kp+1)) (by omega);have lb:=S1.out.ld R hds prog (qp+1+kp) (by omega);rw[<-hu,Nat.zero_add,Nat.add_mul]at la;rw[<-hv,Nat.zero_add,Nat.add_mul]at lb;have hc:=HNE.out u v;have hud:u=d[qp+1+(kp+1)]!:=(by rw[hu];exact HCI.out.high _ (by omega));have hvd:v=d[qp+1+(kp+1)-1]!:=(by rw[hv,show qp+1+(kp+1)-1=qp+1+kp from by omega];exact HCI.out.high _ (by omega));have UV:=hid (And.intro hud hvd);clear hu hv hud hvd;by_cases huv:u=v
           · rw[dT huv]at hc;have HCI2:=hid (HCI.out.skip (keeps_neg (by omega) (by rw[<-UV.out.1,<-UV.out.2,huv])));clear huv;go_wp2_with fail
             go_quiet_grown (fail)
             have S2:Aside (SWK enc k w0 blk 0 dk (grow (wr.drewN nq) osq)):=S1.out.grown nq osq;clear la lb hc S1;generalize grow (wr.drewN nq) osq=w2 at S2 ⊢;clear nq osq;go_wp2;go_roundg (n2-(kp+1+1))
             case measure=>omega
             case rel=>exact ⟨kk,kp+1,dk,rfl,by go_num,by omega,nL,S2,HCI2⟩
           · rw[dF huv]at hc;have HCI2:=hid (HCI.out.keep (by omega) (keeps_pos (by rw[<-UV.out.1,<-UV.out.2];exact huv)));rw[<-UV.out.1]at HCI2;clear huv;go_wp2_with fail
             go_quiet_grown (fail)
             have S2:Aside (SWK enc k w0 blk 0 dk (grow (wr.drewN nq) osq)):=S1.out.grown nq osq;clear la lb hc S1;generalize grow (wr.drewN nq) osq=w2 at S2 ⊢;clear nq osq;have la:=S2.out.load R hds prog (qp+1+(kp+1)) (by omega);rw[show dk[qp+1+(kp+1)]! = u from by rw[UV.out.1];exact HCI.out.high _ (by omega),Nat.zero_add,Nat.add_mul]at la;have ls:=SWK.st S2.out R hds prog kk (by omega) u;have S3:Aside _:=SWK.lay S2.out hk hblk kk (by omega) u;rw[Nat.zero_add]at ls S3;have hul:(enc u).length=k:=hk u;clear S2;generalize enc u=cu at la ls S3 hul ⊢;go_wp2;go_roundg (n2-(kp+1+1))
             case measure=>omega
             case rel=>exact ⟨kk+1,kp+1,dk.setIfInBounds kk u,by go_num,by go_num,by omega,nL,S3,HCI2⟩
         · have hltz2:¬(kp:Int)+1<(n2:Int):=(by omega);have hci:=HCI.out;rw[show qp+1+(kp+1)=d.size from by omega]at hci;have HCI2:=hid hci;clear hci;have hH2:=S1.out.holds hblk hH hds;have hcl:∀ty,(Builtin.clear_ #[40] ty #[.slice (some ⟨blk,kk*k,none⟩) (d.size-kk) (cap-kk)]).run prog wr=.ok (.tuple #[]) (wr.setCells blk (kk*k) (Builtin.zeroCells zc (d.size-kk)).toList):=by
            intro ty;have hbd:kk*k+(d.size-kk)*k=d.size*k:=(by rw[<-Nat.add_mul];congr 1;omega);refine zdQ wr _ _ ty (.agg zc) underlying40 hz hz1 (by show 0<zc.size;omega) blk (kk*k) _ _ (by omega) (fun j hj=>?_) (fun j hj=>?_)
            · have:=(hH2 (kk*k+j) (by rw[size_flatK,hds];rw[show (Value.agg zc).cells.size=k from hzk]at hj;omega)).1;rw[Nat.zero_add]at this;rw[this];rfl
            · have:=(hH2 (kk*k+j) (by rw[size_flatK,hds];rw[show (Value.agg zc).cells.size=k from hzk]at hj;omega)).2;rw[Nat.zero_add]at this;exact this
           have bk:(kk:Int)<=(d.size:Int):=(by omega);have bkc:¬cap=kk:=(by omega);have HCL:=hid hkk;clear hH2 hkk;go_wp2;go_ret;have how:=za8 hk rfl HOWN.out hds S1.out;have hlen:(compactUpTo d d.size).length=kk:=HCI2.out.len;have hpre:=CompInv.prefix_ HCI2.out;have hop:=zeX hk (by rw[Array.length_toList,hds]) how.1 (m:=kk) (by have:=HCI2.out.lt;omega) (Builtin.zeroCells zc (d.size-kk)).toList;rw[hpre]at hop;rw[hlen];exact ⟨rfl,hop,how.2.then_ (zb9 blk _ _ _) fun _ h=>.inl h⟩
      · rw[dF hxy]at hc;have hkeep:keeps d (qp+1)=true:=keeps_pos (by rw[Nat.add_sub_cancel,<-XY.out.1,<-XY.out.2];exact hxy);have hall:∀j,j<qp+1+1->keeps d j=true:=fun j hj=>by
         by_cases e:j=qp+1
         · rw[e];exact hkeep
         · exact HALL.out j (by omega)
        have HALL2:=hid hall;clear hkeep hall hxy;go_wp2_with fail
        go_quiet_grown (fail)
        have S2:Aside (SWK enc k w0 blk 0 d (grow (wr.drewN nq) osq)):=S1.out.grown nq osq;clear la lb hc S1;generalize grow (wr.drewN nq) osq=w2 at S2 ⊢;clear nq osq;go_wp2;go_roundg (d.size-(qp+1+1))
        case measure=>omega
        case rel=>exact ⟨qp+1+1,by omega,by omega,nL,by go_num,S2,HALL2⟩
    · obtain rfl:q=d.size:=(by omega);have hltz:¬(d.size:Int)<(d.size:Int):=(by omega);go_wp2;go_ret;exact SAME.out _ S1.out HALL.out
end
end Go.Proofs.YtjcpjopbgngihaaGreatDoor
end
section
namespace Go.Proofs.YtjcpjopbgngihaaGreatDoor
open Tryz
open Go.RowKit Go.Lib Tv Go.Sort
section
variable {β:Type} {lt:β->β->Bool}
structure Spot (lt:β->β->Bool) (l:List β) (x:β) (i:Nat):Prop where
 le:i<=l.length
 lo:∀y∈l.take i,lt y x=true
theorem Spot.zero (lt:β->β->Bool) (l:List β) (x:β):Spot lt l x 0:=⟨Nat.zero_le _,fun y h=>by simp at h⟩
theorem Spot.next {l:List β} {x:β} {i:Nat} (h:Spot lt l x i) (hi:i<l.length) (h2:lt l[i] x=true):Spot lt l x (i+1):=by
 refine ⟨hi,fun y hy=>?_⟩;rw[List.take_add_one,List.getElem?_eq_getElem hi]at hy;rcases List.mem_append.1 hy with hy | hy
 · exact h.lo y hy
 · simp at hy;subst hy;exact h2
theorem ins_ok (hO:SWO lt) {l:List β} {x:β} {i:Nat} (hr:Rise lt l) (h:Spot lt l x i) (h2:∀y,l[i]?=some y->lt x y=true) :
    Rise lt (l.take i++x::l.drop i)/\∀y,y∈(l.take i++x::l.drop i)↔y∈l\/y=x:=by
 have hsplit:=List.take_append_drop i l;have hr':=hr;unfold Rise at hr';rw[<-hsplit,List.pairwise_append]at hr';obtain ⟨p1,p2,p3⟩:=hr';have hx:∀y∈l.drop i,lt x y=true:=by
  intro y hy;cases hd:l.drop i with
  | nil=>rw[hd]at hy;cases hy
  | cons z r=>
   have hz:l[i]?=some z:=by
    have:=congrArg (fun m=>m[0]?) hd;simpa using this
   have hxz:=h2 z hz;rw[hd]at hy p2;rcases List.mem_cons.1 hy with rfl | hy
   · exact hxz
   · exact hO.trans _ _ _ hxz ((List.pairwise_cons.1 p2).1 y hy)
 refine ⟨?_,fun y=>?_⟩
 · unfold Rise;rw[List.pairwise_append];refine ⟨p1,List.pairwise_cons.2 ⟨hx,p2⟩,?_⟩;intro a ha b hb;rcases List.mem_cons.1 hb with rfl | hb
   · exact h.lo a ha
   · exact p3 a ha b hb
 · conv=>rhs;rw[<-hsplit]
   simp only[List.mem_append,List.mem_cons];constructor
   · rintro (h | h | h)
     · exact .inl (.inl h)
     · exact .inr h
     · exact .inl (.inr h)
   · rintro ((h | h) | h)
     · exact .inl h
     · exact .inr (.inr h)
     · exact .inr (.inl h)
def SortB (lt:β->β->Bool) (A r:List β):Prop:=Rise lt r/\∀x,x∈r↔x∈A
theorem SortB.nil (lt:β->β->Bool):SortB lt [] []:=⟨List.Pairwise.nil,fun _=>Iff.rfl⟩
theorem SortB.put (hO:SWO lt) {A r:List β} {x:β} {i:Nat} (h:SortB lt A r) (hs:Spot lt r x i) (h2:∀y,r[i]?=some y->lt x y=true):SortB lt (A++[x]) (r.take i++x::r.drop i):=by
 obtain ⟨h3,h4⟩:=ins_ok hO h.1 hs h2;refine ⟨h3,fun y=>?_⟩;rw[h4,h.2];simp
theorem SortB.skip {A r:List β} {x:β} (h:SortB lt A r) (hx:x∈r):SortB lt (A++[x]) r:=by
 refine ⟨h.1,fun y=>?_⟩;rw[h.2];have:=(h.2 x).1 hx;simp only[List.mem_append,List.mem_singleton];exact ⟨.inl,fun h=>h.elim id fun e=>e ▸ this⟩
end
theorem ltV_of {x y:VTri} (h:¬cmpV y x<0) (h2:y≠x):ltOf cmpV x y=true:=by
 unfold ltOf;rw[decide_eq_true_eq];unfold cmpV at h ⊢;rw[zbT]at h ⊢;rcases KLt.tri (keyT y.1) (keyT x.1) with g | g | g
 · exact absurd g h
 · exact absurd (zhU g) h2
 · exact g
theorem ltM_of {x y:VTm} (h:¬cmpM y x<0) (h2:y≠x):ltOf cmpM x y=true:=by
 unfold ltOf;rw[decide_eq_true_eq];unfold cmpM cmpT at h ⊢;rw[zbB]at h ⊢;rcases zeN (shw y.1) (shw x.1) with g | g | g
 · exact absurd g h
 · exact absurd (Subtype.ext (zb5 y.2 x.2 g)) h2
 · exact g
theorem zkZ (x y:VTri):ltOf cmpV x y=true↔cmpV x y<0:=by unfold ltOf;rw[decide_eq_true_eq]
theorem zk0 (x y:VTm):ltOf cmpM x y=true↔cmpM x y<0:=by unfold ltOf;rw[decide_eq_true_eq]
end Go.Proofs.YtjcpjopbgngihaaGreatDoor
end
section
namespace Go.Proofs.YtjcpjopbgngihaaGreatDoor
open Tryz
open Go.RowKit Go.Lib
def SegK (w:World) (A:Option Addr) (m size:Nat) (news:List Value):Prop:=news.length=m*size/\(0<m->∃ad,A=some ad/\∀j u,news[j]?=some u->w.cell? (ad.add j)=some u)
theorem SegK.nil (w:World) (A:Option Addr) (size:Nat):SegK w A 0 size []:=⟨by simp,fun h=>absurd h (by omega)⟩
theorem zet {P:Program} (w:World) (base:Nat) (t ty e:TypeId) (i:TypeInfo) (z:Value) (size bytes:Nat) (ht:P.underlying t=some (.slice e)) (hi:P.info? e=some i) (hz:i.zero=some z)
    (hsize:i.size=size) (hby:i.bytes=bytes) (hzs:z.cells.size=size) (hsz:0<size)
    (v:Value) (n:Nat) (xs:List Value) (hown:w.ownsRow base e size v n xs)
    (A:Option Addr) (m c:Nat) (news:List Value) (hseg:SegK w A m size news) (h1:∀u∈news,u.oneCell'=true)
    (h63:n+m<=maxLen) (hbytes:(n+m)*bytes<=140737488355328) (hbase:base<=w.heap.size) :
    ∃v' w',(Builtin.append_ #[t,t] ty #[v,.slice A m c]).run P w=.ok v' w'/\w'.ownsRow base e size v' (n+m) (xs++news)/\w.grownBy w' v.ownBlock:=by
 obtain ⟨hl,hc⟩:=hseg;cases A with
 | none=>
  have hm:m=0:=by
   rcases Nat.eq_zero_or_pos m with h0 | h0
   · exact h0
   · obtain ⟨ad,e,_⟩:=hc h0;cases e
  subst hm;obtain rfl:news=[]:=List.eq_nil_of_length_eq_zero (by omega);exact ⟨v,w,Fd.za4 (P:=P) w base t ty e i size ht hi v n xs hown c,by simpa using hown,World.grownBy.refl w _⟩
 | some ad=>
  obtain ⟨v',w',h2,h3,h4,_⟩:=run_append_own (P:=P) w base t ty e i z size bytes ht hi hz hsize hby hzs hsz v n xs hown ad m c news hl (fun j u hu=>by
   have hm:0<m:=by
    rcases Nat.eq_zero_or_pos m with h0 | h0
    · subst h0;have:=(List.getElem?_eq_some_iff.1 hu).1;omega
    · exact h0
   obtain ⟨ad',e,h⟩:=hc hm;cases e
   exact h j u hu) h1 h63 hbytes hbase
  exact ⟨v',w',h2,h3,h4⟩
theorem zap {P:Program} {w:World} {ops:Array Oper} {o:Oper} {a:Act} {K:Act->World->Prop} {Q:Exit->Act->World->Prop} {E:Prop} (hgd:o.guard=none) (s x:Operand) (t:TypeId)
    (ho:o.op=.call { callee:=.builtin .append,args:=#[s,x],argTypes:=#[t,t] })
    (base:Nat) (e:TypeId) (i:TypeInfo) (z:Value) (size bytes:Nat) (ht:P.underlying t=some (.slice e)) (hi:P.info? e=some i) (hz:i.zero=some z)
    (hsize:i.size=size) (hby:i.bytes=bytes) (hzs:z.cells.size=size) (hsz:0<size)
    (v:Value) (n:Nat) (xs:List Value) (hs:a.eval s=v) (hown:w.ownsRow base e size v n xs)
    (A:Option Addr) (m c:Nat) (news:List Value) (hx:a.eval x=.slice A m c) (hseg:SegK w A m size news) (h1:∀u∈news,u.oneCell'=true)
    (h63:n+m<=maxLen) (hbytes:(n+m)*bytes<=140737488355328) (hbase:base<=w.heap.size)
    (h:∀v' w',w'.ownsRow base e size v' (n+m) (xs++news)->w.grownBy w' v.ownBlock->K (a.put o.dst v') w') :
    if Region.wanted o (yielded ops a.tmps)=true then Oper.wp P o a w K Q else E:=by
 have hw:Region.wanted o (yielded ops a.tmps)=true:=(by simp[Region.wanted,hgd]);rw[if_pos hw];obtain ⟨v',w',hrun,r1,r2⟩:=zet (P:=P) w base t o.type e i z size bytes ht hi hz hsize hby hzs hsz v n xs hown A m c news hseg h1 h63 hbytes hbase;unfold Oper.wp;simp[execOp,ho,resolve,invoke,builtin,hs,hx,hrun,Result.andThen];exact h v' w' r1 r2
section
variable {α:Type} {enc:α->List Value} {k:Nat}
theorem zlp (hk:∀x,(enc x).length=k) (l:List α) (i:Nat):(l.take i).flatMap enc=(l.flatMap enc).take (i*k):=by
 induction l generalizing i with
 | nil=>simp
 | cons x l ih=>
  cases i with
  | zero=>simp
  | succ i=>
   rw[List.take_succ_cons,List.flatMap_cons,List.flatMap_cons,ih i,List.take_append,hk]
   congr 1
   · rw[List.take_of_length_le (by rw[hk,Nat.add_mul];omega)]
   · rw[Nat.add_mul,Nat.one_mul,Nat.add_sub_cancel]
theorem zlq (hk:∀x,(enc x).length=k) (l:List α) (i:Nat):(l.drop i).flatMap enc=(l.flatMap enc).drop (i*k):=by
 induction l generalizing i with
 | nil=>simp
 | cons x l ih=>
  cases i with
  | zero=>simp
  | succ i=>
   have h0:(enc x).drop ((i+1)*k)=[]:=List.drop_of_length_le (by rw[hk,Nat.add_mul];omega);rw[List.drop_succ_cons,List.flatMap_cons,ih i,List.drop_append,hk,h0,List.nil_append,Nat.add_mul,Nat.one_mul,Nat.add_sub_cancel]
theorem zdc (hk:∀x,(enc x).length=k) {w:World} {B n g cap:Nat} {e:TypeId} {l:List α} (h:w.ownsRow B e k (.slice (some ⟨g,0,none⟩) n cap) n (l.flatMap enc)) (hn:l.length=n) (i:Nat) (hi:i<=n):SegK w (some ⟨g,0,none⟩) i k ((l.take i).flatMap enc):=by
 refine ⟨by rw[zaM hk,List.length_take];congr 1;omega,fun _=>⟨_,rfl,fun j u hu=>?_⟩⟩;rcases zai h with ⟨h,_⟩ | ⟨g',cap',hv,_,_,_,hc⟩
 · cases h
 · cases hv
   rw[Fd.add_zero'];rw[zlp hk,List.getElem?_take]at hu;split at hu
   · exact hc j u hu
   · cases hu
theorem addr_add (g o j:Nat):(⟨g,o,none⟩:Addr).add j=⟨g,o+j,none⟩:=by
 cases j with
 | zero=>rfl
 | succ j=>simp[Addr.add]
theorem zis (hk:∀x,(enc x).length=k) {w:World} {B n g cap:Nat} {e:TypeId} {l:List α} (h:w.ownsRow B e k (.slice (some ⟨g,0,none⟩) n cap) n (l.flatMap enc)) (hn:l.length=n) (i:Nat) (A:Option Addr) (hA:i<n->A=some ⟨g,i*k,none⟩):SegK w A (n-i) k ((l.drop i).flatMap enc):=by
 refine ⟨by rw[zaM hk,List.length_drop];congr 1;omega,fun h0=>⟨_,hA (by omega),fun j u hu=>?_⟩⟩;rcases zai h with ⟨h,_⟩ | ⟨g',cap',hv,_,_,_,hc⟩
 · cases h
 · cases hv
   rw[addr_add];rw[zlq hk,List.getElem?_drop]at hu;exact hc _ u hu
end
def PutIs {β:Type} (lt:β->β->Bool) (r:List β) (x:β) (r':List β):Prop:=
 (x∈r/\r'=r)\/∃i,Spot lt r x i/\(∀y,r[i]?=some y->lt x y=true)/\r'=r.take i++x::r.drop i
theorem PutIs.sort {β:Type} {lt:β->β->Bool} (hO:Go.Sort.SWO lt) {A r r':List β} {x:β} (h:PutIs lt r x r') (hs:SortB lt A r):SortB lt (A++[x]) r':=by
 rcases h with ⟨h1,rfl⟩ | ⟨i,h1,h2,rfl⟩
 · exact hs.skip h1
 · exact hs.put hO h1 h2
theorem PutIs.len {β:Type} {lt:β->β->Bool} {r r':List β} {x:β} (h:PutIs lt r x r'):r'.length<=r.length+1:=by
 rcases h with ⟨_,rfl⟩ | ⟨i,_,_,rfl⟩
 · omega
 · rw[List.length_append,List.length_take,List.length_cons,List.length_drop];omega
end Go.Proofs.YtjcpjopbgngihaaGreatDoor
end
