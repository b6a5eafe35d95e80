/- Proved on the way: Rows of structs: one element is laid; wh; slices.CompactFunc at triples; Package lines: Sort; Package lines: Sort, whole; slices.BinarySearchFunc at terms; store.; Triples of numbers: slices.Compare at th; The file of a set of triples: plain Lean; An item put among rising ones, once: pla; Triples of numbers: sorting them. Each theorem states its own conditions. -/
import Derived.Test.YtaeiifngjglchaaGreatDoorM8
import Derived.Test.YtaeiifngjglchaaGreatDoorM2
import Derived.Lib.ItoaNum
set_option maxHeartbeats 16000000
set_option maxRecDepth 1000000
section
namespace Go.Proofs.YtaeiifngjglchaaGreatDoor
open Go.Proofs.Tryz
open Go.RowKit Go.Lib Go.Sort
section
variable {α:Type} [Inhabited α] {enc:α->List Value} {k:Nat}
theorem zg9 (hk:∀x,(enc x).length=k) (d:Array α) (i:Nat) (hi:i<d.size) (x:α):setMany (flatK enc k d) (i*k) (enc x)=flatK enc k (d.setIfInBounds i x):=by
 refine ext_get! (by simp) fun t ht=>?_;have ht':t<d.size*k:=(by simpa using ht);have k0:0<k:=by
  rcases Nat.eq_zero_or_pos k with h | h
  · rw[h]at ht';simp at ht'
  · exact h
 rw[get_setMany _ _ _ t (by simpa using ht'),get_flatK _ _ _ t ht',get_flatK _ _ _ t (by simpa using ht'),hk];by_cases b:t / k=i
 · have m:t-i*k=t % k:=(by rw[<-b,Nat.mod_eq_sub_div_mul]);rw[if_pos ((blk_iff k i t k0).2 b),m,b]
   congr 1
   rw[getElem!_pos _ i (by simpa using hi)];simp
 · rw[if_neg (fun h=>b ((blk_iff k i t k0).1 h))]
   congr 1
   rw[getElem!_def,getElem!_def,Array.getElem?_setIfInBounds,if_neg (fun e=>b e.symm)]
theorem SWK.lay {w0 W:World} {blk off:Nat} {dk:Array α} (h:SWK enc k w0 blk off dk W) (hk:∀x,(enc x).length=k) (hblk:blk<w0.heap.size) (i:Nat) (hi:i<dk.size) (x:α) :
    SWK enc k w0 blk off (dk.setIfInBounds i x) (W.setCells blk (off+i*k) (enc x)):=by
 have b:i*k+k<=dk.size*k:=by
  have:=Nat.mul_le_mul_right k (show i+1<=dk.size from hi);rwa[Nat.add_mul,Nat.one_mul]at this
 obtain ⟨n,os,rfl⟩:=h;refine ⟨n,os,?_⟩;unfold sortWorldK;rw[setCells_grow os blk _ _ _ (by rw[size_putRowK];exact hblk)]
 congr 1
 unfold putRowK;rw[setCells_putRow _ _ _ _ _ _ (by rw[hk,size_flatK];exact b),zg9 hk dk i hi x]
theorem zbV (b:Nat):∀(vs:List Value) (o:Nat) (w:World),Fr w (w.setCells b o vs) (fun j=>j=b)
 | [],_,w=>Fr.refl w _
 | v::r,o,w=>by
  rw[World.setCells];exact ((Fr.refl w (fun j=>j=b)).set_ (p:=⟨b,o,none⟩) (.inl rfl) v).then_ (zbV b r (o+1) _) fun _ h=>.inl h
theorem zcl {b:Nat} {e:TypeId}:∀(vs:List Value) (o:Nat) (w:World) (c:Array Value),w.heap[b]?=some (.cells c e (0,0))->∃c',(w.setCells b o vs).heap[b]?=some (.cells c' e (0,0))/\c'.size=c.size/\∀t,t<o->c'[t]?=c[t]?
 | [],_,_,c,h=>⟨c,h,rfl,fun _ _=>rfl⟩
 | v::r,o,w,c,h=>by
  rw[World.setCells];have hs:(w.setCell ⟨b,o,none⟩ v).heap[b]?=some (.cells (c.setIfInBounds o v) e (0,0)):=by
   simp[World.setCell,Array.getElem?_modify,h]
  obtain ⟨c',h1,h2,h3⟩:=zcl r (o+1) (w.setCell ⟨b,o,none⟩ v) (c.setIfInBounds o v) hs;refine ⟨c',h1,by rw[h2];simp,fun t ht=>?_⟩;rw[h3 t (by omega),Array.getElem?_setIfInBounds,if_neg (by omega)]
omit [Inhabited α] in
theorem zeB (hk:∀x,(enc x).length=k) {W:World} {B n m:Nat} {e:TypeId} {g cap:Nat} {l:List α} (hl:l.length=n) (h:W.ownsRow B e k (.slice (some ⟨g,0,none⟩) n cap) n (l.flatMap enc)) (hm:m<=n) (vs:List Value) :
    (W.setCells g (m*k) vs).ownsRow B e k (.slice (some ⟨g,0,none⟩) m cap) m ((l.take m).flatMap enc):=by
 obtain ⟨h0,h⟩:=h;rcases h with ⟨h,_⟩ | ⟨g',cap',cur,hv,hB,hh,h1,h2,h3,h4⟩
 · cases h
 · cases hv
   obtain ⟨c',q1,q2,q3⟩:=zcl vs (m*k) W cur hh;have hlt:((l.take m).flatMap enc).length=m*k:=by
    rw[zaD hk,List.length_take,Nat.min_eq_left (by omega)]
   refine ⟨hlt,.inr ⟨g,cap,c',rfl,hB,q1,by omega,h2,by rw[q2,h3],?_⟩⟩;have hmn:m*k<=n*k:=Nat.mul_le_mul_right k hm;have e1:c'.toList.take (m*k)=cur.toList.take (m*k):=by
    apply List.ext_getElem?;intro t;rw[List.getElem?_take,List.getElem?_take];split
    · rw[Array.getElem?_toList,Array.getElem?_toList];exact q3 t (by assumption)
    · rfl
   have e2:(l.flatMap enc).take (m*k)=(l.take m).flatMap enc:=by
    conv=>lhs;rw[<-List.take_append_drop m l,List.flatMap_append]
    rw[List.take_append_of_le_length (by omega),List.take_of_length_le (by omega)]
   rw[e1,<-e2,<-h4,List.take_take,Nat.min_eq_left hmn]
theorem zdE {P:Program} (w:World) (t e ty:TypeId) (z:Value) (ht:P.underlying t=some (.slice e)) (hv:∀w,(zeroValue e).run P w=.ok z w) (h1:∀v∈z.cells,v.oneCell'=true) (hz:0<z.cells.size) (b o n c:Nat) (hn:0<n)
    (hc:∀j,j<n*z.cells.size->(w.cell? ⟨b,o+j,none⟩).isSome=true) (hf:∀j,j<n*z.cells.size->w.frozen? ⟨b,o+j,none⟩=false) :
    (Builtin.clear_ #[t] ty #[.slice (some ⟨b,o,none⟩) n c]).run P w=.ok (.tuple #[]) (w.setCells b o (Builtin.zeroCells z.cells n).toList):=by
 have hlen:(Builtin.zeroCells z.cells n).toList.length=n*z.cells.size:=by simp[Builtin.zeroCells]
 have hst:=run_storeCells_cells (P:=P) b o (Builtin.zeroCells z.cells n).toList 0 w (by rw[hlen];simpa using hc) (by rw[hlen];simpa using hf) (by
  intro v hv';rw[Array.mem_toList_iff]at hv';unfold Builtin.zeroCells at hv';rw[Array.mem_map]at hv';obtain ⟨i,_,rfl⟩:=hv';have:i % z.cells.size<z.cells.size:=Nat.mod_lt _ hz;rw[getElem!_pos z.cells (i % z.cells.size) this];exact h1 _ (Array.getElem_mem this))
 simp only[Nat.add_zero]at hst;obtain ⟨m,rfl⟩:∃m,n=m+1:=⟨n-1,by omega⟩;simp[Builtin.clear_,run_underlying ht,hv,hst]
end
section
variable {α:Type} [Inhabited α] [DecidableEq α]
omit [DecidableEq α] in
theorem SWK.st {enc:α->List Value} {k:Nat} {w0 W:World} {blk off:Nat} {dk d0:Array α} (h:SWK enc k w0 blk off dk W) (R:RowK enc k w0 blk off d0) (hs:dk.size=d0.size) (P:Program) (i:Nat) (hi:i<dk.size) (y:α) :
    Sem.run P (storeCells ⟨blk,off+i*k,none⟩ (enc y) 0) W=.ok () (W.setCells blk (off+i*k) (enc y)):=
 stores_of_holds P (h.holds R.hblk R.hH hs) (i*k) _ (by rw[R.hk,size_flatK];exact rowK_bnd dk k i hi) (R.h1 _)
theorem CompInv.prefix_ {d dk:Array α} {kk:Nat} (h:CompInv d d.size kk dk):dk.toList.take kk=compactUpTo d d.size:=by
 apply List.ext_getElem?;intro t;rw[List.getElem?_take];by_cases ht:t<kk
 · have hs:=h.size;have hl:=h.lt;rw[if_pos ht,h.low t ht,Array.getElem?_toList,getElem!_def,Array.getElem?_eq_getElem (by omega)]
 · rw[if_neg ht,List.getElem?_eq_none (by rw[h.len];omega)]
def EqCalls (g:Nat) (enc:α->List Value):Prop:=∀(W:World) (x y:α),Calls prog g #[.agg (enc x).toArray,.agg (enc y).toArray] W fun e w'=>e=.returned (.bool (decide (x=y)))/\Below W.heap.size W w'
omit [Inhabited α] in
theorem EqCalls.grow {g:Nat} {enc:α->List Value} (h:EqCalls g enc) (x y:α) (w:World) (n:Nat) (os:Array Obj) :
    Calls prog g #[.agg (enc x).toArray,.agg (enc y).toArray] (Sort.grow (w.drewN n) os) fun e w''=>e=.returned (.bool (decide (x=y)))/\∃p:GrownBy,w''=Sort.grow (w.drewN p.n) p.os:=
 Calls.grown_of (Dr.calls_grow (h _ x y))
theorem zeo (k:Nat) (hk0:0<k) (aE:∀w,(isAgg 110).run prog w=.ok true w) (zE:∀w,(Go.sizeOf 110).run prog w=.ok k w) (enc:α->List Value) (g:Nat) (eg:∀args w,(callFunc g args).run prog w=.ok (.enter g args) w) (hE:EqCalls g enc)
    (blk cap B:Nat) (d:Array α) (w0:World) (hk:∀x,(enc x).length=k) (h1:∀x,∀v∈enc x,v.oneCell'=true) (hsz:d.size<1000000) (zc:Array Value) (hz:∀w,(zeroValue 110).run prog w=.ok (.agg zc) w) (hzk:zc.size=k) (hz1:∀v∈zc,v.oneCell'=true)
    (hown:w0.ownsRow B 110 k (.slice (some ⟨blk,0,none⟩) d.size cap) d.size (d.toList.flatMap enc)) :
    Calls prog 93 #[.slice (some ⟨blk,0,none⟩) d.size cap,.func (.func g) #[] #[]] w0 fun e w'=>
     e=.returned (.slice (some ⟨blk,0,none⟩) (compactUpTo d d.size).length cap)/\w'.ownsRow B 110 k (.slice (some ⟨blk,0,none⟩) (compactUpTo d d.size).length cap) (compactUpTo d d.size).length ((compactUpTo d d.size).flatMap enc)/\Fr w0 w' (fun j=>j=blk):=by
 have hmix:=mixed;obtain ⟨hH,hblk,_⟩:=zbk hk rfl hown;have hcap:d.size<=cap:=by
  rcases hown.2 with ⟨h,_⟩ | ⟨_,_,_,hv,_,_,h,_⟩
  · cases h
  · cases hv;exact h
 have R:RowK enc k w0 blk 0 d:=⟨hk,h1,hH,hblk⟩;have S0:Aside (SWK enc k w0 blk 0 d w0):=SWK.start hH;have HOWN:=hid hown;have HE:=hid hE;have same:∀W,SWK enc k w0 blk 0 d W->(∀j,j<d.size->keeps d j=true)->Ending.returned (.slice (some ⟨blk,0,none⟩) d.size cap)=.returned (.slice (some ⟨blk,0,none⟩) (compactUpTo d d.size).length cap)/\W.ownsRow B 110 k (.slice (some ⟨blk,0,none⟩) (compactUpTo d d.size).length cap) (compactUpTo d d.size).length ((compactUpTo d d.size).flatMap enc)/\Fr w0 W (fun j=>j=blk):=by
  intro W hS hall;have e:compactUpTo d d.size=d.toList:=(by rw[compactUpTo_all d _ hall,range_map_get]);rw[e,Array.length_toList];have:=za5 hk rfl HOWN.out rfl hS;exact ⟨rfl,this.1,this.2⟩
 have SAME:=hid same;clear hown hE same;by_cases h2:d.size<2
 · have h2z:(d.size:Int)<2:=(by omega);go_enter func93,ntmps93
   go_wp2;go_ret;exact SAME.out _ S0.out (fun j hj=>keeps_lt_one d j (by omega))
 · have h2z:¬(d.size:Int)<2:=(by omega);go_enter func93,ntmps93
   go_wp2;go_loopg [5] d.size (fun gx s5 wr=>∃q:Nat,1<=q/\q<=d.size/\d.size-q<=gx/\s5=.int .i64 q/\Aside (SWK enc k w0 blk 0 d wr)/\Hid (∀j,j<q->keeps d j=true))
   case atStart=>exact ⟨1,nL,by omega,by omega,rfl,S0,keeps_lt_one d⟩
   case round=>
    clear S0;obtain ⟨q,hq1,hq,hg,rfl,S1,HALL⟩:=hrel;by_cases hlt:q<d.size
    · obtain ⟨qp,rfl⟩:∃qp,q=qp+1:=⟨q-1,by omega⟩;have hltz:(qp:Int)+1<(d.size:Int):=(by omega);have ea:((qp:Int)+1).toNat=qp+1:=(by omega);have pa:(0:Int)<=(qp:Int)+1:=(by omega);have ra:IntKind.i64.wrap ((qp:Int))=(qp:Int):=(wI (by omega));have bc:(qp:Int)<(d.size:Int):=(by omega);obtain ⟨x,hx⟩:∃x,x=d[qp+1]!:=⟨_,rfl⟩;obtain ⟨y,hy⟩:∃x,x=d[qp]!:=⟨_,rfl⟩;have la:=S1.out.ld R rfl prog (qp+1) (by omega);have lb:=S1.out.ld R rfl prog qp (by omega);rw[<-hx,Nat.zero_add]at la;rw[<-hy,Nat.zero_add]at lb;have HC:=hid fun n os=>HE.out.grow x y wr n os;have XY:=hid (And.intro hx hy);clear hx hy;by_cases hxy:x=y
      · rw[dT hxy]at HC;have hdup:keeps d (qp+1)=false:=keeps_neg (by omega) (by rw[Nat.add_sub_cancel,<-XY.out.1,<-XY.out.2,hxy]);have HDUP:=hid hdup;clear hdup hxy;go_wp2_with fail
        go_quiet_grown (first | (go_at_fn g;exact HC.out _ _))
        have S2:Aside (SWK enc k w0 blk 0 d (grow (wr.drewN nq) osq)):=S1.out.grown nq osq;clear la lb HC S1;generalize grow (wr.drewN nq) osq=w2 at S2 ⊢;clear nq osq;go_wp2;generalize hn2:d.size-(qp+1)=n2;generalize cap-(qp+1)=c2;have hn2a:qp+1+n2<=d.size:=(by omega);have hn2b:d.size<=qp+1+n2:=(by omega);clear hn2;go_loopg [5,7] n2 (fun gx s5 s7 wr2=>∃(kk kp:Nat) (dk:Array α),s5=.int .i64 kk/\s7=.int .i64 ((kp:Int)+1)/\kp+1<=n2/\n2-(kp+1)<=gx/\Aside (SWK enc k w0 blk 0 dk wr2)/\Hid (CompInv d (qp+1+(kp+1)) kk dk))
        case atStart=>exact ⟨qp+1,0,d,by go_num,rfl,by omega,by omega,S2,CompInv.start HALL.out HDUP.out⟩
        case round=>
         clear S2;obtain ⟨kk,kp,dk,rfl,rfl,hkn,hg2,S1,HCI⟩:=hrel;have hkk:=HCI.out.lt;have hds:=HCI.out.size;by_cases hlt2:kp+1<n2
         · have hltz2:(kp:Int)+1<(n2:Int):=(by omega);have ea:((kp:Int)+1).toNat=kp+1:=(by omega);have pa:(0:Int)<=(kp:Int)+1:=(by omega);have ra:IntKind.i64.wrap ((kp:Int))=(kp:Int):=(wI (by omega));have bc:(kp:Int)<(n2:Int):=(by omega);have bk:(kk:Int)<(d.size:Int):=(by omega);obtain ⟨u,hu⟩:∃x,x=dk[qp+1+(kp+1)]!:=⟨_,rfl⟩;obtain ⟨v,hv⟩:∃x,x=dk[qp+1+kp]!:=⟨_,rfl⟩;have la:=S1.out.ld R hds prog (qp+1+(kp+1)) (by omega);have lb:=S1.out.ld R hds prog (qp+1+kp) (by omega);rw[<-hu,Nat.zero_add,Nat.add_mul]at la;rw[<-hv,Nat.zero_add,Nat.add_mul]at lb;have HC:=hid fun n os=>HE.out.grow u v wr n os;have hud:u=d[qp+1+(kp+1)]!:=(by rw[hu];exact HCI.out.high _ (by omega));have hvd:v=d[qp+1+(kp+1)-1]!:=(by rw[hv,show qp+1+(kp+1)-1=qp+1+kp from by omega];exact HCI.out.high _ (by omega));have UV:=hid (And.intro hud hvd);clear hu hv hud hvd;by_cases huv:u=v
           · rw[dT huv]at HC;have HCI2:=hid (HCI.out.skip (keeps_neg (by omega) (by rw[<-UV.out.1,<-UV.out.2,huv])));clear huv;go_wp2_with fail
             go_quiet_grown (first | (go_at_fn g;exact HC.out _ _))
             have S2:Aside (SWK enc k w0 blk 0 dk (grow (wr.drewN nq) osq)):=S1.out.grown nq osq;clear la lb HC S1;generalize grow (wr.drewN nq) osq=w2 at S2 ⊢;clear nq osq;go_wp2;go_roundg (n2-(kp+1+1))
             case measure=>omega
             case rel=>exact ⟨kk,kp+1,dk,rfl,by go_num,by omega,nL,S2,HCI2⟩
           · rw[dF huv]at HC;have HCI2:=hid (HCI.out.keep (by omega) (keeps_pos (by rw[<-UV.out.1,<-UV.out.2];exact huv)));rw[<-UV.out.1]at HCI2;clear huv;go_wp2_with fail
             go_quiet_grown (first | (go_at_fn g;exact HC.out _ _))
             have S2:Aside (SWK enc k w0 blk 0 dk (grow (wr.drewN nq) osq)):=S1.out.grown nq osq;clear la lb HC S1;generalize grow (wr.drewN nq) osq=w2 at S2 ⊢;clear nq osq;have la:=S2.out.load R hds prog (qp+1+(kp+1)) (by omega);rw[show dk[qp+1+(kp+1)]! = u from by rw[UV.out.1];exact HCI.out.high _ (by omega),Nat.zero_add,Nat.add_mul]at la;have ls:=SWK.st S2.out R hds prog kk (by omega) u;have S3:Aside _:=SWK.lay S2.out hk hblk kk (by omega) u;rw[Nat.zero_add]at ls S3;have hul:(enc u).length=k:=hk u;clear S2;generalize enc u=cu at la ls S3 hul ⊢;go_wp2;go_roundg (n2-(kp+1+1))
             case measure=>omega
             case rel=>exact ⟨kk+1,kp+1,dk.setIfInBounds kk u,by go_num,by go_num,by omega,nL,S3,HCI2⟩
         · have hltz2:¬(kp:Int)+1<(n2:Int):=(by omega);have hci:=HCI.out;rw[show qp+1+(kp+1)=d.size from by omega]at hci;have HCI2:=hid hci;clear hci;have hH2:=S1.out.holds hblk hH hds;have hcl:∀ty,(Builtin.clear_ #[36] ty #[.slice (some ⟨blk,kk*k,none⟩) (d.size-kk) (cap-kk)]).run prog wr=.ok (.tuple #[]) (wr.setCells blk (kk*k) (Builtin.zeroCells zc (d.size-kk)).toList):=by
            intro ty;have hbd:kk*k+(d.size-kk)*k=d.size*k:=(by rw[<-Nat.add_mul];congr 1;omega);refine zdE wr _ _ ty (.agg zc) underlying36 hz hz1 (by show 0<zc.size;omega) blk (kk*k) _ _ (by omega) (fun j hj=>?_) (fun j hj=>?_)
            · have:=(hH2 (kk*k+j) (by rw[size_flatK,hds];rw[show (Value.agg zc).cells.size=k from hzk]at hj;omega)).1;rw[Nat.zero_add]at this;rw[this];rfl
            · have:=(hH2 (kk*k+j) (by rw[size_flatK,hds];rw[show (Value.agg zc).cells.size=k from hzk]at hj;omega)).2;rw[Nat.zero_add]at this;exact this
           have bk:(kk:Int)<=(d.size:Int):=(by omega);have bkc:¬cap=kk:=(by omega);have HCL:=hid hkk;clear hH2 hkk;go_wp2;go_ret;have how:=za5 hk rfl HOWN.out hds S1.out;have hlen:(compactUpTo d d.size).length=kk:=HCI2.out.len;have hpre:=CompInv.prefix_ HCI2.out;have hop:=zeB hk (by rw[Array.length_toList,hds]) how.1 (m:=kk) (by have:=HCI2.out.lt;omega) (Builtin.zeroCells zc (d.size-kk)).toList;rw[hpre]at hop;rw[hlen];exact ⟨rfl,hop,how.2.then_ (zbV blk _ _ _) fun _ h=>.inl h⟩
      · rw[dF hxy]at HC;have hkeep:keeps d (qp+1)=true:=keeps_pos (by rw[Nat.add_sub_cancel,<-XY.out.1,<-XY.out.2];exact hxy);have hall:∀j,j<qp+1+1->keeps d j=true:=fun j hj=>by
         by_cases e:j=qp+1
         · rw[e];exact hkeep
         · exact HALL.out j (by omega)
        have HALL2:=hid hall;clear hkeep hall hxy;go_wp2_with fail
        go_quiet_grown (first | (go_at_fn g;exact HC.out _ _))
        have S2:Aside (SWK enc k w0 blk 0 d (grow (wr.drewN nq) osq)):=S1.out.grown nq osq;clear la lb HC S1;generalize grow (wr.drewN nq) osq=w2 at S2 ⊢;clear nq osq;go_wp2;go_roundg (d.size-(qp+1+1))
        case measure=>omega
        case rel=>exact ⟨qp+1+1,by omega,by omega,nL,by go_num,S2,HALL2⟩
    · obtain rfl:q=d.size:=(by omega);have hltz:¬(d.size:Int)<(d.size:Int):=(by omega);go_wp2;go_ret;exact SAME.out _ S1.out HALL.out
end
end Go.Proofs.YtaeiifngjglchaaGreatDoor
end
section
namespace Go.Proofs.YtaeiifngjglchaaGreatDoor
open Go.Proofs.Tryz
open Go.RowKit Go.Lib Tv Go.Sort Mg
section
variable {α:Type} [Inhabited α] [DecidableEq α]
theorem zbz {lt:α->α->Bool} (hO:SWO lt) (hT:∀x y,lt x y=false->lt y x=false->x=y) (d:Array α) (hs:SortedIn lt 0 d.size d):∀m,m<=d.size->Rise lt (compactUpTo d m)/\∀x,x∈compactUpTo d m↔∃j,j<m/\d[j]! = x
 | 0,_=>⟨List.Pairwise.nil,fun x=>⟨fun h=>by simp[compactUpTo]at h,fun ⟨j,hj,_⟩=>absurd hj (Nat.not_lt_zero j)⟩⟩
 | m+1,hm=>by
  obtain ⟨h1,h2⟩:=zbz hO hT d hs m (by omega);rw[compactUpTo_succ];cases hk:keeps d m with
  | false=>
   rw[if_neg (by simp),List.append_nil];refine ⟨h1,fun x=>?_⟩;rw[h2];have hm0:m≠0/\d[m]! = d[m-1]!:=by
    unfold keeps at hk;rw[decide_eq_false_iff_not]at hk;simp only[not_or,ne_eq,Decidable.not_not]at hk;exact hk
   constructor
   · rintro ⟨j,hj,e⟩;exact ⟨j,by omega,e⟩
   · rintro ⟨j,hj,e⟩;by_cases hjm:j=m
     · subst hjm;exact ⟨j-1,by omega,by rw[<-hm0.2];exact e⟩
     · exact ⟨j,by omega,e⟩
  | true=>
   rw[if_pos rfl];have hm0:m=0\/d[m]!≠d[m-1]!:=by
    unfold keeps at hk;rwa[decide_eq_true_eq]at hk
   refine ⟨?_,fun x=>?_⟩
   · unfold Rise;rw[List.pairwise_append];refine ⟨h1,List.pairwise_singleton _ _,fun x hx y hy=>?_⟩;rw[List.mem_singleton]at hy;subst hy;obtain ⟨j,hj,rfl⟩:=(h2 x).1 hx;cases hl:lt d[j]! d[m]! with
     | true=>rfl
     | false=>
      exfalso;have g1:=hs j m (Nat.zero_le _) hj (by omega);have e1:=hT _ _ hl g1;rcases hm0 with h0 | h0
      · omega
      · have g2:lt d[m]! d[m-1]! = false:=hs (m-1) m (Nat.zero_le _) (by omega) (by omega);have g3:lt d[m-1]! d[j]! = false:=SortedIn.le hO hs (Nat.zero_le _) (by omega) (by omega);rw[e1]at g3;exact h0 (hT _ _ g2 g3)
   · rw[List.mem_append,List.mem_singleton,h2];constructor
     · rintro (⟨j,hj,e⟩ | e)
       · exact ⟨j,by omega,e⟩
       · exact ⟨m,by omega,e.symm⟩
     · rintro ⟨j,hj,e⟩;by_cases hjm:j=m
       · subst hjm;exact .inr e.symm
       · exact .inl ⟨j,by omega,e⟩
omit [DecidableEq α] in
theorem zkk (d:Array α) (x:α):x∈d.toList↔∃j,j<d.size/\d[j]! = x:=by
 constructor
 · intro h;obtain ⟨j,hj,e⟩:=List.getElem_of_mem h;refine ⟨j,by simpa using hj,?_⟩;rw[getElem!_pos d j (by simpa using hj)];simpa using e
 · rintro ⟨j,hj,e⟩;rw[getElem!_pos d j hj]at e;rw[<-e];simp
omit [DecidableEq α] in
theorem zlY {d r:Array α} (h:PermIn 0 d.size d r) (x:α):x∈r.toList↔x∈d.toList:=by
 have h2:=h.2.2;have e1:(r.extract 0 d.size).toList=r.toList:=(by rw[<-h.1];simp);have e2:(d.extract 0 d.size).toList=d.toList:=(by simp);rw[e1,e2]at h2;exact h2.mem_iff
end
theorem ltV_eq (x y:VTri) (h1:ltOf cmpV x y=false) (h2:ltOf cmpV y x=false):x=y:=by
 unfold ltOf cmpV at h1 h2;rw[decide_eq_false_iff_not,zbK]at h1 h2;rcases KLt.tri (keyT x.1) (keyT y.1) with h | h | h
 · exact absurd h h1
 · exact zhz h
 · exact absurd h h2
theorem zkw (blk off size:Nat) (w:World):CmpLays prog 92 #[] encV 9 cmpV blk off size w:=by
 intro m os dk _ x y;exact Dr.calls_grow (zeF x.1 y.1 x.sml y.sml _)
theorem zmJ:∀args w,(callFunc 92 args).run prog w=.ok (.enter 92 args) w:=enters_of func92 (by kernel_rfl) rfl
theorem zoi:∀args w,(callFunc 94 args).run prog w=.ok (.enter 94 args) w:=enters_of func94 (by kernel_rfl) rfl
theorem zk3:EqCalls 94 encV:=by
 intro W x y;have HC:=hid fun w=>zeF x.1 y.1 x.sml y.sml w;have hz:(cmpV x y == 0)=decide (x=y):=by
  rw[Bool.eq_iff_iff];simp only[beq_iff_eq,decide_eq_true_eq];exact zgG x y
 unfold encV
 change Hid (∀w,Calls prog 92 _ w fun e w'=>e=.returned (.int .i64 (cmpV x y))/\Below w.heap.size w w') at HC
 generalize cmpV x y=c at HC hz;generalize decide (x=y)=b at hz ⊢;obtain ⟨⟨⟨k1,x1,e1⟩,⟨k2,x2,e2⟩,⟨k3,x3,e3⟩⟩,hx⟩:=x;obtain ⟨⟨⟨m1,y1,f1⟩,⟨m2,y2,f2⟩,⟨m3,y3,f3⟩⟩,hy⟩:=y;unfold encTri encT at HC ⊢;simp only[List.cons_append,List.nil_append]at HC ⊢;go_enter func94,ntmps94
 go_wp2_with fail
 refine (HC.out _).mono ?_;rintro e w1 ⟨rfl,hb⟩;go_wp2;go_ret;exact ⟨rfl,(((Below.refl _ W).alloc nL _).alloc (by simp) _).trans (hb.mono (by simp;omega))⟩
theorem zg5 (p:Option Addr) (cap:Nat) (fv:Value) (w:World):Calls prog 145 #[.slice p 0 cap,.int .i64 0,fv] w fun e w'=>e=.returned (.tuple #[])/\w'=w:=by
 have HI:=hid fun w=>AnyF.insertionSortCmpFunc_none (P:=prog) Tryz.insTr p cap fv w;have HI':Hid (∀w,Calls prog 220 #[.slice p 0 cap,.int .i64 0,.int .i64 0,fv] w fun e w'=>e=.returned (.tuple #[])/\w'=w):=HI;clear HI;go_enter func145,ntmps145
 go_wp2;refine wp_loop_rounds 1 ?_;rw[rounds_succ];go_wp2_with fail
 refine (HI'.out _).mono ?_;rintro e w1 ⟨rfl,rfl⟩;go_wp2;refine wp_loop_rounds 1 ?_;rw[rounds_succ];go_wp2;go_end0
 exact ⟨rfl,rfl⟩
theorem zdy (p:Option Addr) (cap:Nat) (fv:Value) (w:World):Calls prog 91 #[.slice p 0 cap,fv] w fun e w'=>e=.returned (.tuple #[])/\w'=w:=by
 have HC:=hid (zg5 p cap fv w);go_enter func91,ntmps91
 go_wp2_with fail
 refine HC.out.mono ?_;rintro e w1 ⟨rfl,rfl⟩;go_wp2;go_end0
 exact ⟨rfl,rfl⟩
theorem zfA (p:Option Addr) (cap:Nat) (fv:Value) (w:World):Calls prog 93 #[.slice p 0 cap,fv] w fun e w'=>e=.returned (.slice p 0 cap)/\w'=w:=by
 go_enter func93,ntmps93
 go_wp2;go_ret;exact ⟨rfl,rfl⟩
def RowV (w:World) (B:Nat) (v:Value) (l:List VTri):Prop:=w.ownsRow B 110 9 v l.length (l.flatMap encV)
theorem RowV.below {w w1:World} {B:Nat} {v:Value} {l:List VTri} (h:RowV w B v l) (hb:Below w.heap.size w w1):RowV w1 B v l:=(Fr.of_below hb fun _=>False).own h fun _ _ h=>h
theorem zaf {w:World} {B k n:Nat} {e:TypeId} {v:Value} {xs:List Value} (h:w.ownsRow B e k v n xs):v=.slice none 0 0/\n=0\/∃g cap,v=.slice (some ⟨g,0,none⟩) n cap/\B<=g/\g<w.heap.size/\n<=cap/\∀j u,xs[j]?=some u->w.cell? ⟨g,j,none⟩=some u:=by
 obtain ⟨hl,h⟩:=h;rcases h with h | ⟨g,cap,cur,rfl,hB,hh,h1,h2,h3,h4⟩
 · exact .inl h
 · refine .inr ⟨g,cap,rfl,hB,(Array.getElem?_eq_some_iff.1 hh).1,h1,fun j u hj=>?_⟩;rw[cell_of_heap hh,<-Array.getElem?_toList];rw[<-h4,List.getElem?_take]at hj;split at hj
   · exact hj
   · cases hj
theorem zbb:∃i,prog.info? 110=some i/\i.zero=some (.agg #[.int .i64 0,.string ⟨#[]⟩,.string ⟨#[]⟩,.int .i64 0,.string ⟨#[]⟩,.string ⟨#[]⟩,.int .i64 0,.string ⟨#[]⟩,.string ⟨#[]⟩])/\i.size=9/\i.bytes=120:=
 info_parts (by kernel_rfl)
theorem zcQ (l:List VTri) (v:Value) (B:Nat) (w:World) (h:RowV w B v l) (hl:l.length<=100000) :
    Calls prog 90 #[v] w fun e w'=>∃v',e=.returned v'/\RowV w' w.heap.size v' l/\Below w.heap.size w w':=by
 rcases zaf h with ⟨rfl,hn⟩ | ⟨g,cap,rfl,hB,hg,hc,hcell⟩
 · obtain rfl:l=[]:=List.eq_nil_of_length_eq_zero hn;refine (AnyE.slices_Clone_nil (P:=prog) Tryz.cloneTr 0 0 w).mono ?_;rintro e w' ⟨rfl,rfl⟩;exact ⟨_,rfl,World.ownsRow_nil _ _ _ _,br⟩
 · obtain ⟨i0,hi,hz0,hz1,hz2⟩:=zbb;have:=AnyE.slices_Clone (P:=prog) Tryz.cloneTr i0 _ 9 120 hi hz0 hz1 hz2 rfl (by decide) Tryz.sizeOf110 g 0 l.length cap (l.flatMap encV) w h.1 (by unfold maxLen;omega) (by omega) (fun j u hj=>by rw[Nat.zero_add];exact hcell j u hj) (fun u hu=>by
    rw[List.mem_flatMap]at hu;obtain ⟨x,_,hx⟩:=hu;exact zc2 x u hx)
   refine Calls.mono this ?_;rintro e w' ⟨v',rfl,hown,_,hb⟩;exact ⟨v',rfl,hown,hb⟩
def SortOf (l r:List VTri):Prop:=Rise (ltOf cmpV) r/\∀x,x∈r↔x∈l
theorem SortOf.one {l r r':List VTri} (h:SortOf l r) (h':SortOf l r'):r=r':=zcW swoV h.1 h'.1 fun x=>(h.2 x).trans (h'.2 x).symm
theorem ziF {w w1 w2:World} {g:Nat} (hb:Below w.heap.size w w1) (hf:Fr w1 w2 (fun j=>j=g)) (hg:w.heap.size<=g):Below w.heap.size w w2:=
 ((Fr.of_below hb (fun k=>w.heap.size<=k)).then_ hf fun k hk=>.inl (by omega)).belowB (fun k hk h=>by omega) nL
theorem zev (l:List VTri) (v:Value) (B:Nat) (w:World) (h:RowV w B v l) (hl:l.length<=100000) :
    Calls prog 35 #[v] w fun e w'=>∃v' r,e=.returned v'/\RowV w' w.heap.size v' r/\SortOf l r/\Below w.heap.size w w':=by
 have HC:=hid (zcQ l v B w h hl);clear h;go_enter func35,ntmps35
 go_wp2_with fail
 refine HC.out.mono ?_;rintro e w1 ⟨v1,rfl,hrow,hb1⟩;rcases zaf hrow with ⟨rfl,hn⟩ | ⟨g,cap,rfl,hB,hg,hc,_⟩
 · obtain rfl:l=[]:=List.eq_nil_of_length_eq_zero hn;have HS:=hid fun w=>zdy none 0 (.func (.func 92) #[] #[]) w;have HF:=hid fun w=>zfA none 0 (.func (.func 94) #[] #[]) w;go_wp2_with fail
   refine (HS.out _).mono ?_;rintro e w2 ⟨rfl,rfl⟩;go_wp2_with fail
   refine (HF.out _).mono ?_;rintro e w2 ⟨rfl,rfl⟩;go_wp2;go_ret;exact ⟨_,[],rfl,World.ownsRow_nil _ _ _ _,⟨List.Pairwise.nil,fun x=>Iff.rfl⟩,hb1⟩
 · obtain ⟨d,hd⟩:∃d:Array VTri,d.toList=l:=⟨l.toArray,by simp⟩;have hds:d.size=l.length:=(by rw[<-hd,Array.length_toList]);have hown:w1.ownsRow w.heap.size 110 9 (.slice (some ⟨g,0,none⟩) l.length cap) l.length (d.toList.flatMap encV):=(by rw[hd];exact hrow);obtain ⟨hH,_,_⟩:=zbk zbd hds hown;have T:StK 9 encV cmpV 92 #[] g 0 d w1:=⟨Tryz.isAgg110,Tryz.sizeOf110,swoV,zmJ,zkw _ _ _ _,⟨zbd,zc2,hH,hg⟩,by omega⟩;have hS:=zcS T cap (by omega);rw[hds]at hS;have HS:=hid hS;have HOWN:=hid hown;have HT:=hid T;clear hS hown T hrow hH;go_wp2_with fail
   refine HS.out.mono ?_;rintro e w2 ⟨rfl,r,hswk,hm⟩;have hrs:r.size=d.size:=hm.1;have how:=za5 zbd hds HOWN.out hrs hswk;have hF:=zeo 9 (by decide) Tryz.isAgg110 Tryz.sizeOf110 encV 94 zoi zk3 g cap w.heap.size r w2 zbd zc2 (by omega) _ Tryz.zeroValue110 rfl (by decide) (by rw[hrs,hds];exact how.1);rw[hrs,hds]at hF;have HF:=hid hF;have HM:=hid hm;have HB:=hid (ziF hb1 how.2 hB);clear hF hm hswk how;go_wp2_with fail
   refine HF.out.mono ?_;rintro e w3 ⟨rfl,hrow3,hf3⟩;go_wp2;go_ret;have hsort:=HM.out.2.2;rw[<-hds]at hsort;have hcr:=zbz swoV ltV_eq r (by rw[hrs];exact hsort) l.length (by omega);refine ⟨_,compactUpTo r l.length,rfl,hrow3,⟨hcr.1,fun x=>?_⟩,ziF HB.out hf3 hB⟩;rw[hcr.2,<-hd];rw[<-zlY (d:=d) (r:=r) (by have:=HM.out.2.1;rw[<-hds]at this;exact this) x,zkk,hrs,hds,hd]
end Go.Proofs.YtaeiifngjglchaaGreatDoor
end
section
namespace Go.Proofs.YtaeiifngjglchaaGreatDoor
open Go.Proofs.Tryz
open Go.RowKit Go.Lib Tv Go.Sort
def RowM (w:World) (B:Nat) (v:Value) (l:List VTm):Prop:=w.ownsRow B 62 3 v l.length (l.flatMap encM)
theorem RowM.below {w w1:World} {B:Nat} {v:Value} {l:List VTm} (h:RowM w B v l) (hb:Below w.heap.size w w1):RowM w1 B v l:=(Fr.of_below hb fun _=>False).own h fun _ _ h=>h
def Cell3 (w:World) (g o:Nat) (t:Tm):Prop:=w.cell? ⟨g,o,none⟩=some (.int .i64 t.k)/\w.cell? ⟨g,o+1,none⟩=some (.string (str t.x))/\w.cell? ⟨g,o+2,none⟩=some (.string (str t.e))
theorem Cell3.below {w w1:World} {g o:Nat} {t:Tm} (h:Cell3 w g o t) (hb:Below w.heap.size w w1):Cell3 w1 g o t:=
 ⟨zaa h.1 hb,zaa h.2.1 hb,zaa h.2.2 hb⟩
theorem RowM.at_ {w:World} {B n g cap:Nat} {l:List VTm} (h:RowM w B (.slice (some ⟨g,0,none⟩) n cap) l) (i:Nat) (t:VTm) (hi:l[i]?=some t):Cell3 w g (i*3) t.1:=by
 rcases zaf h with ⟨h,_⟩ | ⟨g',cap',hv,_,_,_,hc⟩
 · cases h
 · cases hv
   have hil:i<l.length:=(List.getElem?_eq_some_iff.1 hi).1;have key:∀j,j<3->(l.flatMap encM)[i*3+j]?=(encM t)[j]?:=by
    intro j hj;rw[zaH zbe l (i*3+j) (by omega)];rw[show (i*3+j) / 3=i from by omega,show (i*3+j) % 3=j from by omega,List.getD_eq_getElem?_getD,hi];rfl
   exact ⟨hc (i*3) _ (key 0 (by decide)),hc (i*3+1) _ (key 1 (by decide)),hc (i*3+2) _ (key 2 (by decide))⟩
theorem RowM.val {w:World} {B:Nat} {v:Value} {l:List VTm} (h:RowM w B v l) (hne:0<l.length):∃g cap,v=.slice (some ⟨g,0,none⟩) l.length cap/\B<=g/\g<w.heap.size/\l.length<=cap:=by
 rcases zaf h with ⟨_,h⟩ | ⟨g,cap,hv,hB,hg,hc,_⟩
 · omega
 · exact ⟨g,cap,hv,hB,hg,hc⟩
theorem Cell3.grow {w:World} {g o:Nat} {t:Tm} (h:Cell3 w g o t) (n:Nat) (os:Array Obj):Cell3 (Sort.grow (w.drewN n) os) g o t:=h.below (below_grow w n os)
theorem zdf (s t:VTm) (w:World) (n:Nat) (os:Array Obj) :
    Calls prog 70 #[.agg #[.int .i64 s.1.k,.string (str s.1.x),.string (str s.1.e)],.agg #[.int .i64 t.1.k,.string (str t.1.x),.string (str t.1.e)]] (Sort.grow (w.drewN n) os) fun e w''=>e=.returned (.int .i64 (cmpM s t))/\∃p:GrownBy,w''=Sort.grow (w.drewN p.n) p.os:=
 zc4 s.1 t.1 s.sml t.sml w n os
theorem zmY (l:List VTm) (hr:Rise (ltOf cmpM) l) (hl:l.length<1000000) (p:Nat) (t:VTm) (hp:l[p]?=some t) (B g cap:Nat) (w:World) (hrow:RowM w B (.slice (some ⟨g,0,none⟩) l.length cap) l) :
    Calls prog 205 #[.slice (some ⟨g,0,none⟩) l.length cap,.agg #[.int .i64 t.1.k,.string (str t.1.x),.string (str t.1.e)],.func (.func 70) #[] #[]] w fun e w'=>
     e=.returned (.tuple #[.int .i64 p,.bool true])/\Below w.heap.size w w':=by
 have hpl:p<l.length:=(List.getElem?_eq_some_iff.1 hp).1;obtain ⟨w0,hw0⟩:∃w0,w.alloc (.cells #[.int .i64 t.1.k,.string (str t.1.x),.string (str t.1.e)] 62)=w0:=⟨_,rfl⟩;have hb0:Below w.heap.size w w0:=(by rw[<-hw0];exact br.alloc nL _);have hn0:w0.heap.size=w.heap.size+1:=(by rw[<-hw0];simp);have hbox:Cell3 w0 w.heap.size 0 t.1:=(by rw[<-hw0];exact ⟨by simp,by simp,by simp⟩);have hel:∀i x,l[i]?=some x->Cell3 w0 g (i*3) x.1:=fun i x hi=>(hrow.at_ i x hi).below hb0;have hlt:∀i x,l[i]?=some x->i<p->cmpM x t<0:=by
  intro i x hi hip;have:=(List.pairwise_iff_getElem.1 hr) i p (List.getElem?_eq_some_iff.1 hi).1 hpl hip;rw[(List.getElem?_eq_some_iff.1 hi).2,(List.getElem?_eq_some_iff.1 hp).2]at this;unfold ltOf at this;exact oT this
 have hge:∀i x,l[i]?=some x->p<=i->¬cmpM x t<0:=by
  intro i x hi hip hc;rcases Nat.lt_or_eq_of_le hip with h | h
  · have:=(List.pairwise_iff_getElem.1 hr) p i hpl (List.getElem?_eq_some_iff.1 hi).1 h;rw[(List.getElem?_eq_some_iff.1 hi).2,(List.getElem?_eq_some_iff.1 hp).2]at this;have h2:=swoM.asymmA this;unfold ltOf at h2;exact of_decide_eq_false h2 hc
  · subst h;rw[hp]at hi;cases hi
    have:=(zd4 t t).2 rfl;omega
 have HEL:=hid hel;have HLT:=hid hlt;have HGE:=hid hge;have HBOX:=hid hbox;have HB0:=hid hb0;have HP:=hid hp;obtain ⟨n,hn1,hn2⟩:∃n,l.length<=n/\n<=l.length:=⟨_,nL,nL⟩;obtain rfl:n=l.length:=(by omega);generalize hN:l.length=n at hl hpl ⊢;have HN:=hid hN;clear hn1 hn2 hel hlt hge hbox hb0 hp hrow hr hN;have hmix:=mixed;have hent:=zhH;go_enter func205,ntmps205
 go_wp2;go_loopg [9,10] n (fun kx s9 s10 wr=>∃lo hi:Nat,s9=.int .i64 lo/\s10=.int .i64 hi/\lo<=p/\p<=hi/\hi<=n/\hi-lo<=kx/\Below w0.heap.size w0 wr)
 case atStart=>exact ⟨0,n,rfl,rfl,Nat.zero_le _,by omega,nL,by omega,br⟩
 case round=>
  obtain ⟨lo,hi,rfl,rfl,hlo,hhi,hin,hg,hb⟩:=hrel;have HB:=hid hb;clear hb;by_cases hlt:lo<hi
  · have hltz:(lo:Int)<(hi:Int):=(by omega);obtain ⟨h,hh⟩:∃h:Nat,(lo+hi) / 2=h:=⟨_,rfl⟩;have eh1:((lo:Int)+(hi:Int)) / 2=(h:Int):=(by omega);have eh2:IntKind.i64.wrap ((lo:Int)+(hi:Int))=(lo:Int)+(hi:Int):=(wI (by omega));have hhz:(h:Int)<(n:Int):=(by omega);obtain ⟨x,hx⟩:∃x,l[h]?=some x:=⟨_,List.getElem?_eq_getElem (by have:=HN.out;omega)⟩;have hc:=(HEL.out h x hx).below HB.out;have hbx:=HBOX.out.below HB.out;have c0:=fun m os=>(hc.grow m os).1;have c1:=fun m os=>(hc.grow m os).2.1;have c2:=fun m os=>(hc.grow m os).2.2;have b0:=fun m os=>(hbx.grow m os).1;have b1:=fun m os=>(hbx.grow m os).2.1;have b2:=fun m os=>(hbx.grow m os).2.2;have HC:=hid fun m os=>zdf x t wr m os;have HX:=hid hx;clear hc hbx hx;by_cases hhp:h<p
    · have hv:=HLT.out h x HX.out hhp;have hd:decide (cmpM x t<0)=true:=dT hv;go_wp2_with fail
      go_quiet_grown (first | (go_at_fn 70;exact HC.out _ _))
      have HB2:=hid (HB.out.trans ((below_grow wr nq osq).mono HB.out.size));clear c0 c1 c2 b0 b1 b2 HC;generalize Sort.grow (wr.drewN nq) osq=w2 at HB2 ⊢;go_wp2;go_roundg (hi-(h+1))
      case measure=>omega
      case rel=>exact ⟨h+1,hi,by go_num,rfl,by omega,hhi,hin,nL,HB2.out⟩
    · have hv:=HGE.out h x HX.out (by omega);have hd:decide (cmpM x t<0)=false:=dF (by omega);go_wp2_with fail
      go_quiet_grown (first | (go_at_fn 70;exact HC.out _ _))
      have HB2:=hid (HB.out.trans ((below_grow wr nq osq).mono HB.out.size));clear c0 c1 c2 b0 b1 b2 HC;generalize Sort.grow (wr.drewN nq) osq=w2 at HB2 ⊢;go_wp2;go_roundg (h-lo)
      case measure=>omega
      case rel=>exact ⟨lo,h,rfl,rfl,hlo,by omega,by omega,nL,HB2.out⟩
  · obtain rfl:lo=p:=(by omega);obtain rfl:hi=lo:=(by omega);have hltz:¬(hi:Int)<(hi:Int):=(by omega);have hhz:(hi:Int)<(n:Int):=(by omega);have hdz:decide ((hi:Int)<(n:Int))=true:=dT hhz;have hc:=(HEL.out hi t HP.out).below HB.out;have hbx:=HBOX.out.below HB.out;have c0:=fun m os=>(hc.grow m os).1;have c1:=fun m os=>(hc.grow m os).2.1;have c2:=fun m os=>(hc.grow m os).2.2;have b0:=fun m os=>(hbx.grow m os).1;have b1:=fun m os=>(hbx.grow m os).2.1;have b2:=fun m os=>(hbx.grow m os).2.2;have HC:=hid fun m os=>zdf t t wr m os;rw[(zd4 t t).2 rfl]at HC;clear hc hbx;go_wp2_with fail
    go_quiet_grown (first | (go_at_fn 70;exact HC.out _ _))
    have HB2:=hid (HB.out.trans ((below_grow wr nq osq).mono HB.out.size));clear c0 c1 c2 b0 b1 b2 HC;generalize Sort.grow (wr.drewN nq) osq=w2 at HB2 ⊢;go_wp2;go_ret2;exact ⟨rfl,HB0.out.trans (HB2.out.mono HB0.out.size)⟩
theorem zhj (l:List VTm) (hr:Rise (ltOf cmpM) l) (hl:l.length<1000000) (p:Nat) (t:VTm) (hp:l[p]?=some t) (B g cap:Nat) (w:World) (hrow:RowM w B (.slice (some ⟨g,0,none⟩) l.length cap) l) :
    Calls prog 134 #[.slice (some ⟨g,0,none⟩) l.length cap,.agg #[.int .i64 t.1.k,.string (str t.1.x),.string (str t.1.e)]] w fun e w'=>
     e=.returned (.tuple #[.int .i64 p,.bool true])/\Below w.heap.size w w':=by
 have hb0:Below w.heap.size w (w.alloc (.cells #[.int .i64 t.1.k,.string (str t.1.x),.string (str t.1.e)] 62)):=br.alloc nL _;have HC:=hid (zmY l hr hl p t hp B g cap _ (hrow.below hb0));have HB:=hid hb0;clear hb0 hrow hp hr hl;go_enter func134,ntmps134
 go_wp2_with fail
 refine HC.out.mono ?_;rintro e w1 ⟨rfl,hb1⟩;go_wp2;go_ret2;exact ⟨rfl,HB.out.trans (hb1.mono HB.out.size)⟩
theorem zmv (l:List VTm) (hr:Rise (ltOf cmpM) l) (hl:l.length<1000000) (p:Nat) (t:VTm) (hp:l[p]?=some t) (B g cap S:Nat) (w:World) (hrow:RowM w B (.slice (some ⟨g,0,none⟩) l.length cap) l)
    (hS:w.cell? ⟨S,1,none⟩=some (.slice (some ⟨g,0,none⟩) l.length cap)) :
    Calls prog 72 #[.pointer (some ⟨S,0,none⟩),.agg #[.int .i64 t.1.k,.string (str t.1.x),.string (str t.1.e)]] w fun e w'=>
     e=.returned (.int .i64 ((p:Int)+1))/\Below w.heap.size w w':=by
 have hpl:p<l.length:=(List.getElem?_eq_some_iff.1 hp).1;obtain ⟨w0,hw0⟩:∃w0,w.alloc (.cells #[.int .i64 t.1.k,.string (str t.1.x),.string (str t.1.e)] 62)=w0:=⟨_,rfl⟩;have hb0:Below w.heap.size w w0:=(by rw[<-hw0];exact br.alloc nL _);have hbox:Cell3 w0 w.heap.size 0 t.1:=(by rw[<-hw0];exact ⟨by simp,by simp,by simp⟩);have hS0:=zaa hS hb0;have sg:=fun m os=>cell_grown (World.block_lt_of_cell? w0 _ hS0) hS0 m os;have b0:=fun m os=>(hbox.grow m os).1;have b1:=fun m os=>(hbox.grow m os).2.1;have b2:=fun m os=>(hbox.grow m os).2.2;have HC:=hid fun m os=>Calls.grown_of (Dr.calls_grow (zhj l hr hl p t hp B g cap (Sort.grow (w0.drewN m) os) ((hrow.below hb0).below (below_grow _ _ _))));have HEL:=hid ((hrow.at_ p t hp).below hb0);have HBOX:=hid hbox;have HB0:=hid hb0;have HS0:=hid hS0;have ent:∀args w,(callFunc 134 args).run prog w=.ok (.enter 134 args) w:=enters_of func134 (by kernel_rfl) rfl;have hmix:=mixed;clear hb0 hbox hrow hp hr hS hS0;go_enter func72,ntmps72
 go_wp2;go_quiet_grown (first | (go_at_fn 134;exact HC.out _ _))
 have hb2:=below_grow w0 nq osq;have c0:=(HEL.out.below hb2).1;have c1:=(HEL.out.below hb2).2.1;have c2:=(HEL.out.below hb2).2.2;have d0:=(HBOX.out.below hb2).1;have d1:=(HBOX.out.below hb2).2.1;have d2:=(HBOX.out.below hb2).2.2;have sc:=zaa HS0.out hb2;have HB2:=hid hb2;clear sg b0 b1 b2 HC hb2;generalize Sort.grow (w0.drewN nq) osq=w2 at HB2 c0 c1 c2 d0 d1 d2 sc ⊢;clear nq osq;have hpz:(p:Int)<(l.length:Int):=(by omega);go_wp2_with fail
 go_quiet (fail)
 clear c0 c1 c2 d0 d1 d2 sc;have hbq:Below w2.heap.size w2 (w2.drewN nq):=⟨rfl,rfl,rfl,nL,fun _ _=>rfl⟩;generalize w2.drewN nq=w3 at hbq ⊢;go_wp2;go_ret;exact ⟨by go_num,HB0.out.trans ((HB2.out.mono HB0.out.size).trans (hbq.mono (Nat.le_trans HB0.out.size HB2.out.size)))⟩
structure Ids where
 a:Int
 b:Int
 c:Int
 deriving DecidableEq,Inhabited
def encI (x:Ids):List Value:=[.int .i64 x.a,.int .i64 x.b,.int .i64 x.c]
def cmpI (a b:Int):Int:=if a<b then -1 else if b<a then 1 else 0
def cmpIds (x y:Ids):Int:=or3 (cmpI x.a y.a) (cmpI x.b y.b) (cmpI x.c y.c)
def Cell3I (w:World) (g:Nat) (x:Ids):Prop:=w.cell? ⟨g,0,none⟩=some (.int .i64 x.a)/\w.cell? ⟨g,1,none⟩=some (.int .i64 x.b)/\w.cell? ⟨g,2,none⟩=some (.int .i64 x.c)
theorem za6 (a b:Int) (w:World):Calls prog 136 #[.int .i64 a,.int .i64 b] w fun e w'=>e=.returned (.int .i64 (cmpI a b))/\w'=w:=by
 refine (Tryz.cmp_Compare_int a b w).mono ?_;rintro e w' ⟨rfl,rfl⟩;refine ⟨?_,rfl⟩
 congr 2
theorem zel (p q:Nat) (x y:Ids) (w:World) (hx:Cell3I w p x) (hy:Cell3I w q y) :
    Calls prog 75 #[.slice (some ⟨p,0,none⟩) 3 3,.slice (some ⟨q,0,none⟩) 3 3] w fun e w'=>e=.returned (.int .i64 (cmpIds x y))/\w'=w:=by
 obtain ⟨a1,a2,a3⟩:=hx;obtain ⟨b1,b2,b3⟩:=hy;unfold cmpIds;obtain ⟨xa,xb,xc⟩:=x;obtain ⟨ya,yb,yc⟩:=y;simp only at a1 a2 a3 b1 b2 b3 ⊢;have H1:=hid fun w=>za6 xa ya w;have H2:=hid fun w=>za6 xb yb w;have H3:=hid fun w=>za6 xc yc w;generalize cmpI xa ya=r1 at H1 ⊢;generalize cmpI xb yb=r2 at H2 ⊢;generalize cmpI xc yc=r3 at H3 ⊢;go_enter func75,ntmps75
 go_wp2;go_loopw [11] (fun i wr=>Hid (wr=w)/\∃(k:Nat),i=.int .i64 k/\(k=0\/(k=1/\Hid (r1=0))\/(k=2/\Hid (r1=0)/\Hid (r2=0))\/(k=3/\Hid (r1=0)/\Hid (r2=0)/\Hid (r3=0)))) (fun i _=>3-(RowKit.intOf i).toNat)
 case atStart=>exact ⟨(rfl:w=w),0,rfl,.inl rfl⟩
 case round=>
  obtain ⟨hw,k,rfl,hk⟩:=hrel;obtain rfl:=hw.out;rcases hk with rfl | ⟨rfl,E1⟩ | ⟨rfl,E1,E2⟩ | ⟨rfl,E1,E2,E3⟩
  · by_cases hr:r1=0
    · have hb:(r1 == 0)=true:=(by simp[hr]);have EE:=hid hr;clear hr;go_wp2_with fail
      refine (H1.out _).mono ?_;rintro e w1 ⟨rfl,rfl⟩;go_wp2;go_round
      case measure=>decide
      case rel=>exact ⟨trivial,1,rfl,.inr (.inl ⟨rfl,EE⟩)⟩
    · have hb:(r1 == 0)=false:=(by simp[hr]);have EE:=hid hr;clear hr;go_wp2_with fail
      refine (H1.out _).mono ?_;rintro e w1 ⟨rfl,rfl⟩;go_wp2;go_ret;exact ⟨by unfold or3;rw[if_neg EE.out];rfl,rfl⟩
  · by_cases hr:r2=0
    · have hb:(r2 == 0)=true:=(by simp[hr]);have EE:=hid hr;clear hr;go_wp2_with fail
      refine (H2.out _).mono ?_;rintro e w1 ⟨rfl,rfl⟩;go_wp2;go_round
      case measure=>decide
      case rel=>exact ⟨trivial,2,rfl,.inr (.inr (.inl ⟨rfl,E1,EE⟩))⟩
    · have hb:(r2 == 0)=false:=(by simp[hr]);have EE:=hid hr;clear hr;go_wp2_with fail
      refine (H2.out _).mono ?_;rintro e w1 ⟨rfl,rfl⟩;go_wp2;go_ret;exact ⟨by unfold or3;rw[if_pos E1.out,if_neg EE.out];rfl,rfl⟩
  · by_cases hr:r3=0
    · have hb:(r3 == 0)=true:=(by simp[hr]);have EE:=hid hr;clear hr;go_wp2_with fail
      refine (H3.out _).mono ?_;rintro e w1 ⟨rfl,rfl⟩;go_wp2;go_round
      case measure=>decide
      case rel=>exact ⟨trivial,3,rfl,.inr (.inr (.inr ⟨rfl,E1,E2,EE⟩))⟩
    · have hb:(r3 == 0)=false:=(by simp[hr]);have EE:=hid hr;clear hr;go_wp2_with fail
      refine (H3.out _).mono ?_;rintro e w1 ⟨rfl,rfl⟩;go_wp2;go_ret;exact ⟨by unfold or3;rw[if_pos E1.out,if_pos E2.out];rfl,rfl⟩
  · go_wp2;go_ret;exact ⟨by unfold or3;rw[if_pos E1.out,if_pos E2.out,E3.out];rfl,rfl⟩
def sM (t:VTri):VTm:=⟨t.1.s,t.s⟩
def pM (t:VTri):VTm:=⟨t.1.p,t.p⟩
def oM (t:VTri):VTm:=⟨t.1.o,t.o⟩
def flatM (L:List VTri):List VTm:=L.flatMap fun t=>[sM t,pM t,oM t]
theorem zdT:∀L:List VTri,(flatM L).length=3*L.length
 | []=>rfl
 | t::L=>by
  have:=zdT L;unfold flatM at *;rw[List.flatMap_cons,List.length_append,this,List.length_cons,List.length_cons,List.length_cons,List.length_cons];simp;omega
def TermsOf (L:List VTri) (ts:List VTm):Prop:=Rise (ltOf cmpM) ts/\∀x,x∈ts↔x∈flatM L
theorem TermsOf.one {L:List VTri} {ts ts':List VTm} (h:TermsOf L ts) (h':TermsOf L ts'):ts=ts':=zcW swoM h.1 h'.1 fun x=>(h.2 x).trans (h'.2 x).symm
theorem zg2 {α:Type} [BEq α] [LawfulBEq α]:∀(l m:List α),l.Nodup->(∀x∈l,x∈m)->l.length<=m.length
 | [],_,_,_=>Nat.zero_le _
 | x::l,m,hn,hs=>by
  rw[List.nodup_cons]at hn;have hx:=hs x (List.mem_cons_self ..);have:=zg2 l (m.erase x) hn.2 (fun y hy=>(List.mem_erase_of_ne (fun e=>hn.1 (by rw[<-e];exact hy))).2 (hs y (List.mem_cons_of_mem _ hy)));rw[List.length_erase_of_mem hx]at this;have:=List.length_pos_of_mem hx;rw[List.length_cons];omega
theorem Rise.nodup {β:Type} {lt:β->β->Bool} (hO:SWO lt) {l:List β} (h:Rise lt l):l.Nodup:=by
 refine List.Pairwise.imp ?_ h;intro a b hab e;rw[e,hO.irrefl b]at hab;cases hab
theorem TermsOf.len {L:List VTri} {ts:List VTm} (h:TermsOf L ts):ts.length<=3*L.length:=by
 rw[<-zdT];exact zg2 ts (flatM L) (Rise.nodup swoM h.1) fun x hx=>(h.2 x).1 hx
theorem mem_s {L:List VTri} {t:VTri} (h:t∈L):sM t∈flatM L:=List.mem_flatMap.2 ⟨t,h,by simp⟩
theorem mem_p {L:List VTri} {t:VTri} (h:t∈L):pM t∈flatM L:=List.mem_flatMap.2 ⟨t,h,by simp⟩
theorem mem_o {L:List VTri} {t:VTri} (h:t∈L):oM t∈flatM L:=List.mem_flatMap.2 ⟨t,h,by simp⟩
def noOf (ts:List VTm) (x:VTm):Nat:=ts.idxOf x+1
theorem zce {ts:List VTm} {x:VTm} (h:x∈ts):ts[noOf ts x-1]?=some x:=by
 unfold noOf;have hl:ts.idxOf x<ts.length:=List.idxOf_lt_length_of_mem h;rw[Nat.add_sub_cancel,List.getElem?_eq_getElem hl,List.getElem_idxOf hl]
theorem zaY {ts:List VTm} {x:VTm} (h:x∈ts):1<=noOf ts x/\noOf ts x<=ts.length:=by
 have hl:ts.idxOf x<ts.length:=List.idxOf_lt_length_of_mem h;unfold noOf;omega
theorem zfb {ts:List VTm} (hr:Rise (ltOf cmpM) ts) {i j:Nat} {x y:VTm} (hi:ts[i]?=some x) (hj:ts[j]?=some y):shw x.1<shw y.1↔i<j:=by
 have hil:=(List.getElem?_eq_some_iff.1 hi).1;have hjl:=(List.getElem?_eq_some_iff.1 hj).1;have key:∀(a b:Nat) (u v:VTm),ts[a]?=some u->ts[b]?=some v->a<b->shw u.1<shw v.1:=by
  intro a b u v ha hb hab;have:=(List.pairwise_iff_getElem.1 hr) a b (List.getElem?_eq_some_iff.1 ha).1 (List.getElem?_eq_some_iff.1 hb).1 hab;rw[(List.getElem?_eq_some_iff.1 ha).2,(List.getElem?_eq_some_iff.1 hb).2]at this;unfold ltOf cmpM cmpT at this;rw[decide_eq_true_eq,zbv]at this;exact this
 constructor
 · intro h;rcases Nat.lt_trichotomy i j with hlt | rfl | hgt
   · exact hlt
   · rw[hi]at hj;cases hj
     exact absurd h (List.lt_irrefl _)
   · exact absurd (List.lt_trans h (key j i y x hj hi hgt)) (List.lt_irrefl _)
 · exact key i j x y hi hj
theorem zhq {ts:List VTm} (hr:Rise (ltOf cmpM) ts) {x y:VTm} (hx:x∈ts) (hy:y∈ts):shw x.1<shw y.1↔noOf ts x<noOf ts y:=by
 rw[zfb hr (zce hx) (zce hy)];have:=zaY hx;have:=zaY hy;omega
def idsOf (ts:List VTm) (t:VTri):Ids:=⟨noOf ts (sM t),noOf ts (pM t),noOf ts (oM t)⟩
theorem ziA (a b:Nat):(cmpI (a:Int) (b:Int)<0↔a<b)/\(cmpI (a:Int) (b:Int)=0↔a=b):=by
 unfold cmpI;by_cases h:a<b
 · rw[if_pos (by omega)];constructor<;>omega
 · rw[if_neg (by omega)];by_cases h2:b<a
   · rw[if_pos (by omega)];constructor<;>omega
   · rw[if_neg (by omega)];constructor<;>omega
theorem znQ (a b c:Int):or3 a b c<0↔a<0\/(a=0/\(b<0\/(b=0/\c<0))):=by
 unfold or3;split
 · split<;>omega
 · omega
structure StP (L:List VTri) (ts:List VTm):Prop where
 rise:Rise (ltOf cmpV) L
 len:L.length<=100
 terms:TermsOf L ts
theorem StP.s {L:List VTri} {ts:List VTm} (h:StP L ts) {t:VTri} (ht:t∈L):sM t∈ts:=(h.terms.2 _).2 (mem_s ht)
theorem StP.p {L:List VTri} {ts:List VTm} (h:StP L ts) {t:VTri} (ht:t∈L):pM t∈ts:=(h.terms.2 _).2 (mem_p ht)
theorem StP.o {L:List VTri} {ts:List VTm} (h:StP L ts) {t:VTri} (ht:t∈L):oM t∈ts:=(h.terms.2 _).2 (mem_o ht)
theorem StP.tlen {L:List VTri} {ts:List VTm} (h:StP L ts):ts.length<=300:=by
 have:=h.terms.len;have:=h.len;omega
theorem zlL {x y:VTm} (h:shw x.1=shw y.1):x=y:=Subtype.ext (zbT x.2 y.2 h)
theorem StP.ids {L:List VTri} {ts:List VTm} (h:StP L ts):Rise (ltOf cmpIds) (L.map (idsOf ts)):=by
 unfold Rise;rw[List.pairwise_map];refine List.Pairwise.imp_of_mem ?_ h.rise;intro a b ha hb hab;unfold ltOf cmpV at hab;rw[decide_eq_true_eq,zbK]at hab;unfold ltOf;rw[decide_eq_true_eq];unfold cmpIds idsOf;rw[znQ];simp only[(ziA _ _).1,(ziA _ _).2];unfold KLt keyT at hab;simp only at hab;have one:∀{x y:VTm},shw x.1=shw y.1->noOf ts x=noOf ts y:=fun e=>(by rw[zlL e]);rcases hab with g | ⟨e,g⟩
 · exact .inl ((zhq h.terms.1 (h.s ha) (h.s hb)).1 g)
 · refine .inr ⟨one (x:=sM a) (y:=sM b) e,?_⟩;rcases g with g | ⟨e2,g⟩
   · exact .inl ((zhq h.terms.1 (h.p ha) (h.p hb)).1 g)
   · exact .inr ⟨one (x:=pM a) (y:=pM b) e2,(zhq h.terms.1 (h.o ha) (h.o hb)).1 g⟩
def texts (ts:List VTm):List Bs:=ts.map fun t=>shw t.1
def rowN (ts:List VTm) (L:List VTri):List Nat:=L.flatMap fun t=>[noOf ts (sM t),noOf ts (pM t),noOf ts (oM t)]
theorem zbC (ts:List VTm):∀L:List VTri,(rowN ts L).length=L.length*3
 | []=>rfl
 | t::L=>by
  have:=zbC ts L;unfold rowN at *;rw[List.flatMap_cons,List.length_append,this,List.length_cons];simp;omega
def bodyN (ts:List VTm) (L:List VTri):Bs:=UInt8.ofNat (L.length / 256)::UInt8.ofNat L.length::(Pk.packB (rowN ts L) (Lib.bitLen ts.length)).map UInt8.ofNat
def secN (ts:List VTm) (L:List VTri):List Bx.Sec:=[⟨1,Fp.enc (texts ts)⟩,⟨2,bodyN ts L⟩]
def fileN (ts:List VTm) (L:List VTri):Bs:=Bx.boxB (secN ts L)
theorem zlh {n:Nat} (h:n<2 ^ 64):n<2 ^ (Lib.bitLen n):=by
 unfold Lib.bitLen;by_cases h0:n=0
 · subst h0;rw[bitLenAux_zero];decide
 · exact (bitLenAux_bounds 64 n h h0).2.2
theorem zbM {n:Nat} (h:n<=300):Lib.bitLen n<=9:=by
 by_cases h0:n=0
 · subst h0;decide
 · have:=bitLenAux_bounds 64 n (by omega) h0;unfold Lib.bitLen;refine Decidable.byContradiction fun hc=>?_;have h2:2 ^ 9<=2 ^ (bitLenAux 64 n-1):=Nat.pow_le_pow_right (by decide) (by omega);omega
theorem StP.row_lt {L:List VTri} {ts:List VTm} (h:StP L ts):∀x∈rowN ts L,1<=x/\x<=ts.length:=by
 intro x hx;unfold rowN at hx;obtain ⟨t,ht,hx⟩:=List.mem_flatMap.1 hx;simp only[List.mem_cons,List.not_mem_nil,or_false]at hx;rcases hx with rfl | rfl | rfl
 · exact zaY (h.s ht)
 · exact zaY (h.p ht)
 · exact zaY (h.o ht)
theorem StP.row_bits {L:List VTri} {ts:List VTm} (h:StP L ts):∀x∈rowN ts L,x<2 ^ (Lib.bitLen ts.length):=by
 intro x hx;have h1:=h.row_lt x hx;have h2:=h.tlen;have h3:=zlh (n:=ts.length) (by omega);omega
theorem zgU {l:Bs} (h:txtT l=true):(qt l).length<=182:=by
 unfold txtT at h;simp only[Bool.and_eq_true,decide_eq_true_eq]at h;have:=zj7 l;omega
theorem zmj {l:Bs} (h:langT l=true):l.length<=16:=by
 unfold langT at h;simp only[Bool.and_eq_true,decide_eq_true_eq]at h;exact h.2
theorem za0 (t:Tm) (h:tmT t=true):1<=(shw t).length/\(shw t).length<=250:=by
 obtain ⟨k,x,e⟩:=t;have lab:∀{l:Bs},labT l=true->l.length<=60:=fun {l} h=>by
  unfold labT at h;simp only[Bool.and_eq_true,decide_eq_true_eq]at h;omega
 have one:∀l:Bs,1<=(qt l).length:=fun l=>(by unfold qt;simp);unfold tmT at h;simp only at h;unfold shw;simp only;by_cases h1:k=1
 · rw[if_pos h1]at h ⊢;simp only[Bool.and_eq_true]at h;have:=zcY h.1;simp;omega
 rw[if_neg h1]at h ⊢;by_cases h2:k=2
 · rw[if_pos h2]at h ⊢;simp only[Bool.and_eq_true]at h;have:=lab h.1;simp;omega
 rw[if_neg h2]at h ⊢;by_cases h3:k=3
 · rw[if_pos h3]at h;subst h3;simp only[Bool.and_eq_true]at h;have:=zgU h.1;have:=one x;rw[if_neg (by decide),if_neg (by decide)];omega
 rw[if_neg h3]at h;by_cases h4:k=4
 · rw[if_pos h4]at h ⊢;simp only[Bool.and_eq_true]at h;have:=zgU h.1;have:=one x;have:=zmj h.2;simp;omega
 rw[if_neg h4]at h ⊢;by_cases h5:k=5
 · rw[if_pos h5]at h ⊢;simp only[Bool.and_eq_true]at h;have:=zgU h.1;have:=one x;have:=zcY h.2;simp;omega
 rw[if_neg h5]at h;cases h
theorem zfw:∀(X:List Bs) (i:Nat) (p:Bs),(∀s∈X,s.length<=250)->(Fp.encF i p X).length<=252*X.length
 | [],_,_,_=>by simp[Fp.encF]
 | s::X,i,p,h=>by
  have h1:=zfw X (i+1) s fun x hx=>h x (List.mem_cons_of_mem _ hx);have h2:=Fp.zng i p s;have h3:=h s (List.mem_cons_self ..);show (Fp.ent i p s++Fp.encF (i+1) s X).length<=_;rw[List.length_append,List.length_cons];omega
theorem zdg (ts:List VTm):(texts ts).length=ts.length:=by simp[texts]
theorem zdh (ts:List VTm):∀s∈texts ts,s.length<=250:=by
 intro s hs;unfold texts at hs;obtain ⟨t,_,rfl⟩:=List.mem_map.1 hs;exact (za0 t.1 t.2).2
theorem StP.may {L:List VTri} {ts:List VTm} (h:StP L ts):Bx.MayB (secN ts L):=by
 refine ⟨by simp[secN],⟨by show 0<1;decide,by show 1<=255;decide,by show 1<2;decide,by show 2<=255;decide,trivial⟩,?_⟩;have h1:=zfw (texts ts) 0 [] (zdh ts);have h2:=h.tlen;have h3:=h.len;have h4:=zbM h2;have e1:(Fp.enc (texts ts)).length=2+(Fp.encF 0 [] (texts ts)).length:=by
  show (Fp.encF 0 [] (texts ts)).length+1+1=_;omega
 have e2:(bodyN ts L).length=2+(L.length*3*Lib.bitLen ts.length+7) / 8:=by
  show (List.map UInt8.ofNat (Pk.packB (rowN ts L) (Lib.bitLen ts.length))).length+1+1=_;rw[List.length_map,Pk.packB_len,zbC];omega
 have e3:L.length*3*Lib.bitLen ts.length<=300*9:=Nat.mul_le_mul (by omega) h4;rw[zdg]at h1;have e4:(Bx.bodB (secN ts L)).length=(Fp.enc (texts ts)).length+(bodyN ts L).length:=by
  unfold Bx.bodB secN;simp
 rw[e4,e1,e2];show 9+7*2+_<=100000;omega
theorem StP.bx {L:List VTri} {ts:List VTm} (h:StP L ts):Bx.BxIs (fileN ts L) (secN ts L):=⟨h.may,rfl⟩
theorem StP.pk {L:List VTri} {ts:List VTm} (h:StP L ts):Pk.PkIs (Pk.packB (rowN ts L) (Lib.bitLen ts.length)) (L.length*3) (Lib.bitLen ts.length) (rowN ts L):=
 ⟨zbC ts L,h.row_bits,rfl⟩
section
variable {β:Type} {lt:β->β->Bool}
structure Spot (lt:β->β->Bool) (l:List β) (x:β) (i:Nat):Prop where
 le:i<=l.length
 lo:∀y∈l.take i,lt y x=true
theorem Spot.zero (lt:β->β->Bool) (l:List β) (x:β):Spot lt l x 0:=⟨Nat.zero_le _,fun y h=>by simp at h⟩
theorem Spot.next {l:List β} {x:β} {i:Nat} (h:Spot lt l x i) (hi:i<l.length) (h2:lt l[i] x=true):Spot lt l x (i+1):=by
 refine ⟨hi,fun y hy=>?_⟩;rw[List.take_add_one,List.getElem?_eq_getElem hi]at hy;rcases List.mem_append.1 hy with hy | hy
 · exact h.lo y hy
 · simp at hy;subst hy;exact h2
theorem ins_ok (hO:SWO lt) {l:List β} {x:β} {i:Nat} (hr:Rise lt l) (h:Spot lt l x i) (h2:∀y,l[i]?=some y->lt x y=true) :
    Rise lt (l.take i++x::l.drop i)/\∀y,y∈(l.take i++x::l.drop i)↔y∈l\/y=x:=by
 have hsplit:=List.take_append_drop i l;have hr':=hr;unfold Rise at hr';rw[<-hsplit,List.pairwise_append]at hr';obtain ⟨p1,p2,p3⟩:=hr';have hx:∀y∈l.drop i,lt x y=true:=by
  intro y hy;cases hd:l.drop i with
  | nil=>rw[hd]at hy;cases hy
  | cons z r=>
   have hz:l[i]?=some z:=by
    have:=congrArg (fun m=>m[0]?) hd;simpa using this
   have hxz:=h2 z hz;rw[hd]at hy p2;rcases List.mem_cons.1 hy with rfl | hy
   · exact hxz
   · exact hO.trans _ _ _ hxz ((List.pairwise_cons.1 p2).1 y hy)
 refine ⟨?_,fun y=>?_⟩
 · unfold Rise;rw[List.pairwise_append];refine ⟨p1,List.pairwise_cons.2 ⟨hx,p2⟩,?_⟩;intro a ha b hb;rcases List.mem_cons.1 hb with rfl | hb
   · exact h.lo a ha
   · exact p3 a ha b hb
 · conv=>rhs;rw[<-hsplit]
   simp only[List.mem_append,List.mem_cons];constructor
   · rintro (h | h | h)
     · exact .inl (.inl h)
     · exact .inr h
     · exact .inl (.inr h)
   · rintro ((h | h) | h)
     · exact .inl h
     · exact .inr (.inr h)
     · exact .inr (.inl h)
def SortB (lt:β->β->Bool) (A r:List β):Prop:=Rise lt r/\∀x,x∈r↔x∈A
theorem SortB.nil (lt:β->β->Bool):SortB lt [] []:=⟨List.Pairwise.nil,fun _=>Iff.rfl⟩
theorem SortB.put (hO:SWO lt) {A r:List β} {x:β} {i:Nat} (h:SortB lt A r) (hs:Spot lt r x i) (h2:∀y,r[i]?=some y->lt x y=true):SortB lt (A++[x]) (r.take i++x::r.drop i):=by
 obtain ⟨h3,h4⟩:=ins_ok hO h.1 hs h2;refine ⟨h3,fun y=>?_⟩;rw[h4,h.2];simp
theorem SortB.skip {A r:List β} {x:β} (h:SortB lt A r) (hx:x∈r):SortB lt (A++[x]) r:=by
 refine ⟨h.1,fun y=>?_⟩;rw[h.2];have:=(h.2 x).1 hx;simp only[List.mem_append,List.mem_singleton];exact ⟨.inl,fun h=>h.elim id fun e=>e ▸ this⟩
end
theorem ltV_of {x y:VTri} (h:¬cmpV y x<0) (h2:y≠x):ltOf cmpV x y=true:=by
 unfold ltOf;rw[decide_eq_true_eq];unfold cmpV at h ⊢;rw[zbK]at h ⊢;rcases KLt.tri (keyT y.1) (keyT x.1) with g | g | g
 · exact absurd g h
 · exact absurd (zhz g) h2
 · exact g
theorem ltM_of {x y:VTm} (h:¬cmpM y x<0) (h2:y≠x):ltOf cmpM x y=true:=by
 unfold ltOf;rw[decide_eq_true_eq];unfold cmpM cmpT at h ⊢;rw[zbv]at h ⊢;rcases zeu (shw y.1) (shw x.1) with g | g | g
 · exact absurd g h
 · exact absurd (Subtype.ext (zbT y.2 x.2 g)) h2
 · exact g
theorem zkl (x y:VTri):ltOf cmpV x y=true↔cmpV x y<0:=by unfold ltOf;rw[decide_eq_true_eq]
theorem zkm (x y:VTm):ltOf cmpM x y=true↔cmpM x y<0:=by unfold ltOf;rw[decide_eq_true_eq]
def ILt (x y:Ids):Prop:=x.a<y.a\/(x.a=y.a/\(x.b<y.b\/(x.b=y.b/\x.c<y.c)))
theorem zfB (a b:Int):cmpI a b<0↔a<b:=by
 unfold cmpI;by_cases h:a<b
 · simp[h]
 · rw[if_neg h];split<;>simp[h]
theorem zcn (a b:Int):cmpI a b=0↔a=b:=by
 unfold cmpI;by_cases h:a<b
 · rw[if_pos h];constructor
   · intro h2;cases h2
   · intro h2;omega
 · rw[if_neg h];by_cases h2:b<a
   · rw[if_pos h2];constructor
     · intro h3;cases h3
     · intro h3;omega
   · rw[if_neg h2];constructor
     · intro _;omega
     · intro _;rfl
theorem zeO (x y:Ids):cmpIds x y<0↔ILt x y:=by
 unfold cmpIds or3 ILt;by_cases h1:cmpI x.a y.a=0
 · rw[if_pos h1];have e1:=(zcn _ _).1 h1;by_cases h2:cmpI x.b y.b=0
   · rw[if_pos h2,zfB];have e2:=(zcn _ _).1 h2;omega
   · rw[if_neg h2,zfB];have e2:x.b≠y.b:=fun e=>h2 ((zcn _ _).2 e);omega
 · rw[if_neg h1,zfB];have e1:x.a≠y.a:=fun e=>h1 ((zcn _ _).2 e);omega
theorem swoI:SWO (ltOf cmpIds):=zjP _ id ILt (fun x y=>by unfold ltOf;rw[decide_eq_true_eq];exact zeO _ _)
 (fun x=>by unfold ILt;omega) (fun {x y z} h1 h2=>by unfold ILt at *;omega) (fun x y=>by
  unfold ILt;by_cases h:x=y
  · exact .inr (.inl h)
  · have:x.a≠y.a\/x.b≠y.b\/x.c≠y.c:=by
     by_cases h1:x.a=y.a
     · by_cases h2:x.b=y.b
       · by_cases h3:x.c=y.c
         · exact absurd (by obtain ⟨_,_,_⟩:=x;obtain ⟨_,_,_⟩:=y;simp only at h1 h2 h3;simp only[h1,h2,h3]) h
         · exact .inr (.inr h3)
       · exact .inr (.inl h2)
     · exact .inl h1
    omega)
theorem zbJ (x:Ids):(encI x).length=3:=rfl
theorem ziy (x:Ids):∀v∈encI x,v.oneCell'=true:=by
 intro v hv;unfold encI at hv;simp only[List.mem_cons,List.not_mem_nil,or_false]at hv;rcases hv with rfl | rfl | rfl<;>rfl
theorem zhu (x y:Ids) (w:World):Calls prog 74 #[.agg (encI x).toArray,.agg (encI y).toArray] w fun e w'=>e=.returned (.int .i64 (cmpIds x y))/\Below w.heap.size w w':=by
 obtain ⟨wa,hwa⟩:∃wa,w.alloc (.cells #[.int .i64 x.a,.int .i64 x.b,.int .i64 x.c] 103)=wa:=⟨_,rfl⟩;obtain ⟨wb,hwb⟩:∃wb,wa.alloc (.cells #[.int .i64 y.a,.int .i64 y.b,.int .i64 y.c] 103)=wb:=⟨_,rfl⟩;have hna:wa.heap.size=w.heap.size+1:=(by rw[<-hwa];simp);have hba:Below w.heap.size w wa:=(by rw[<-hwa];exact br.alloc nL _);have hbb:Below wa.heap.size wa wb:=(by rw[<-hwb];exact br.alloc nL _);have hx:Cell3I wb w.heap.size x:=by
  have:Cell3I wa w.heap.size x:=(by rw[<-hwa];exact ⟨by simp,by simp,by simp⟩);exact ⟨zaa this.1 hbb,zaa this.2.1 hbb,zaa this.2.2 hbb⟩
 have hy:Cell3I wb (w.heap.size+1) y:=(by rw[<-hwb,<-hna];exact ⟨by simp,by simp,by simp⟩);have hg:∀(n:Nat) (os:Array Obj),Calls prog 75 #[.slice (some ⟨w.heap.size,0,none⟩) 3 3,.slice (some ⟨w.heap.size+1,0,none⟩) 3 3] (Sort.grow (wb.drewN n) os) fun e w''=>e=.returned (.int .i64 (cmpIds x y))/\∃p:GrownBy,w''=Sort.grow (wb.drewN p.n) p.os:=by
  intro n os;have hb:=below_grow wb n os;refine (zel w.heap.size (w.heap.size+1) x y _ ⟨zaa hx.1 hb,zaa hx.2.1 hb,zaa hx.2.2 hb⟩ ⟨zaa hy.1 hb,zaa hy.2.1 hb,zaa hy.2.2 hb⟩).mono ?_;rintro e w' ⟨rfl,rfl⟩;exact ⟨rfl,⟨n,os⟩,rfl⟩
 have HG:=hid hg;have HB:=hid (hba.trans (hbb.mono hba.size));have ent:∀args w,(callFunc 75 args).run prog w=.ok (.enter 75 args) w:=enters_of func75 (by kernel_rfl) rfl;have hmix:=mixed;clear hg hx hy hba hbb;unfold encI;go_enter func74,ntmps74
 go_wp2;try rw[hna]
 go_quiet_grown (first | (go_at_fn 75;exact HG.out _ _))
 go_wp2;go_ret;exact ⟨rfl,HB.out.trans ((below_grow wb nq osq).mono HB.out.size)⟩
theorem zi7 (blk off size:Nat) (w:World):CmpLays prog 74 #[] encI 3 cmpIds blk off size w:=by
 intro m os dk _ x y;exact Dr.calls_grow (zhu x y _)
end Go.Proofs.YtaeiifngjglchaaGreatDoor
end
