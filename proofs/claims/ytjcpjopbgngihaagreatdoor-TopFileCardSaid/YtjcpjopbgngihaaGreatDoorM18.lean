/- Proved on the way: The document's reader: a literal; The document's labels and languages; The document's IRIs, terms and triples: ; The document's terms and triples: may it; The document's triples: may it be one?. Each theorem states its own conditions. -/
import Derived.Test.YtjcpjopbgngihaaGreatDoorM17
import Derived.Test.YtjcpjopbgngihaaGreatDoorPQ2
set_option maxHeartbeats 16000000
set_option maxRecDepth 1000000
section
namespace Go.Proofs.YtjcpjopbgngihaaGreatDoor.Tv
open Tryz
open Go.Lib
theorem take1 (q:Bs) (c:UInt8) (h:¬∃r,q=c::r):decide (q.take 1=[c])=false:=by
 rw[decide_eq_false_iff_not];intro e;cases q with
 | nil=>cases e
 | cons d r=>simp at e;exact h ⟨r,by rw[e]⟩
theorem take3 (q:Bs) (a b c:UInt8) (h:¬∃r,q=a::b::c::r):decide (q.take 3=[a,b,c])=false:=by
 rw[decide_eq_false_iff_not];intro e
 match q,e with
 | [],e=>cases e
 | [_],e=>simp at e
 | [_,_],e=>simp at e
 | x::y::z::r,e=>simp at e;exact h ⟨r,by rw[e.1,e.2.1,e.2.2]⟩
theorem take2 (q:Bs) (a b:UInt8) (h:¬∃r,q=a::b::r):decide (q.take 2=[a,b])=false:=by
 rw[decide_eq_false_iff_not];intro e
 match q,e with
 | [],e=>cases e
 | [_],e=>simp at e
 | x::y::r,e=>simp at e;exact h ⟨r,by rw[e.1,e.2]⟩
theorem zn0 {nl:Bool} {e:UInt8} {lit:Bool} {l x r:Bs} (h:upTo nl e lit l=some (x,r)):r.length<=l.length:=by
 unfold upTo at h;have key:∀(n:Nat) (l x r:Bs),untl n nl e lit l=some (x,r)->r.length<=l.length:=by
  intro n;induction n with
  | zero=>intro l x r h;cases h
  | succ n ih=>
   intro l x r h;cases l with
   | nil=>cases h
   | cons c l=>
    simp only[untl]at h;split at h
    · cases h;simp
    · split at h
      · cases he:esc lit l with
        | none=>rw[he]at h;cases h
        | some p=>
         rw[he,Option.bind_some]at h;have h1:=(zcS lit l p.1 p.2 he).1;cases hu:untl n nl e lit p.2 with
         | none=>rw[hu]at h;cases h
         | some q=>
          rw[hu]at h;simp only[Option.map_some,Option.some.injEq,Prod.mk.injEq]at h;have:=ih _ _ _ hu;rw[<-h.2];simp only[List.length_cons];omega
      · split at h
        · cases h
        · cases hu:untl n nl e lit l with
          | none=>rw[hu]at h;cases h
          | some q=>
           rw[hu]at h;simp only[Option.map_some,Option.some.injEq,Prod.mk.injEq]at h;have:=ih _ _ _ hu;rw[<-h.2];simp only[List.length_cons];omega
 exact key _ _ _ _ h
end Go.Proofs.YtjcpjopbgngihaaGreatDoor.Tv
namespace Go.Proofs.YtjcpjopbgngihaaGreatDoor
open Tryz
open Go.RowKit Go.Lib Tv
def LitO (o:Option (Tm × Bs)) (b:Bool) (g:Nat) (v:Ending) (w':World):Prop:=
 (∃t r,o=some (t,r)/\v=.returned (.agg (encT t).toArray)/\Rd5 w' g r b)\/(o=none/\(∃t:Tm,v=.returned (.agg (encT t).toArray))/\Rd5 w' g [] true)
structure Ls (w W:World) (g A B:Nat) (l:Bs) (b:Bool) (x y z:Value):Prop where
 fr:Fr w W (Gn g w.heap.size)
 rd:Rd5 W g l b
 t2:∃x y z,T3 W A x y z
 t3:T3 W B x y z
 hA:w.heap.size<=A
 hB:w.heap.size<=B
 hg:g<w.heap.size
 ne:A≠B
section
variable {w W W1:World} {g A B:Nat} {l:Bs} {b:Bool} {x y z:Value}
theorem Ls.call (h:Ls w W g A B l b x y z) {l':Bs} {b':Bool} (hf:Fr W W1 (fun k=>k=g)) (hr:Rd5 W1 g l' b'):Ls w W1 g A B l' b' x y z:=by
 obtain ⟨_,_,_,h2⟩:=h.t2;have h1:=h.hA;have h3:=h.hB;have h4:=h.hg
 exact ⟨h.fr.gn hf fun k hk=>.inl hk,hr,⟨_,_,_,h2.fr hf (by omega)⟩,h.t3.fr hf (by omega),h1,h3,h4,h.ne⟩
theorem Ls.below (h:Ls w W g A B l b x y z) (hb:Below W.heap.size W W1):Ls w W1 g A B l b x y z:=
 h.call (Fr.of_below hb _) (h.rd.below hb)
theorem Ls.setr (h:Ls w W g A B l b x y z) (r:Bs):Ls w (W.setCell ⟨g,0,none⟩ (.string (str r))) g A B r b x y z:=
 h.call (Fr.set1 W g 0 _) (h.rd.set0 r)
theorem Ls.st (h:Ls w W g A B l b x y z) (j:Nat) (v:Value) {x' y' z':Value} (ht:T3 (W.setCell ⟨B,j,none⟩ v) B x' y' z'):Ls w (W.setCell ⟨B,j,none⟩ v) g A B l b x' y' z':=by
 obtain ⟨_,_,_,h2⟩:=h.t2;have h1:=h.hA;have h3:=h.hB;have h4:=h.hg;have h5:=h.ne
 exact ⟨h.fr.gn (Fr.set1 W B j v) fun k hk=>gn_at h3 hk,h.rd.fr (Fr.set1 W B j v) (by omega),⟨_,_,_,h2.fr (Fr.set1 W B j v) h5⟩,ht,h1,h3,h4,h5⟩
theorem Ls.s0 (h:Ls w W g A B l b x y z) (v:Value):Ls w (W.setCell ⟨B,0,none⟩ v) g A B l b v y z:=h.st 0 v (h.t3.set0 v)
theorem Ls.s1 (h:Ls w W g A B l b x y z) (v:Value):Ls w (W.setCell ⟨B,1,none⟩ v) g A B l b x v z:=h.st 1 v (h.t3.set1 v)
theorem Ls.s2 (h:Ls w W g A B l b x y z) (v:Value):Ls w (W.setCell ⟨B,2,none⟩ v) g A B l b x y v:=h.st 2 v (h.t3.set2 v)
theorem Ls.fin (h:Ls w W g A B l b x y z) (u0 u1 u2:Value):T3 (((W.setCell ⟨A,0,none⟩ u0).setCell ⟨A,1,none⟩ u1).setCell ⟨A,2,none⟩ u2) A u0 u1 u2/\
    Fr w (((W.setCell ⟨A,0,none⟩ u0).setCell ⟨A,1,none⟩ u1).setCell ⟨A,2,none⟩ u2) (fun k=>k=g)/\Rd5 (((W.setCell ⟨A,0,none⟩ u0).setCell ⟨A,1,none⟩ u1).setCell ⟨A,2,none⟩ u2) g l b:=by
 obtain ⟨_,_,_,h2⟩:=h.t2;have h1:=h.hA;have h4:=h.hg
 refine ⟨((h2.set0 u0).set1 u1).set2 u2,(((h.fr.gn (Fr.set1 _ A 0 u0) fun k h=>gn_at h1 h).gn (Fr.set1 _ A 1 u1) fun k h=>gn_at h1 h).gn (Fr.set1 _ A 2 u2) fun k h=>gn_at h1 h).un_gn,?_⟩;exact ((h.rd.fr (Fr.set1 _ A 0 u0) (by omega)).fr (Fr.set1 _ A 1 u1) (by omega)).fr (Fr.set1 _ A 2 u2) (by omega)
end
theorem zjB (g:Nat) (l:Bs) (b:Bool) (w:World) (h:Rd5 w g l b) (hl:l.length<=200000) :
    Calls prog 172 #[.pointer (some ⟨g,0,none⟩)] w fun v w'=>Fr w w' (fun k=>k=g)/\LitO (litR l) b g v w':=by
 have hgl:=h.lt;obtain ⟨w0,hw0⟩:∃w0,w.alloc (.cells #[.int .i64 0,.string ⟨#[]⟩,.string ⟨#[]⟩] 82)=w0:=⟨_,rfl⟩;have hb0:Below w.heap.size w w0:=(by rw[<-hw0];exact br.alloc nL _);have hn0:w.heap.size<w0.heap.size:=(by rw[<-hw0];simp);have ht2:T3 w0 w.heap.size (.int .i64 0) (.string ⟨#[]⟩) (.string ⟨#[]⟩):=(by rw[<-hw0];exact T3.new _ _ _ _);have HU:=hid (zb0 g l 34 true b w0 (h.below hb0) (by omega) (by decide));have HUU:Hid (Calls prog 170 #[.pointer (some ⟨g,0,none⟩),.int .u8 34,.bool true] w0 (UpA w0 g 34 true l b)):=HU;have HT2:=hid ht2;have HB0:=hid hb0;clear h hb0 ht2 HU;go_enter func172,ntmps172
 go_wp2_with fail
 refine HUU.out.mono ?_;clear HUU hw0;rintro v w1 ⟨hf1,hor⟩;obtain ⟨x,q,b',rfl,hr1,hq,HP⟩:∃x q b',v=.returned (.string (str x))/\Rd5 w1 g q b'/\q.length<=l.length/\Hid (∀v w',LitO (tailR x q) b' g v w'->LitO (litR l) b g v w'):=by
  rcases hor with ⟨x,r,hx,rfl,hr⟩ | ⟨hx,rfl,hr⟩
  · refine ⟨x,r,b,rfl,hr,zn0 hx,hid fun v w' h=>?_⟩;rw[zbq,hx];exact h
  · refine ⟨[],[],true,rfl,hr,Nat.zero_le _,hid fun v w' h=>?_⟩;rw[zbq,hx];rcases h with ⟨t,r,h1,h2,h3⟩ | ⟨h1,_⟩
    · cases h1
      exact .inr ⟨rfl,⟨_,h2⟩,h3⟩
    · cases h1
 obtain ⟨w2,hw2⟩:∃w2,w1.alloc (.cells #[.int .i64 3,.string (str x),.string ⟨#[]⟩] 82)=w2:=⟨_,rfl⟩;have hb2:Below w1.heap.size w1 w2:=(by rw[<-hw2];exact br.alloc nL _);have ht3:T3 w2 w1.heap.size (.int .i64 3) (.string (str x)) (.string ⟨#[]⟩):=(by rw[<-hw2];exact T3.new _ _ _ _);have hn1:=hf1.size
 have hLs:Ls w w2 g w.heap.size w1.heap.size q b' (.int .i64 3) (.string (str x)) (.string ⟨#[]⟩):=
  ⟨(((Fr.of_below HB0.out (Gn g w.heap.size)).gn hf1 fun k h=>.inl h).step hb2),hr1.below hb2,⟨_,_,_,(HT2.out.fr hf1 (by omega)).fr (Fr.of_below hb2 fun _=>False) fun h=>h⟩,ht3,nL,by omega,hgl,by omega⟩
 have HLS:=hid hLs;have HW2:=hid hw2;clear hor hf1 hr1 hb2 ht3 hLs hw2 HT2 HB0;by_cases h1:∃r,q=64::r
 · obtain ⟨r,rfl⟩:=h1;have HH1:=hid (zaA g (64::r) [64] b' w2 HLS.out.rd);simp only[List.length_cons,List.length_nil,Nat.zero_add]at HH1 hq;rw[show str [64]=(⟨#[64]⟩:ByteArray) from rfl,dT (show (64::r).take 1=[64] from rfl)]at HH1;have k0:=HLS.out.rd.c0;have kf:=HLS.out.rd.f 0;have hsd:(str (64::r)).extract 1 (str (64::r)).size=str r:=(by rw[zab];exact za6 (64::r) 1);have hsz:(1:Int)<=((str (64::r)).size:Int):=(by rw[zab];simp only[List.length_cons];omega);generalize str (64::r)=S at k0 hsd hsz;have HLS2:=hid (HLS.out.setr r);have HRUN:=hid (zeT g r true b' _ HLS2.out.rd (by omega));rw[zmy]at HRUN;have hlt:(r.takeWhile isTag).length<=1000000:=Nat.le_trans (List.takeWhile_sublist _).length_le (by omega);have HSM:=hid fun W=>zgg (r.takeWhile isTag) W hlt;clear HLS hq hlt;go_wp2_with fail
   rw[HW2.out];refine HH1.out.mono ?_;rintro v w3 ⟨rfl,rfl⟩;go_wp2_with fail
   refine HRUN.out.mono ?_;rintro v w4 ⟨rfl,hr4,hf4⟩;have HLS4:=hid (HLS2.out.call hf4 hr4);clear hr4 hf4 HLS2;go_wp2_with fail
   refine (HSM.out _).mono ?_;rintro v w5 ⟨rfl,hb5⟩;have HLS5:=hid (HLS4.out.below hb5);have f0:=HLS5.out.t3.f 0;have f2:=HLS5.out.t3.f 2;have c0:=HLS5.out.t3.c0;have c1:=HLS5.out.t3.c1;have c2:=HLS5.out.t3.c2;have HLS6:=hid ((HLS5.out.s0 (.int .i64 4)).s2 (.string (str ((r.takeWhile isTag).map low))));obtain ⟨x2,y2,z2,t2⟩:=HLS6.out.t2;obtain ⟨x3,y3,z3,t3⟩:=HLS5.out.t2;have d0:=t2.c0;have d1:=t2.c1;have d2:=t2.c2;have df0:=t3.f 0;have df1:=t3.f 1;have df2:=t3.f 2;have hAB:¬w.heap.size=w1.heap.size:=(by omega);clear t2 t3 hb5 HLS4;go_wp2;obtain ⟨q1,q2,q3⟩:=HLS6.out.fin (.int .i64 4) (.string (str x)) (.string (str ((r.takeWhile isTag).map low)));refine zak rfl rfl rfl q1 ?_;exact ⟨q2,HP.out _ _ (.inl ⟨_,_,rfl,rfl,q3⟩)⟩
 · by_cases h2:∃r,q=94::94::60::r
   · obtain ⟨r,rfl⟩:=h2;have HH1:=hid (zaA g (94::94::60::r) [64] b' w2 HLS.out.rd);have HH2:=hid (zaA g (94::94::60::r) [94,94,60] b' w2 HLS.out.rd);simp only[List.length_cons,List.length_nil,Nat.zero_add,Nat.reduceAdd]at HH1 HH2 hq;rw[show str [64]=(⟨#[64]⟩:ByteArray) from rfl,take1 (94::94::60::r) 64 h1]at HH1;rw[show str [94,94,60]=(⟨#[94,94,60]⟩:ByteArray) from rfl,dT (show (94::94::60::r).take 3=[94,94,60] from rfl)]at HH2;have k0:=HLS.out.rd.c0;have kf:=HLS.out.rd.f 0;have hsd:(str (94::94::60::r)).extract 3 (str (94::94::60::r)).size=str r:=(by rw[zab];exact za6 (94::94::60::r) 3);have hsz:(3:Int)<=((str (94::94::60::r)).size:Int):=(by rw[zab];simp only[List.length_cons];omega);generalize str (94::94::60::r)=S at k0 hsd hsz;have HLS2:=hid (HLS.out.setr r);have HUP0:=zb0 g r 62 false b' _ HLS2.out.rd (by omega) (by decide);have HUP:Hid (Calls prog 170 #[.pointer (some ⟨g,0,none⟩),.int .u8 62,.bool false] _ (UpA _ g 62 false r b')):=HUP0;clear HLS hq h1 HUP0;go_wp2_with fail
     rw[HW2.out];refine HH1.out.mono ?_;rintro v w3 ⟨rfl,rfl⟩;go_wp2_with fail
     refine HH2.out.mono ?_;rintro v w3 ⟨rfl,rfl⟩;go_wp2_with fail
     refine HUP.out.mono ?_;rintro v w4 ⟨hf4,hor⟩;obtain ⟨y,q',b2,rfl,hr4,HP2⟩:∃y q' b2,v=.returned (.string (str y))/\Rd5 w4 g q' b2/\Hid (∀w',Rd5 w' g q' b2->LitO (tailR x (94::94::60::r)) b' g (.returned (.agg (encT ⟨5,x,y⟩).toArray)) w'):=by
      rcases hor with ⟨y,q',hy,rfl,hr⟩ | ⟨hy,rfl,hr⟩
      · refine ⟨y,q',b',rfl,hr,hid fun w' h=>.inl ⟨⟨5,x,y⟩,q',?_,rfl,h⟩⟩;show (upTo true 62 false r).map _=_;rw[hy];rfl
      · refine ⟨[],[],true,rfl,hr,hid fun w' h=>.inr ⟨?_,⟨_,rfl⟩,h⟩⟩;show (upTo true 62 false r).map _=_;rw[hy];rfl
     have HLS5:=hid (HLS2.out.call hf4 hr4);clear hr4 hf4 HLS2 hor HUP;have f0:=HLS5.out.t3.f 0;have f2:=HLS5.out.t3.f 2;have c0:=HLS5.out.t3.c0;have c1:=HLS5.out.t3.c1;have c2:=HLS5.out.t3.c2;have HLS6:=hid ((HLS5.out.s0 (.int .i64 5)).s2 (.string (str y)));obtain ⟨x2,y2,z2,t2⟩:=HLS6.out.t2;obtain ⟨x3,y3,z3,t3⟩:=HLS5.out.t2;have d0:=t2.c0;have d1:=t2.c1;have d2:=t2.c2;have df0:=t3.f 0;have df1:=t3.f 1;have df2:=t3.f 2;have hAB:¬w.heap.size=w1.heap.size:=(by omega);clear t2 t3;go_wp2;obtain ⟨q1,q2,q3⟩:=HLS6.out.fin (.int .i64 5) (.string (str x)) (.string (str y));refine zak rfl rfl rfl q1 ?_;exact ⟨q2,HP.out _ _ (HP2.out _ q3)⟩
   · have HT:=hid (zdJ x q h1 h2);have HH1:=hid (zaA g q [64] b' w2 HLS.out.rd);have HH2:=hid (zaA g q [94,94,60] b' w2 HLS.out.rd);have e1:=take1 q 64 h1;have e2:=take3 q 94 94 60 h2;simp only[List.length_cons,List.length_nil,Nat.zero_add,Nat.reduceAdd]at HH1 HH2;rw[show str [64]=(⟨#[64]⟩:ByteArray) from rfl,e1]at HH1;rw[show str [94,94,60]=(⟨#[94,94,60]⟩:ByteArray) from rfl,e2]at HH2;have c0:=HLS.out.t3.c0;have c1:=HLS.out.t3.c1;have c2:=HLS.out.t3.c2;obtain ⟨x2,y2,z2,t2⟩:=HLS.out.t2;have d0:=t2.c0;have d1:=t2.c1;have d2:=t2.c2;have f0:=t2.f 0;have f1:=t2.f 1;have f2:=t2.f 2;clear t2 e1 e2 h1 h2;go_wp2_with fail
     rw[HW2.out];refine HH1.out.mono ?_;rintro v w3 ⟨rfl,rfl⟩;go_wp2_with fail
     refine HH2.out.mono ?_;rintro v w4 ⟨rfl,rfl⟩;go_wp2;obtain ⟨q1,q2,q3⟩:=HLS.out.fin (.int .i64 3) (.string (str x)) (.string ⟨#[]⟩);refine zak rfl rfl rfl q1 ?_;exact ⟨q2,HP.out _ _ (by rw[HT.out];exact .inl ⟨_,_,rfl,rfl,q3⟩)⟩
end Go.Proofs.YtjcpjopbgngihaaGreatDoor
end
section
namespace Go.Proofs.YtjcpjopbgngihaaGreatDoor
open Tryz
open Go.RowKit Go.Lib Tv
open Go.Proofs.YtjcpjopbgngihaaGreatDoor.PTopFile Go.Proofs.YtjcpjopbgngihaaGreatDoorW.PrintWords
theorem bt_str (l:Bs) (i:Nat) (h:i<l.length):bt (str l) (i:Int)=(l[i].toNat:Int):=by
 unfold bt;rw[dif_pos (by rw[Int.toNat_natCast,zab];exact h)];rfl
theorem ziR (l:Bs) (hl:l.length<=1000000):∀(j i:Nat),i+j=l.length->triviumref4_label.l0 (j+1) (str l) i=some ((l.drop i).all isAl && (decide (1<=l.length) && decide (l.length<=8)))
 | 0,i,hi=>by
  unfold triviumref4_label.l0;rw[if_neg (by rw[zab];omega),List.drop_eq_nil_of_le (by omega),zab];by_cases h1:1<=l.length
  · rw[if_pos (by omega),dT h1];have e:decide ((l.length:Int)<=8)=decide (l.length<=8):=decide_eq_decide.2 ⟨fun h=>by omega,fun h=>by omega⟩;rw[e];rfl
  · rw[if_neg (by omega),dF h1];rfl
 | j+1,i,hi=>by
  have hil:i<l.length:=(by omega);unfold triviumref4_label.l0;have hw1:wrap64 ((i:Int)+1)=((i+1:Nat):Int):=(by unfold wrap64;omega);rw[if_pos (by rw[zab];omega),if_pos (by omega),bt_str l i hil,zlQ,Option.bind_some,hw1,ziR l hl j (i+1) (by omega),List.drop_eq_getElem_cons hil,List.all_cons];cases isAl l[i]<;>rfl
theorem zgG (l:Bs) (w:World) (hl:l.length<=1000000) :
    Calls prog 175 #[.string (str l)] w fun v w'=>v=.returned (.bool (labT l))/\Below w.heap.size w w':=by
 have h:triviumref4_label.f (l.length+1) (str l)=some (labT l):=by
  unfold triviumref4_label.f;have:=ziR l hl l.length 0 (by omega);rw[List.drop_zero]at this;refine this.trans ?_;unfold labT;rw[zcC _ _ zfX]
  congr 1
  have:decide (1<=l.length)=decide (l≠[]):=(by cases l<;>simp);rw[this,Bool.and_comm]
 exact (triviumref4_label.calls _ _ _ w h).mono fun _ _ h=>⟨h.1,h.2.below⟩
theorem zhR (l:Bs) (w:World) (hl:l.length<=1000000) :
    Calls prog 176 #[.string (str l)] w fun v w'=>v=.returned (.bool (langT l))/\Below w.heap.size w w':=by
 rw[<-zk7 l];obtain ⟨B,hB⟩:∃B,lgGo 0 0 l=B:=⟨_,rfl⟩;rw[hB];have HB0:=hid hB;have hsz:=zab l;obtain ⟨S,hS⟩:∃S,str l=S:=⟨_,rfl⟩;rw[hS]at hsz ⊢;have HS:=hid hS;have h16:decide ((l.length:Int)<=16)=decide (l.length<=16):=decide_eq_decide.2 ⟨fun h=>by omega,fun h=>by omega⟩;obtain ⟨y16,hy16⟩:∃y,decide (l.length<=16)=y:=⟨_,rfl⟩;rw[hy16]at h16 ⊢;clear hB hS hy16;go_enter func176,ntmps176
 go_wp2;go_loopw [3,4,5] (fun v3 v4 v5 wr=>∃p n i:Nat,v3=.int .i64 p/\v4=.int .i64 n/\v5=.int .i64 i/\i<=l.length/\n<=8/\p<=i/\Hid (B=lgGo p n (l.drop i))/\Below w.heap.size w wr) (fun _ _ v5 _=>l.length-(intOf v5).toNat)
 case atStart=>exact ⟨0,0,0,rfl,rfl,rfl,Nat.zero_le _,Nat.zero_le _,nL,hid (by rw[List.drop_zero];exact HB0.out.symm),br⟩
 case round=>
  clear HB0;obtain ⟨p,n,i,rfl,rfl,rfl,hil,hn8,hpi,HG,hb⟩:=hrel;have HB:=hid hb;clear hb;by_cases hlt:i<l.length
  · have hdc:l.drop i=l[i]::l.drop (i+1):=List.drop_eq_getElem_cons hlt;have hiS:i<S.size:=(by omega);have hgi:S[i]'hiS=l[i]:=(by have:=HS.out;subst this;rfl);have hg:B=lgGo p n (l[i]::l.drop (i+1)):=(by rw[<-hdc];exact HG.out);clear hdc HG;generalize l[i]=c at hgi hg;have hs:smB c=(decide ((97:Int)<=c.toNat) && decide ((c.toNat:Int)<=122)):=zav c (fun c=>smB c=(decide ((97:Int)<=c.toNat) && decide ((c.toNat:Int)<=122))) (by decide +kernel);have hd:dgB c=(decide ((48:Int)<=c.toNat) && decide ((c.toNat:Int)<=57)):=zav c (fun c=>dgB c=(decide ((48:Int)<=c.toNat) && decide ((c.toNat:Int)<=57))) (by decide +kernel);have q1:=zeL c 45 (by decide);have q1':((c.toNat:Int) == 45)=decide (c=45):=q1;unfold lgGo at hg;rw[hs,hd]at hg;have hdr:Below w.heap.size w wr.drew:=HB.out.trans (zaO wr 1 |>.mono HB.out.size);have HDR:=hid hdr;clear hdr q1 hs hd;obtain ⟨z,hz⟩:∃z:Int,(c.toNat:Int)=z:=⟨_,rfl⟩;rw[hz]at hg q1';by_cases h45:c=45
    · have z45:z=45:=(by rw[<-hz,h45];rfl);subst z45;clear q1';by_cases hn0:0<n
      · rw[if_pos ⟨h45,hn0⟩]at hg;have HG:=hid hg;have hn0z:(0:Int)<(n:Int):=(by omega);clear hg h45;go_wp2;go_region
        go_wp2;go_roundw
        case rel=>exact ⟨p+1,0,i+1,by go_num,rfl,by go_num,by omega,by omega,by omega,HG,HDR.out⟩
        case measure=>simp[intOf];omega
      · rw[if_neg (fun h=>hn0 h.2)]at hg;obtain rfl:n=0:=(by omega);have HG:Hid (B=false):=hg.trans (by simp);clear hg h45;go_wp2;go_region
        go_wp2;go_ret;exact ⟨by rw[HG.out];rfl,HDR.out⟩
    · rw[if_neg (fun h=>h45 h.1)]at hg;rw[dF h45]at q1';clear h45;by_cases a1:97<=z
      · have a3:48<=z:=(by omega);have a4:¬z<=57:=(by omega);have a4':decide (z<=57)=false:=dF a4;by_cases a2:z<=122
        · rw[if_pos (by rw[dT a1,dT a2];rfl)]at hg;by_cases hn:n<8
          · rw[if_neg (by omega)]at hg;have HG:=hid hg;have hnz:¬(8:Int)<(n:Int)+1:=(by omega);clear hg;go_wp2;go_region
            go_wp2;go_roundw
            case rel=>exact ⟨p,n+1,i+1,rfl,by go_num,by go_num,by omega,by omega,by omega,HG,HDR.out⟩
            case measure=>simp[intOf];omega
          · rw[if_pos (by omega)]at hg;have HG:=hid hg;have hnz:(8:Int)<(n:Int)+1:=(by omega);clear hg;go_wp2;go_region
            go_wp2;go_ret;exact ⟨by rw[HG.out];rfl,HDR.out⟩
        · have a2':decide (z<=122)=false:=dF a2;have HG:Hid (B=false):=hg.trans (by rw[if_neg (by simp;omega)]);clear hg;go_wp2;go_region
          go_wp2;go_ret;exact ⟨by rw[HG.out];rfl,HDR.out⟩
      · have a1':decide (97<=z)=false:=dF a1;by_cases a3:48<=z
        · by_cases a4:z<=57
          · by_cases hp0:0<p
            · have hp0z:(0:Int)<(p:Int):=(by omega);rw[if_pos (by rw[dT a3,dT a4,dT hp0];simp)]at hg;by_cases hn:n<8
              · rw[if_neg (by omega)]at hg;have HG:=hid hg;have hnz:¬(8:Int)<(n:Int)+1:=(by omega);clear hg;go_wp2;go_region
                go_wp2;go_roundw
                case rel=>exact ⟨p,n+1,i+1,rfl,by go_num,by go_num,by omega,by omega,by omega,HG,HDR.out⟩
                case measure=>simp[intOf];omega
              · rw[if_pos (by omega)]at hg;have HG:=hid hg;have hnz:(8:Int)<(n:Int)+1:=(by omega);clear hg;go_wp2;go_region
                go_wp2;go_ret;exact ⟨by rw[HG.out];rfl,HDR.out⟩
            · obtain rfl:p=0:=(by omega);have HG:Hid (B=false):=hg.trans (by rw[if_neg (by simp;omega)]);clear hg;go_wp2;go_region
              go_wp2;go_ret;exact ⟨by rw[HG.out];rfl,HDR.out⟩
          · have a4':decide (z<=57)=false:=dF a4;have HG:Hid (B=false):=hg.trans (by rw[if_neg (by simp;omega)]);clear hg;go_wp2;go_region
            go_wp2;go_ret;exact ⟨by rw[HG.out];rfl,HDR.out⟩
        · have a3':decide (48<=z)=false:=dF a3;have HG:Hid (B=false):=hg.trans (by rw[if_neg (by simp;omega)]);clear hg;go_wp2;go_region
          go_wp2;go_ret;exact ⟨by rw[HG.out];rfl,HDR.out⟩
  · obtain rfl:i=l.length:=(by omega);rw[List.drop_length]at HG;have hg:B=decide (0<n):=HG.out;by_cases hn0:0<n
    · rw[dT hn0]at hg;have hn0z:(0:Int)<(n:Int):=(by omega);have HG2:=hid hg;clear hg HG;go_wp2;go_ret;exact ⟨by rw[HG2.out];rfl,HB.out⟩
    · rw[dF hn0]at hg;obtain rfl:n=0:=(by omega);have HG2:=hid hg;clear hg HG;go_wp2;go_ret;exact ⟨by rw[HG2.out];rfl,HB.out⟩
theorem zfI:∀n:Fin 128,triviumref4_iriRune.f (n.val:Int)=some (iriR n.val):=by decide +kernel
theorem zld (x:Nat):triviumref4_iriRune.f (x:Int)=some (iriR x):=by
 by_cases hx:x<128
 · exact zfI ⟨x,hx⟩
 · unfold triviumref4_iriRune.f iriR;have e1:decide (x<127)=false:=dF (by omega);have e2:decide ((x:Int)>=160)=decide (160<=x):=decide_eq_decide.2 ⟨fun h=>by omega,fun h=>by omega⟩;rw[if_neg (by omega),if_neg (by omega),if_neg (by omega),if_neg (by omega),if_neg (by omega),if_neg (by omega),if_neg (by omega),if_neg (by omega),if_neg (by omega),if_pos (by omega),if_neg (by omega),e1,e2];simp
theorem zfJ (x:Nat) (w:World) :
    Calls prog 212 #[.int .i32 (x:Int)] w fun e w'=>e=.returned (.bool (iriR x))/\∃m,w'=w.drewN m:=
 (triviumref4_iriRune.calls (x:Int) _ w (zld x)).mono fun _ _ h=>⟨h.1,h.2.out⟩
theorem zkm (w:World) (l:Bs) (hl:l.length<=1000000):∃(cap:Nat) (t:Array Value),(convert 9 252 (.string (str l))).run prog w =
    .ok (.slice (some ⟨w.heap.size,0,none⟩) (rns l).length cap) (w.drew.alloc (.cells (((rns l).map fun (c:Nat)=>Value.int .i32 (c:Int)).toArray++t) 21)):=by
 have h:=run_runes_of_string (P:=prog) w 9 252 21 (str l) underlying9 underlying252 underlying21;have e:Conv.runesFrom (str l) (str l).size 0 #[]=((rns l).map fun (c:Nat)=>Value.int .i32 (c:Int)).toArray:=(by rw[zab];exact zmx l);rw[e]at h;have hz:((rns l).map fun (c:Nat)=>Value.int .i32 (c:Int)).toArray.size=(rns l).length:=(by simp);rw[hz]at h;have:=zku l;exact ⟨_,_,h (by omega)⟩
theorem ze2 (l:Bs) (w:World) (ht:Lay w) (hl:l.length<=1000000) :
    Calls prog 174 #[.string (str l)] w fun v w'=>v=.returned (.bool (iriT l))/\Below w.heap.size w w':=by
 have hz:=zab l;have HV:=hid (zaC l w ht hl);have HIRI:Hid (iriT l=(decide (l≠[]) && decide (l.length<=60) && validD l && (rns l).all iriR)):=by
  show iriT l=_;unfold iriT;rw[zoi]
 obtain ⟨B,hB⟩:∃B,iriT l=B:=⟨_,rfl⟩;rw[hB]at HIRI ⊢;clear hB;by_cases hv:validD l=true
 · rw[hv]at HV;by_cases h0:l=[]
   · subst h0;have HB:Hid (B=false):=HIRI.out.trans (by simp);have hz0:((0:Nat):Int)<1:=(by omega);clear HIRI;go_enter func174,ntmps174
     go_wp2_with fail
     refine HV.out.mono ?_;rintro e w1 ⟨rfl,hb1⟩;go_wp2;go_ret;exact ⟨by rw[HB.out];rfl,hb1⟩
   · have hpos:=List.length_pos_iff.2 h0;have hz1:¬(l.length:Int)<1:=(by omega);by_cases h60:60<l.length
     · have HB:Hid (B=false):=HIRI.out.trans (by rw[dF (show ¬l.length<=60 by omega)];simp);have hz2:(60:Int)<(l.length:Int):=(by omega);clear HIRI h0 hpos h60;go_enter func174,ntmps174
       go_wp2_with fail
       refine HV.out.mono ?_;rintro e w1 ⟨rfl,hb1⟩;go_wp2;go_ret;exact ⟨by rw[HB.out];rfl,hb1⟩
     · have HB:Hid (B=(rns l).all iriR):=HIRI.out.trans (by rw[dT h0,dT (show l.length<=60 by omega),hv];rfl);have hz2:¬(60:Int)<(l.length:Int):=(by omega);have HRS:=hid fun W=>zkm W l hl;have hrs:(rns l).length<=60:=(by have:=zku l;omega);clear HIRI h0 hpos h60 hv;generalize rns l=rs at HB HRS hrs;go_enter func174,ntmps174
       go_wp2_with fail
       refine HV.out.mono ?_;rintro e w1 ⟨rfl,hb1⟩;obtain ⟨cap,t,hcv⟩:=HRS.out w1;have hc0:∀j (hj:j<rs.length),((w1.alloc (.cells ((rs.map fun (c:Nat)=>Value.int .i32 (c:Int)).toArray++t) 21)).drew).cell? ⟨w1.heap.size,j,none⟩=some (.int .i32 (rs[j]:Int)):=fun j hj=>by
        have:=World.cell?_alloc_mark w1.drew ((rs.map fun (c:Nat)=>Value.int .i32 (c:Int)).toArray++t) 21 (0,0) j;refine Eq.trans this ?_;rw[Array.getElem?_append_left (by simpa using hj)];simp[hj]
       have hb2:Below w.heap.size w ((w1.alloc (.cells ((rs.map fun (c:Nat)=>Value.int .i32 (c:Int)).toArray++t) 21)).drew):=(hb1.alloc hb1.size _).trans ((zaO _ 1).mono (hb1.alloc hb1.size _).size);go_wp2;clear hcv HV HRS;generalize (w1.alloc (.cells ((rs.map fun (c:Nat)=>Value.int .i32 (c:Int)).toArray++t) 21)).drew=w2 at hc0 hb2 ⊢;generalize w1.heap.size=g at hc0 ⊢;have HC0:=hid hc0;have HB2:=hid hb2;clear hc0 hb2;go_loopw [4] (fun v4 wr=>∃k:Nat,v4=.int .i64 k/\k<=rs.length/\Hid (B=(rs.drop k).all iriR)/\Below w2.heap.size w2 wr) (fun v4 _=>rs.length-(intOf v4).toNat)
       case atStart=>exact ⟨0,rfl,Nat.zero_le _,hid (by rw[List.drop_zero];exact HB.out),br⟩
       case round=>
        obtain ⟨k,rfl,hk,HG,hb⟩:=hrel;have HBR:=hid hb;have HBW:=hid (HB2.out.trans (hb.mono HB2.out.size));by_cases hlt:k<rs.length
        · have hc:=HC0.out k hlt;have hc':=(HBR.out.cell (World.block_lt_of_cell? w2 _ hc)).trans hc;have hdc:rs.drop k=rs[k]::rs.drop (k+1):=List.drop_eq_getElem_cons hlt;have hg:=HG.out;rw[hdc,List.all_cons]at hg;clear hc hdc hb HG;generalize rs[k]=x at hc' hg;have HX:=hid fun W=>zfJ x W;generalize iriR x=y at HX hg;cases y with
          | true=>
           rw[Bool.true_and]at hg;have HG:=hid hg;clear hg;go_wp2_with fail
           refine (HX.out _).mono ?_;rintro v w3 ⟨rfl,m,rfl⟩;have HB3:=hid (HBR.out.trans ((zaO wr m).mono HBR.out.size));go_wp2;go_roundw
           case rel=>exact ⟨k+1,by go_num,by omega,HG,HB3.out⟩
           case measure=>simp[intOf];omega
          | false=>
           rw[Bool.false_and]at hg;have HG:=hid hg;clear hg;go_wp2_with fail
           refine (HX.out _).mono ?_;rintro v w3 ⟨rfl,m,rfl⟩;have HB3:=hid (HBW.out.trans ((zaO wr m).mono HBW.out.size));go_wp2;go_ret;exact ⟨by rw[HG.out];rfl,HB3.out⟩
        · obtain rfl:k=rs.length:=(by omega);have HG2:Hid (B=true):=HG.out.trans (by rw[List.drop_length];rfl);clear HG hb;go_wp2;go_ret;exact ⟨by rw[HG2.out];rfl,HBW.out⟩
 · have hvf:validD l=false:=(by simpa using hv);rw[hvf]at HV;have HB:Hid (B=false):=HIRI.out.trans (by rw[hvf];simp);clear HIRI hv hvf;go_enter func174,ntmps174
   go_wp2_with fail
   refine HV.out.mono ?_;rintro e w1 ⟨rfl,hb1⟩;go_wp2;go_ret;exact ⟨by rw[HB.out];rfl,hb1⟩
end Go.Proofs.YtjcpjopbgngihaaGreatDoor
end
section
namespace Go.Proofs.YtjcpjopbgngihaaGreatDoor
open Tryz
open Go.RowKit Go.Lib Tv
theorem tm_1 (x e:Bs):tmT ⟨1,x,e⟩=(iriT x && decide (e=[])):=rfl
theorem tm_2 (x e:Bs):tmT ⟨2,x,e⟩=(labT x && decide (e=[])):=rfl
theorem tm_3 (x e:Bs):tmT ⟨3,x,e⟩=(txtT x && decide (e=[])):=rfl
theorem tm_4 (x e:Bs):tmT ⟨4,x,e⟩=(txtT x && langT e):=rfl
theorem tm_5 (x e:Bs):tmT ⟨5,x,e⟩=(txtT x && iriT e):=rfl
theorem tm_no (k:Int) (x e:Bs) (h1:k≠1) (h2:k≠2) (h3:k≠3) (h4:k≠4) (h5:k≠5):tmT ⟨k,x,e⟩=false:=by
 unfold tmT;rw[if_neg h1,if_neg h2,if_neg h3,if_neg h4,if_neg h5]
theorem zaQ (t:Tm) (h:Sml t) (w:World) (ht:Lay w) :
    Calls prog 124 #[.agg (encT t).toArray] w fun v w'=>v=.returned (.bool (tmT t))/\Below w.heap.size w w':=by
 obtain ⟨k,x,e⟩:=t;obtain ⟨hx,he⟩:=h;simp only at hx he;have hs:=zd6 e;have hz:=zab x;obtain ⟨wa,hwa⟩:∃wa,w.alloc (.cells #[.int .i64 k,.string (str x),.string (str e)] 82)=wa:=⟨_,rfl⟩;have hba:Below w.heap.size w wa:=(by rw[<-hwa];exact br.alloc nL _);have hL:=ht.below hba;have hcc:∀W,Below wa.heap.size wa W->W.cell? ⟨w.heap.size,0,none⟩=some (.int .i64 k)/\W.cell? ⟨w.heap.size,1,none⟩=some (.string (str x))/\W.cell? ⟨w.heap.size,2,none⟩=some (.string (str e)):=fun W hW=>by
  have h1:wa.heap[w.heap.size]?=some (.cells #[.int .i64 k,.string (str x),.string (str e)] 82 (0,0)):=(by rw[<-hwa];exact heap_alloc_new w _);have h2:=(hW.block _ (Array.getElem?_eq_some_iff.1 h1).1).trans h1;exact ⟨by rw[cell_of_heap h2];rfl,by rw[cell_of_heap h2];rfl,by rw[cell_of_heap h2];rfl⟩
 obtain ⟨c0,c1,c2⟩:=hcc wa br;have HCC:=hid hcc;have HBA:=hid hba;have HV:=hid (zaC x wa hL hx);have HI:=hid fun W (hW:Below wa.heap.size wa W)=>ze2 x W (hL.below hW) hx;have HE:=hid fun W (hW:Below wa.heap.size wa W)=>ze2 e W (hL.below hW) he;have HLb:=hid fun W=>zgG x W hx;have HLa:=hid fun W=>zhR e W he;have d30:decide ((x.length:Int)<=30)=decide (x.length<=30):=decide_eq_decide.2 ⟨fun h=>by omega,fun h=>by omega⟩;have htx:txtT x=(decide (x.length<=30) && validD x):=rfl;have FIN:Hid (∀W,Below wa.heap.size wa W->Below w.heap.size w W):=fun W hW=>HBA.out.trans (hW.mono HBA.out.size);unfold encT;simp only;clear hcc hba hL ht hx he;generalize decide (x.length<=30)=y30 at d30 htx;generalize validD x=yv at HV htx;by_cases h1:k=1
 · subst h1;have hres:=tm_1 x e;rw[hres];clear hres htx;generalize iriT x=yx at HI ⊢;generalize decide (e=[])=ye at hs ⊢;cases yv<;>cases y30<;>cases yx
   all_goals
    go_enter func124,ntmps124
    go_wp2_with fail
    refine HV.out.mono ?_;rintro v w1 ⟨rfl,hb1⟩;obtain ⟨k0,k1,k2⟩:=HCC.out w1 hb1;have HB1:=hid hb1;clear hb1;go_wp2_with fail
    refine (HI.out _ HB1.out).mono ?_;rintro v w2 ⟨rfl,hb2⟩;have hb2':=HB1.out.trans (hb2.mono HB1.out.size);obtain ⟨k0',k1',k2'⟩:=HCC.out w2 hb2';have HB2:=hid hb2';clear hb2 hb2';go_wp2;go_ret;exact ⟨by first | rfl | simp,FIN.out _ HB2.out⟩
 have b1:(k == 1)=false:=(by rw[beq_eq_false_iff_ne];exact h1);by_cases h2:k=2
 · subst h2;have hres:=tm_2 x e;rw[hres];clear hres htx;generalize labT x=yx at HLb ⊢;generalize decide (e=[])=ye at hs ⊢;cases yv<;>cases y30<;>cases yx
   all_goals
    go_enter func124,ntmps124
    go_wp2_with fail
    refine HV.out.mono ?_;rintro v w1 ⟨rfl,hb1⟩;obtain ⟨k0,k1,k2⟩:=HCC.out w1 hb1;have HB1:=hid hb1;clear hb1;go_wp2_with fail
    refine (HLb.out _).mono ?_;rintro v w2 ⟨rfl,hb2⟩;have hb2':=HB1.out.trans (hb2.mono HB1.out.size);obtain ⟨k0',k1',k2'⟩:=HCC.out w2 hb2';have HB2:=hid hb2';clear hb2 hb2';go_wp2;go_ret;exact ⟨by first | rfl | simp,FIN.out _ HB2.out⟩
 have b2:(k == 2)=false:=(by rw[beq_eq_false_iff_ne];exact h2);by_cases h3:k=3
 · subst h3;have hres:=tm_3 x e;rw[hres,htx];clear hres htx;generalize decide (e=[])=ye at hs ⊢;cases yv<;>cases y30
   all_goals
    go_enter func124,ntmps124
    go_wp2_with fail
    refine HV.out.mono ?_;rintro v w1 ⟨rfl,hb1⟩;obtain ⟨k0,k1,k2⟩:=HCC.out w1 hb1;have HB1:=hid hb1;clear hb1;go_wp2;go_ret;exact ⟨by first | rfl | simp,FIN.out _ HB1.out⟩
 have b3:(k == 3)=false:=(by rw[beq_eq_false_iff_ne];exact h3);by_cases h4:k=4
 · subst h4;have hres:=tm_4 x e;rw[hres,htx];clear hres htx;generalize langT e=yx at HLa ⊢;cases yv<;>cases y30
   · go_enter func124,ntmps124
     go_wp2_with fail
     refine HV.out.mono ?_;rintro v w1 ⟨rfl,hb1⟩;obtain ⟨k0,k1,k2⟩:=HCC.out w1 hb1;have HB1:=hid hb1;clear hb1;go_wp2;go_ret;exact ⟨by first | rfl | simp,FIN.out _ HB1.out⟩
   · go_enter func124,ntmps124
     go_wp2_with fail
     refine HV.out.mono ?_;rintro v w1 ⟨rfl,hb1⟩;obtain ⟨k0,k1,k2⟩:=HCC.out w1 hb1;have HB1:=hid hb1;clear hb1;go_wp2;go_ret;exact ⟨by first | rfl | simp,FIN.out _ HB1.out⟩
   · go_enter func124,ntmps124
     go_wp2_with fail
     refine HV.out.mono ?_;rintro v w1 ⟨rfl,hb1⟩;obtain ⟨k0,k1,k2⟩:=HCC.out w1 hb1;have HB1:=hid hb1;clear hb1;go_wp2;go_ret;exact ⟨by first | rfl | simp,FIN.out _ HB1.out⟩
   · go_enter func124,ntmps124
     go_wp2_with fail
     refine HV.out.mono ?_;rintro v w1 ⟨rfl,hb1⟩;obtain ⟨k0,k1,k2⟩:=HCC.out w1 hb1;have HB1:=hid hb1;clear hb1;go_wp2_with fail
     refine (HLa.out _).mono ?_;rintro v w2 ⟨rfl,hb2⟩;have HB2:=hid (HB1.out.trans (hb2.mono HB1.out.size));clear hb2;go_wp2;go_ret;exact ⟨by first | rfl | simp,FIN.out _ HB2.out⟩
 have b4:(k == 4)=false:=(by rw[beq_eq_false_iff_ne];exact h4);by_cases h5:k=5
 · subst h5;have hres:=tm_5 x e;rw[hres,htx];clear hres htx;generalize iriT e=yx at HE ⊢;cases yv<;>cases y30
   · go_enter func124,ntmps124
     go_wp2_with fail
     refine HV.out.mono ?_;rintro v w1 ⟨rfl,hb1⟩;obtain ⟨k0,k1,k2⟩:=HCC.out w1 hb1;have HB1:=hid hb1;clear hb1;go_wp2;go_ret;exact ⟨by first | rfl | simp,FIN.out _ HB1.out⟩
   · go_enter func124,ntmps124
     go_wp2_with fail
     refine HV.out.mono ?_;rintro v w1 ⟨rfl,hb1⟩;obtain ⟨k0,k1,k2⟩:=HCC.out w1 hb1;have HB1:=hid hb1;clear hb1;go_wp2;go_ret;exact ⟨by first | rfl | simp,FIN.out _ HB1.out⟩
   · go_enter func124,ntmps124
     go_wp2_with fail
     refine HV.out.mono ?_;rintro v w1 ⟨rfl,hb1⟩;obtain ⟨k0,k1,k2⟩:=HCC.out w1 hb1;have HB1:=hid hb1;clear hb1;go_wp2;go_ret;exact ⟨by first | rfl | simp,FIN.out _ HB1.out⟩
   · go_enter func124,ntmps124
     go_wp2_with fail
     refine HV.out.mono ?_;rintro v w1 ⟨rfl,hb1⟩;obtain ⟨k0,k1,k2⟩:=HCC.out w1 hb1;have HB1:=hid hb1;clear hb1;go_wp2_with fail
     refine (HE.out _ HB1.out).mono ?_;rintro v w2 ⟨rfl,hb2⟩;have HB2:=hid (HB1.out.trans (hb2.mono HB1.out.size));clear hb2;go_wp2;go_ret;exact ⟨by first | rfl | simp,FIN.out _ HB2.out⟩
 have b5:(k == 5)=false:=(by rw[beq_eq_false_iff_ne];exact h5);rw[tm_no k x e h1 h2 h3 h4 h5];clear htx;cases yv<;>cases y30
 all_goals
  go_enter func124,ntmps124
  go_wp2_with fail
  refine HV.out.mono ?_;rintro v w1 ⟨rfl,hb1⟩;obtain ⟨k0,k1,k2⟩:=HCC.out w1 hb1;have HB1:=hid hb1;clear hb1;go_wp2;go_ret;exact ⟨rfl,FIN.out _ HB1.out⟩
theorem zjF (t:Tri) (h:SmlT t) (w:World) (ht:Lay w) :
    Calls prog 78 #[.agg (encTri t).toArray] w fun e w'=>e=.returned (.bool (triT t))/\Below w.heap.size w w':=by
 obtain ⟨⟨sk,sx,se⟩,⟨pk,px,pe⟩,⟨ok,ox,oe⟩⟩:=t;obtain ⟨hs,hp,ho⟩:=h;simp only at hs hp ho;have hL:=ht.below ((Below.refl w.heap.size w).alloc nL (.cells #[.int .i64 sk,.string (str sx),.string (str se),.int .i64 pk,.string (str px),.string (str pe),.int .i64 ok,.string (str ox),.string (str oe)] 96));have k0:∀i v,(#[.int .i64 sk,.string (str sx),.string (str se),.int .i64 pk,.string (str px),.string (str pe),.int .i64 ok,.string (str ox),.string (str oe)]:Array Value)[i]?=some v->(w.alloc (.cells #[.int .i64 sk,.string (str sx),.string (str se),.int .i64 pk,.string (str px),.string (str pe),.int .i64 ok,.string (str ox),.string (str oe)] 96)).cell? ⟨w.heap.size,i,none⟩=some v:=by
  intro i v hv;rw[cell_of_heap (heap_alloc_new w _)];exact hv
 have K0:=hid k0;have HS:=hid (zaQ ⟨sk,sx,se⟩ hs _ hL);have HP:=hid fun W (hW:Below (w.alloc (.cells #[.int .i64 sk,.string (str sx),.string (str se),.int .i64 pk,.string (str px),.string (str pe),.int .i64 ok,.string (str ox),.string (str oe)] 96)).heap.size (w.alloc (.cells #[.int .i64 sk,.string (str sx),.string (str se),.int .i64 pk,.string (str px),.string (str pe),.int .i64 ok,.string (str ox),.string (str oe)] 96)) W)=>zaQ ⟨pk,px,pe⟩ hp W (hL.below hW);have HO:=hid fun W (hW:Below (w.alloc (.cells #[.int .i64 sk,.string (str sx),.string (str se),.int .i64 pk,.string (str px),.string (str pe),.int .i64 ok,.string (str ox),.string (str oe)] 96)).heap.size (w.alloc (.cells #[.int .i64 sk,.string (str sx),.string (str se),.int .i64 pk,.string (str px),.string (str pe),.int .i64 ok,.string (str ox),.string (str oe)] 96)) W)=>zaQ ⟨ok,ox,oe⟩ ho W (hL.below hW);unfold encT at HS HP HO;simp only at HS HP HO;unfold encTri encT triT;simp only[List.cons_append,List.nil_append];clear k0 hL hs hp ho ht;have hkk:tmT ⟨sk,sx,se⟩=true->(decide (sk=1) || decide (sk=2))=decide (sk<=2):=fun h=>by
  have:=(zbF _ h).kind;simp only at this;rcases this with rfl | rfl | rfl | rfl | rfl<;>rfl
 have HKK:=hid hkk;clear hkk;generalize tmT ⟨sk,sx,se⟩=y1 at HS HKK ⊢;generalize tmT ⟨pk,px,pe⟩=y2 at HP ⊢;generalize tmT ⟨ok,ox,oe⟩=y3 at HO ⊢;cases y1
 · go_enter func78,ntmps78
   go_wp2_with fail
   refine HS.out.mono ?_;rintro e1 w1 ⟨rfl,hb1⟩;go_wp2;go_ret;exact ⟨rfl,zau hb1⟩
 · cases y2
   · go_enter func78,ntmps78
     go_wp2_with fail
     refine HS.out.mono ?_;rintro e1 w1 ⟨rfl,hb1⟩;have d3:=zaa (K0.out 3 _ rfl) hb1;have d4:=zaa (K0.out 4 _ rfl) hb1;have d5:=zaa (K0.out 5 _ rfl) hb1;go_wp2_with fail
     refine (HP.out _ hb1).mono ?_;rintro e1 w2 ⟨rfl,hb2⟩;go_wp2;go_ret;exact ⟨rfl,zau (hb1.trans (hb2.mono hb1.size))⟩
   · cases y3
     · go_enter func78,ntmps78
       go_wp2_with fail
       refine HS.out.mono ?_;rintro e1 w1 ⟨rfl,hb1⟩;have d3:=zaa (K0.out 3 _ rfl) hb1;have d4:=zaa (K0.out 4 _ rfl) hb1;have d5:=zaa (K0.out 5 _ rfl) hb1;go_wp2_with fail
       refine (HP.out _ hb1).mono ?_;rintro e1 w2 ⟨rfl,hb2⟩;have hb2':=hb1.trans (hb2.mono hb1.size);have d6:=zaa (K0.out 6 _ rfl) hb2';have d7:=zaa (K0.out 7 _ rfl) hb2';have d8:=zaa (K0.out 8 _ rfl) hb2';go_wp2_with fail
       refine (HO.out _ hb2').mono ?_;rintro e1 w3 ⟨rfl,hb3⟩;go_wp2;go_ret;exact ⟨rfl,zau (hb2'.trans (hb3.mono hb2'.size))⟩
     · have q3:(pk == 1)=decide (pk=1):=rfl;rw[HKK.out rfl];obtain ⟨z1,hz1⟩:∃z1,decide (sk<=2)=z1:=⟨_,rfl⟩;rw[hz1];generalize decide (pk=1)=z3 at q3 ⊢;cases z1
       all_goals
        go_enter func78,ntmps78
        go_wp2_with fail
        refine HS.out.mono ?_;rintro e1 w1 ⟨rfl,hb1⟩;have d3:=zaa (K0.out 3 _ rfl) hb1;have d4:=zaa (K0.out 4 _ rfl) hb1;have d5:=zaa (K0.out 5 _ rfl) hb1;go_wp2_with fail
        refine (HP.out _ hb1).mono ?_;rintro e1 w2 ⟨rfl,hb2⟩;have hb2':=hb1.trans (hb2.mono hb1.size);have d6:=zaa (K0.out 6 _ rfl) hb2';have d7:=zaa (K0.out 7 _ rfl) hb2';have d8:=zaa (K0.out 8 _ rfl) hb2';go_wp2_with fail
        refine (HO.out _ hb2').mono ?_;rintro e1 w3 ⟨rfl,hb3⟩;have hb3':=hb2'.trans (hb3.mono hb2'.size);have f0:=zaa (K0.out 0 _ rfl) hb3';have f3:=zaa (K0.out 3 _ rfl) hb3';go_wp2;go_ret;exact ⟨by first | rfl | simp_all,zau hb3'⟩
end Go.Proofs.YtjcpjopbgngihaaGreatDoor
end
