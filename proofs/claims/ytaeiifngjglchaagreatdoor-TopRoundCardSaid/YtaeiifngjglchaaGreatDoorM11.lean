/- Proved on the way: The document's reader of lines: fail, bl; The document's digits of hexadecimal; The document's reader: what stands behin; The document's reader: up to a sign; The document's reader: what stands toget; The document's labels and languages. Each theorem states its own conditions. -/
import Derived.Test.YtaeiifngjglchaaGreatDoorM4
set_option maxHeartbeats 16000000
set_option maxRecDepth 1000000
section
namespace Go.Proofs.YtaeiifngjglchaaGreatDoor
open Go.Proofs.Tryz
open Go.RowKit Go.Lib Tv
def Rd5 (w:World) (g:Nat) (l:Bs) (b:Bool):Prop:=w.heap[g]?=some (.cells #[.string (str l),.bool b] 203 (0,0))
section
variable {w w1:World} {g:Nat} {l:Bs} {b:Bool}
theorem Rd5.fr {S:Nat->Prop} (h:Rd5 w g l b) (hf:Fr w w1 S) (hn:¬S g):Rd5 w1 g l b:=hf.heap h hn
theorem Rd5.below (h:Rd5 w g l b) (hb:Below w.heap.size w w1):Rd5 w1 g l b:=h.fr (Fr.of_below hb fun _=>False) fun h=>h
theorem Rd5.lt (h:Rd5 w g l b):g<w.heap.size:=(Array.getElem?_eq_some_iff.1 h).1
theorem Rd5.c0 (h:Rd5 w g l b):w.cell? ⟨g,0,none⟩=some (.string (str l)):=by rw[cell_of_heap h];rfl
theorem Rd5.c1 (h:Rd5 w g l b):w.cell? ⟨g,1,none⟩=some (.bool b):=by rw[cell_of_heap h];rfl
theorem Rd5.f (j:Nat) (h:Rd5 w g l b):w.frozen? ⟨g,j,none⟩=false:=frozen_of_heap h j
theorem Rd5.set0 (h:Rd5 w g l b) (r:Bs):Rd5 (w.setCell ⟨g,0,none⟩ (.string (str r))) g r b:=by
 unfold Rd5 at h ⊢;simp[World.setCell,Array.getElem?_modify,h]
theorem Rd5.set1 (h:Rd5 w g l b) (c:Bool):Rd5 (w.setCell ⟨g,1,none⟩ (.bool c)) g l c:=by
 unfold Rd5 at h ⊢;simp[World.setCell,Array.getElem?_modify,h]
theorem Rd5.new (w:World) (l:Bs) (b:Bool):Rd5 (w.alloc (.cells #[.string (str l),.bool b] 203)) w.heap.size l b:=heap_alloc_new w _
end
theorem zg4 (a b:Bs):((str a).toList == (str b).toList)=decide (a=b):=by
 rw[Lib.toList_data,Lib.toList_data,zad,zad];by_cases h:a=b
 · subst h;simp
 · rw[dF h,beq_eq_false_iff_ne];exact h
theorem zbW (l:Bs):((str l).toList == [])=decide (l=[]):=by
 have:=zg4 l [];rwa[show (str []).toList=[] by rw[Lib.toList_data,zad]]at this
theorem zg3 (l:Bs) (a b:Nat):(str l).extract a b=str ((l.take b).drop a):=by
 apply ByteArray.ext;rw[ByteArray.data_extract];apply Array.toList_inj.1;rw[Array.toList_extract];simp only[str,List.extract_eq_take_drop,List.drop_take]
theorem ze6 (l:Bs) (n:Nat):(str l).extract 0 n=str (l.take n):=by rw[zg3,List.drop_zero]
theorem zaW (l:Bs) (n:Nat):(str l).extract n l.length=str (l.drop n):=by rw[zg3,List.take_of_length_le nL]
theorem zaS (g:Nat) (l:Bs) (b:Bool) (w:World) (h:Rd5 w g l b) :
    Calls prog 195 #[.pointer (some ⟨g,0,none⟩)] w fun e w'=>e=.returned (.tuple #[])/\Rd5 w' g [] true/\Fr w w' (fun k=>k=g):=by
 have k0:=h.c0;have k1:=h.c1;have f0:=h.f 0;have f1:=h.f 1;have HR:=hid h;clear h;go_enter func195,ntmps195
 go_wp2;go_end0
 exact ⟨rfl,(HR.out.set0 []).set1 true,((Fr.refl w (fun k=>k=g)).set_ (p:=⟨g,0,none⟩) (.inl rfl) _).set_ (p:=⟨g,1,none⟩) (.inl rfl) _⟩
theorem zah (g:Nat) (l p:Bs) (b:Bool) (w:World) (h:Rd5 w g l b) :
    Calls prog 128 #[.pointer (some ⟨g,0,none⟩),.string (str p)] w fun e w'=>e=.returned (.bool (decide (l.take p.length=p)))/\w'=w:=by
 have k0:=h.c0;have hs:=zab l;have hz:=zab p;clear h;have he:=zg4 (l.take p.length) p;rw[<-ze6]at he;by_cases hpl:p.length<=l.length
 · have hz1:(p.length:Int)<=(l.length:Int):=(by omega);go_enter func128,ntmps128
   go_wp2;go_ret;exact ⟨rfl,rfl⟩
 · have hz1:¬(p.length:Int)<=(l.length:Int):=(by omega);have hne:decide (l.take p.length=p)=false:=dF fun h=>by
    have:=congrArg List.length h;rw[List.length_take]at this;omega
   rw[hne];go_enter func128,ntmps128
   go_wp2;go_ret;exact ⟨rfl,rfl⟩
def rlen5 (w:World) (g:Nat):Nat:=match w.cell? ⟨g,0,none⟩ with | some (.string s)=>s.size | _=>0
theorem zfa {w:World} {g:Nat} {l:Bs} {b:Bool} (h:Rd5 w g l b):rlen5 w g=l.length:=by
 unfold rlen5;rw[h.c0];exact zab l
theorem zmZ (c:UInt8) (l:Bs):blk (c::l)=if isBl c then blk l else c::l:=by
 unfold blk;rw[List.dropWhile_cons]
theorem zmq (c:UInt8):isBl c=(((c.toNat:Int) == 32) || ((c.toNat:Int) == 9)):=by
 refine zas c (fun c=>isBl c=(((c.toNat:Int) == 32) || ((c.toNat:Int) == 9))) ?_;decide +kernel
theorem zal (g:Nat) (l:Bs) (b:Bool) (w:World) (h:Rd5 w g l b) (hl:l.length<=1000000) :
    Calls prog 127 #[.pointer (some ⟨g,0,none⟩)] w fun e w'=>e=.returned (.tuple #[])/\Rd5 w' g (blk l) b/\Fr w w' (fun k=>k=g):=by
 have HR:=hid h;clear h;go_enter func127,ntmps127
 go_wp2;go_loopw [] (fun wr=>∃r:Bs,blk r=blk l/\r.length<=1000000/\Rd5 wr g r b/\Fr w wr (fun k=>k=g)) (fun wr=>rlen5 wr g)
 case atStart=>exact ⟨l,rfl,hl,HR.out,Fr.refl _ _⟩
 case round=>
  obtain ⟨r,hbl,hrl,hrd,hfr⟩:=hrel;have hrr:=zfa hrd;have k0:=hrd.c0;have f0:=hrd.f 0;have HRD:=hid hrd;have HFR:=hid hfr;have HBL:=hid hbl;clear hrd hfr hbl;have hs:=zab r;cases r with
  | nil=>
   rw[show str []=(⟨#[]⟩:ByteArray) from rfl]at k0;clear hs;go_wp2;go_end0
   exact ⟨rfl,by rw[<-HBL.out];exact HRD.out,HFR.out⟩
  | cons c q=>
   obtain ⟨S,hS⟩:∃S,str (c::q)=S:=⟨_,rfl⟩;rw[hS]at k0 hs;simp only[List.length_cons]at hrl hs;have he:(S.toList == [])=false:=(by rw[<-hS,zbW];rfl);have hlt:0<S.size:=(by omega);have hi:S[0]'hlt=c:=(by subst hS;rfl);have hb:=zmq c;have hq:=zmZ c q;have hd:S.extract 1 S.size=str q:=(by rw[<-hS,zab];exact zaW (c::q) 1);have HQ:=hid hq;have HB:=hid hb;have h1le:(1:Int)<=(S.size:Int):=(by omega);have HSS:=hid hS;clear hq hb hS hs;obtain ⟨z,hz⟩:∃z:Int,(c.toNat:Int)=z:=⟨_,rfl⟩;rw[hz]at HB;have fin:isBl c=true->∀w2,w2=wr.setCell ⟨g,0,none⟩ (.string (str q))->(blk q=blk l/\q.length<=1000000/\Rd5 w2 g q b/\Fr w w2 (fun k=>k=g)):=by
    rintro h1 w2 rfl;refine ⟨?_,by omega,HRD.out.set0 q,HFR.out.set_ (.inl rfl) _⟩;rw[<-HBL.out,HQ.out,h1];rfl
   have HFIN:=hid fin;clear fin;cases hx1:(z == 32) with
   | true=>
    have hbt:isBl c=true:=(by rw[HB.out,hx1];rfl);have HF:=hid (HFIN.out hbt _ rfl);clear hbt HFIN;go_wp2;go_roundw
    case rel=>exact ⟨q,HF.out⟩
    case measure=>rw[hrr,zfa HF.out.2.2.1];simp
   | false=>
    cases hx2:(z == 9) with
    | true=>
     have hbt:isBl c=true:=(by rw[HB.out,hx1,hx2];rfl);have HF:=hid (HFIN.out hbt _ rfl);clear hbt HFIN;go_wp2;go_roundw
     case rel=>exact ⟨q,HF.out⟩
     case measure=>rw[hrr,zfa HF.out.2.2.1];simp
    | false=>
     have hbf:isBl c=false:=(by rw[HB.out,hx1,hx2];rfl);have HBF:=hid (show blk l=c::q by rw[<-HBL.out,HQ.out,hbf];rfl);clear hbf;go_wp2;go_end0
     exact ⟨rfl,by rw[HBF.out];exact HRD.out,HFR.out⟩
def hexR:Option (Nat × Bs)->Int
 | none=>-1
 | some p=>if Lib.validRune (p.1:Int) then (p.1:Int) else -1
theorem zmS (c:UInt8) (h:dig c=none):¬((48:Int)<=c.toNat/\(c.toNat:Int)<=57)/\¬((97:Int)<=c.toNat/\(c.toNat:Int)<=102)/\¬((65:Int)<=c.toNat/\(c.toNat:Int)<=70):=by
 revert h;refine zas c (fun c=>dig c=none->¬((48:Int)<=c.toNat/\(c.toNat:Int)<=57)/\¬((97:Int)<=c.toNat/\(c.toNat:Int)<=102)/\¬((65:Int)<=c.toNat/\(c.toNat:Int)<=70)) ?_;decide +kernel
theorem zmR (c:UInt8) (d:Nat) (h:dig c=some d):((48:Int)<=c.toNat/\(c.toNat:Int)<=57/\(c.toNat:Int)=d+48)\/((97:Int)<=c.toNat/\(c.toNat:Int)<=102/\(c.toNat:Int)=d+87)\/((65:Int)<=c.toNat/\(c.toNat:Int)<=70/\(c.toNat:Int)=d+55):=by
 have key:∀c:UInt8,(match dig c with | none=>true | some d=>decide (((48:Int)<=c.toNat/\(c.toNat:Int)<=57/\(c.toNat:Int)=d+48)\/((97:Int)<=c.toNat/\(c.toNat:Int)<=102/\(c.toNat:Int)=d+87)\/((65:Int)<=c.toNat/\(c.toNat:Int)<=70/\(c.toNat:Int)=d+55)))=true:=fun c=>
  zas c (fun c=>(match dig c with | none=>true | some d=>decide (((48:Int)<=c.toNat/\(c.toNat:Int)<=57/\(c.toNat:Int)=d+48)\/((97:Int)<=c.toNat/\(c.toNat:Int)<=102/\(c.toNat:Int)=d+87)\/((65:Int)<=c.toNat/\(c.toNat:Int)<=70/\(c.toNat:Int)=d+55)))=true) (by decide +kernel)
 have:=key c;rw[h]at this;exact oT this
theorem zeI:∀(n v:Nat) (l:Bs),l.length<n->hexN n v l=none
 | 0,_,_,h=>absurd h (by omega)
 | n+1,_,[],_=>rfl
 | n+1,v,c::l,h=>by
  unfold hexN;cases dig c with
  | none=>rfl
  | some d=>exact zeI n _ l (by simpa using h)
theorem zob (l:Bs) (j v i:Nat) (h:i<l.length):hexN (j+1) v (l.drop i)=(dig l[i]).bind fun d=>hexN j (v*16+d) (l.drop (i+1)):=by
 rw[List.drop_eq_getElem_cons h];rfl
theorem zmw (v:Nat) (q:Bs):hexR (some (v,q))=if (1114111:Int)<v then -1 else if 55296<=(v:Int) then (if (v:Int)<=57343 then -1 else (v:Int)) else (v:Int):=by
 show (if Lib.validRune (v:Int) then (v:Int) else -1)=_;unfold Lib.validRune;repeat' split
 all_goals first | rfl | (simp_all;done) | (simp_all;omega)
theorem zkG (l:Bs) (n:Nat) (h8:n<=8) (w:World) :
    Calls prog 327 #[.string (str l),.int .i64 n] w fun e w'=>e=.returned (.int .i32 (hexR (hexN n 0 l)))/\∃m,w'=w.drewN m:=by
 have hsz:=zab l;by_cases hs:l.length<n
 · rw[zeI n 0 l hs];have hz:(l.length:Int)<(n:Int):=(by omega);go_enter func327,ntmps327
   go_wp2;go_ret;exact ⟨rfl,0,rfl⟩
 · have hz:¬(l.length:Int)<(n:Int):=(by omega);go_enter func327,ntmps327
   go_wp2;go_loopw [5,6] (fun v5 v6 wr=>∃v i m:Nat,v5=.int .i64 v/\v6=.int .i64 i/\i<=n/\v<16 ^ i/\Hid (hexN n 0 l=hexN (n-i) v (l.drop i))/\wr=w.drewN m) (fun _ v6 _=>n-(intOf v6).toNat)
   case atStart=>exact ⟨0,0,0,rfl,rfl,Nat.zero_le _,by simp,hid rfl,rfl⟩
   case round=>
    obtain ⟨v,i,m,rfl,rfl,hin,hv,HE,rfl⟩:=hrel;by_cases hlt:i<n
    · have hil:i<l.length:=(by omega);have hv7:v<268435456:=Nat.lt_of_lt_of_le hv (Nat.le_trans (Nat.pow_le_pow_right (by decide) (show i<=7 by omega)) (by decide));have hnx:=zob l (n-i-1) v i hil;rw[show n-i-1+1=n-i by omega]at hnx;have hgi:(str l)[i]'(by rw[hsz];exact hil)=l[i]:=rfl;generalize l[i]=c at hnx hgi;obtain ⟨S,hS⟩:∃S,str l=S:=⟨_,rfl⟩;rw[hS]at hsz;have hgi2:S[i]'(by omega)=c:=(by subst hS;exact hgi);have hiS:i<S.size:=(by omega);have hc:=c.toNat_lt;have hltz:(i:Int)<(n:Int):=(by omega);have hp16:(16:Nat) ^ (i+1)=16 ^ i*16:=Nat.pow_succ _ _;rw[hS];clear hgi hS;cases hdg:dig c with
      | none=>
       obtain ⟨g1,g2,g3⟩:=zmS c hdg;have HR:Hid (hexN n 0 l=none):=(by show _=_;rw[HE.out,hnx,hdg];rfl);clear hnx hdg HE hv hp16;have k:(c.toNat:Int)<48\/(48<=(c.toNat:Int)/\57<(c.toNat:Int)/\(c.toNat:Int)<65)\/(48<=(c.toNat:Int)/\57<(c.toNat:Int)/\65<=(c.toNat:Int)/\70<(c.toNat:Int)/\(c.toNat:Int)<97)\/(48<=(c.toNat:Int)/\57<(c.toNat:Int)/\97<=(c.toNat:Int)/\102<(c.toNat:Int)/\65<=(c.toNat:Int)/\70<(c.toNat:Int)):=(by omega);clear g1 g2 g3;rcases k with k | ⟨k1,k2,k3⟩ | ⟨k1,k2,k3,k4,k5⟩ | ⟨k1,k2,k3,k4,k5,k6⟩
       all_goals
        go_wp2;first | go_ret | go_ret2 | (try rw[Exit.noGoto_ret];go_ret3)
        rw[HR.out];exact ⟨rfl,m,rfl⟩
      | some d=>
       have hds:=zmR c d hdg;have hd16:d<16:=(by rcases hds with h | h | h<;>omega);have HN:Hid (hexN n 0 l=hexN (n-(i+1)) (v*16+d) (l.drop (i+1))):=by
        show _=_;rw[HE.out,hnx,hdg,Option.bind_some,show n-i-1=n-(i+1) by omega]
       have hv2:v*16+d<16 ^ (i+1):=(by rw[hp16];omega);clear hnx hdg HE hv hp16;obtain ⟨q,hq⟩:∃q,v*16+d=q:=⟨_,rfl⟩;rw[hq]at HN hv2;have w1:IntKind.i64.wrap ((v:Int)*16)=(v:Int)*16:=(wI (by omega));rcases hds with ⟨a1,a2,a3⟩ | ⟨a1,a2,a3⟩ | ⟨a1,a2,a3⟩
       · have w2:IntKind.u8.wrap ((c.toNat:Int)-48)=d:=(by rw[IntKind.wrap_u8];omega);have w3:IntKind.i64.wrap ((v:Int)*16+(d:Int))=(q:Int):=(wI (by omega));clear hq a3;go_wp2;go_roundw
         case rel=>exact ⟨q,i+1,m,rfl,by go_num,by omega,hv2,HN,rfl⟩
         case measure=>simp[intOf];omega
       · have hd10:10<=d:=(by omega);obtain ⟨p,hp⟩:∃p,d-10=p:=⟨_,rfl⟩;have w2:IntKind.u8.wrap ((c.toNat:Int)-97)=p:=(by rw[IntKind.wrap_u8];omega);have w3:IntKind.i64.wrap ((v:Int)*16+(p:Int))=(v:Int)*16+(p:Int):=(wI (by omega));have w4:IntKind.i64.wrap ((v:Int)*16+(p:Int)+10)=(q:Int):=(wI (by omega));have a4:(48:Int)<=c.toNat:=(by omega);have a5:(57:Int)<c.toNat:=(by omega);have hp6:p<6:=(by omega);clear hq a3 hp;go_wp2;go_roundw
         case rel=>exact ⟨q,i+1,m,rfl,by go_num,by omega,hv2,HN,rfl⟩
         case measure=>simp[intOf];omega
       · have hd10:10<=d:=(by omega);obtain ⟨p,hp⟩:∃p,d-10=p:=⟨_,rfl⟩;have w2:IntKind.u8.wrap ((c.toNat:Int)-65)=p:=(by rw[IntKind.wrap_u8];omega);have w3:IntKind.i64.wrap ((v:Int)*16+(p:Int))=(v:Int)*16+(p:Int):=(wI (by omega));have w4:IntKind.i64.wrap ((v:Int)*16+(p:Int)+10)=(q:Int):=(wI (by omega));have a4:(48:Int)<=c.toNat:=(by omega);have a5:(57:Int)<c.toNat:=(by omega);have a6:(c.toNat:Int)<97:=(by omega);have hp6:p<6:=(by omega);clear hq a3 hp;go_wp2;go_roundw
         case rel=>exact ⟨q,i+1,m,rfl,by go_num,by omega,hv2,HN,rfl⟩
         case measure=>simp[intOf];omega
    · obtain rfl:i=n:=(by omega);have hv8:v<4294967296:=Nat.lt_of_lt_of_le hv (Nat.le_trans (Nat.pow_le_pow_right (by decide) h8) (by decide));have HR:Hid (hexR (hexN i 0 l)=if (1114111:Int)<v then -1 else if 55296<=(v:Int) then (if (v:Int)<=57343 then -1 else (v:Int)) else (v:Int)):=by
       show _=_;rw[HE.out,Nat.sub_self];exact zmw v _
      clear HE hv;have hw:(v:Int)<=1114111->IntKind.i32.wrap (v:Int)=v:=fun h=>(by rw[IntKind.wrap_i32];omega);by_cases h1:(1114111:Int)<v
      · have HS:=hid (HR.out.trans (if_pos h1));clear hw HR;go_wp2;go_ret;rw[HS.out];exact ⟨rfl,m,rfl⟩
      · have hw2:=hw (by omega);by_cases h2:(55296:Int)<=v
        · by_cases h3:(v:Int)<=57343
          · have HS:=hid ((HR.out.trans (if_neg h1)).trans ((if_pos h2).trans (if_pos h3)));clear hw HR;go_wp2;go_ret;rw[HS.out];exact ⟨rfl,m,rfl⟩
          · have HS:=hid ((HR.out.trans (if_neg h1)).trans ((if_pos h2).trans (if_neg h3)));clear hw HR;go_wp2;go_ret;rw[HS.out];exact ⟨rfl,m,rfl⟩
        · have HS:=hid ((HR.out.trans (if_neg h1)).trans (if_neg h2));clear hw HR;go_wp2;go_ret;rw[HS.out];exact ⟨rfl,m,rfl⟩
theorem zlp (r:Nat) (hv:Lib.validRune (r:Int)=true):(Utf8.encode (r:Int)).data.toList=encodeRune (r:Int):=by
 unfold Lib.validRune at hv;rw[decide_eq_true_eq]at hv;have v:Utf8.valid (r:Int)=true:=(by simp[Utf8.valid];omega);unfold encodeRune;by_cases c1:r<128
 · rw[encodeRuneZ_one (by omega) (by omega)];simp[Utf8.encode,v,c1]
 by_cases c2:r<2048
 · rw[encodeRuneZ_two (by omega) (by omega)];have e1:(192+(r:Int) / 64).toNat=192+r / 64:=(by omega);have e2:(128+(r:Int) % 64).toNat=128+r % 64:=(by omega);simp only[List.map_cons,List.map_nil,e1,e2];simp[Utf8.encode,v,c1,c2]
 by_cases c3:r<65536
 · rw[encodeRuneZ_three (by omega)];have e1:(224+(r:Int) / 4096).toNat=224+r / 4096:=(by omega);have e2:(128+(r:Int) / 64 % 64).toNat=128+r / 64 % 64:=(by omega);have e3:(128+(r:Int) % 64).toNat=128+r % 64:=(by omega);simp only[List.map_cons,List.map_nil,e1,e2,e3];simp[Utf8.encode,v,c1,c2,c3]
 · rw[encodeRuneZ_four (by omega) (by omega)];have e0:(240+(r:Int) / 262144).toNat=240+r / 262144:=(by omega);have e1:(128+(r:Int) / 4096 % 64).toNat=128+r / 4096 % 64:=(by omega);have e2:(128+(r:Int) / 64 % 64).toNat=128+r / 64 % 64:=(by omega);have e3:(128+(r:Int) % 64).toNat=128+r % 64:=(by omega);simp only[List.map_cons,List.map_nil,e0,e1,e2,e3];simp[Utf8.encode,v,c1,c2,c3]
theorem zfX (w:World) (b:Nat) (z:Nat) (hv:Lib.validRune (z:Int)=true) (hc:w.cell? ⟨b,0,none⟩=some (.int .i32 (z:Int))) :
    (convert 310 9 (.slice (some ⟨b,0,none⟩) 1 1)).run prog w=.ok (.string (str (encodeRune (z:Int)))) w:=by
 rw[run_convert_runes_string w _ _ 21 _ _ _ underlying310 underlying21 underlying9];have hl:=run_loadCells_list (P:=prog) w ⟨b,0,none⟩ ([(z:Int)].map (Value.int .i32)) (fun j v hj=>by
  match j,hj with
  | 0,hj=>simp at hj;subst hj;simpa [Addr.add] using hc)
 rw[run_runesToString w ⟨b,0,none⟩ 1 1 [(z:Int)] hl];have e:runesBytes [(z:Int)]=str (encodeRune (z:Int)):=by
  rw[<-zlp z hv];unfold runesBytes;apply ByteArray.ext;simp[str]
 rw[e]
def escR (lit:Bool) (l:Bs):Bs × Nat:=match esc lit l with
 | some p=>(p.1,l.length-p.2.length)
 | none=>([],0)
def escF:ByteArray:=⟨#[34,92,110,114,116,98,102,39]⟩
def escT:ByteArray:=⟨#[34,92,10,13,9,8,12,39]⟩
theorem zk0:∀i:Fin 8,∃d,unesc (escF[i.val]'(by have:=i.2;exact this))=some d/\escT.extract i.val (i.val+1)=str [d]:=by decide +kernel
theorem zk1 (c:UInt8) (h:∀i:Fin 8,(escF[i.val]'(by have:=i.2;exact this))≠c):unesc c=none:=by
 revert h;refine zas c (fun c=>(∀i:Fin 8,(escF[i.val]'(by have:=i.2;exact this))≠c)->unesc c=none) ?_;decide +kernel
theorem zmE (lit:Bool) (c:UInt8) (q:Bs) (n:Nat) (h:(c=117/\n=4)\/(c=85/\n=8)) :
    (hexR (hexN n 0 q)<0/\escR lit (c::q)=([],0))\/(∃z:Nat,hexR (hexN n 0 q)=(z:Int)/\Lib.validRune (z:Int)=true/\escR lit (c::q)=(encodeRune (z:Int),1+n)):=by
 have he:esc lit (c::q)=num n q:=by
  simp only[esc];rcases h with ⟨rfl,rfl⟩ | ⟨rfl,rfl⟩
  · rw[if_pos rfl]
  · rw[if_neg (by decide),if_pos rfl]
 unfold escR;rw[he];unfold num;cases hx:hexN n 0 q with
 | none=>left;exact ⟨by show (-1:Int)<0;omega,rfl⟩
 | some p=>
  rw[Option.bind_some];by_cases hv:Lib.validRune (p.1:Int)=true
  · right
    refine ⟨p.1,by simp only[hexR];rw[if_pos hv],hv,?_⟩;have:=(zc0 n 0 q p.1 p.2 hx).1;have e:(c::q).length-p.2.length=1+n:=(by rw[List.length_cons];omega);rw[if_pos hv];simp only[e]
  · left
    refine ⟨by simp only[hexR];rw[if_neg hv];decide,?_⟩;rw[if_neg hv]
theorem zmF (c:UInt8) (q:Bs) (h1:c≠117) (h2:c≠85):escR true (c::q)=match unesc c with | some d=>([d],1) | none=>([],0):=by
 unfold escR;simp only[esc,if_neg h1,if_neg h2,if_true];cases unesc c with
 | none=>rfl
 | some d=>simp
theorem zoh (c:UInt8) (q:Bs) (h1:c≠117) (h2:c≠85):escR false (c::q)=([],0):=by
 unfold escR;simp only[esc,if_neg h1,if_neg h2];rfl
theorem zfu (l:Bs) (lit:Bool) (w:World) :
    Calls prog 273 #[.string (str l),.bool lit] w fun e w'=>e=.returned (.tuple #[.string (str (escR lit l).1),.int .i64 ((escR lit l).2:Nat)])/\Below w.heap.size w w':=by
 cases l with
 | nil=>
  rw[show str []=(⟨#[]⟩:ByteArray) from rfl,show escR lit []=([],0) from rfl];go_enter func273,ntmps273
  go_wp2;go_ret2;exact ⟨rfl,br⟩
 | cons c q=>
  obtain ⟨S,hS⟩:∃S,str (c::q)=S:=⟨_,rfl⟩;have hsz:S.size=q.length+1:=(by rw[<-hS,zab];rfl);have he:(S.toList == [])=false:=(by rw[<-hS,zbW];rfl);have hlt:0<S.size:=(by omega);have hi:S[0]'hlt=c:=(by subst hS;rfl);have h1le:(1:Int)<=(S.size:Int):=(by omega);have hd:S.extract 1 S.size=str q:=(by rw[<-hS,zab];exact zaW (c::q) 1);rw[hS];clear hsz hS;obtain ⟨z,hz⟩:∃z:Int,(c.toNat:Int)=z:=⟨_,rfl⟩;have key:∀n:Nat,((c=117/\n=4)\/(c=85/\n=8))->(((z == 117)=true/\n=4/\(z == 85)=false)\/((z == 117)=false/\(z == 85)=true/\n=8)):=by
   rintro n (⟨rfl,rfl⟩ | ⟨rfl,rfl⟩)
   · left;subst hz;exact ⟨by decide,rfl,by decide⟩
   · right;subst hz;exact ⟨by decide,by decide,rfl⟩
  by_cases hu:c=117\/c=85
  · obtain ⟨n,hn⟩:∃n,(c=117/\n=4)\/(c=85/\n=8):=by
     rcases hu with h | h
     · exact ⟨4,.inl ⟨h,rfl⟩⟩
     · exact ⟨8,.inr ⟨h,rfl⟩⟩
    have hk:=key n hn;have hn8:n<=8:=(by rcases hn with h | h<;>omega);have HX:=hid fun W=>zkG q n hn8 W;have hor:=zmE lit c q n hn;rw[<-hz]at hk;clear hu hn key hn8;rcases hor with ⟨h0,h1⟩ | ⟨r,h0,hv,h1⟩
    · rw[h1];generalize hexR (hexN n 0 q)=x at HX h0;clear h1;rcases hk with ⟨k1,rfl,k2⟩ | ⟨k1,k2,rfl⟩
      all_goals
       go_enter func273,ntmps273
       go_wp2_with fail
       refine (HX.out _).mono ?_;rintro e w1 ⟨rfl,m,rfl⟩;go_wp2;go_ret2;exact ⟨rfl,⟨rfl,rfl,rfl,nL,fun _ _=>rfl⟩⟩
    · rw[h1];rw[h0]at HX;have hrv:¬(r:Int)<0:=(by omega);have HV:=hid hv;clear h1 h0 hv;rcases hk with ⟨k1,rfl,k2⟩ | ⟨k1,k2,rfl⟩
      all_goals
       go_enter func273,ntmps273
       go_wp2_with fail
       refine (HX.out _).mono ?_;rintro e w1 ⟨rfl,m,rfl⟩;have hcv:=zfX ((w.drewN m).alloc (.cells #[.int .i32 (r:Int)] 21)) w.heap.size r HV.out ((World.cell?_alloc_mark (w.drewN m) _ _ _ 0).trans rfl);go_wp2;go_ret2;exact ⟨rfl,(show Below w.heap.size w (w.drewN m) from ⟨rfl,rfl,rfl,nL,fun _ _=>rfl⟩).alloc nL _⟩
  · have h1:c≠117:=fun h=>hu (.inl h);have h2:c≠85:=fun h=>hu (.inr h);have k1:(z == 117)=false:=by
     rw[beq_eq_false_iff_ne];rintro rfl;exact h1 (UInt8.toNat_inj.1 (by show c.toNat=117;omega))
    have k2:(z == 85)=false:=by
     rw[beq_eq_false_iff_ne];rintro rfl;exact h2 (UInt8.toNat_inj.1 (by show c.toNat=85;omega))
    cases lit with
    | false=>
     rw[zoh c q h1 h2];clear key hu h1 h2;go_enter func273,ntmps273
     go_wp2;go_loopw [10] (fun v wr=>v=.int .i64 0/\wr=w) (fun _ _=>0)
     case atStart=>exact ⟨rfl,rfl⟩
     case round=>
      obtain ⟨rfl,rfl⟩:=hrel;go_wp2;go_ret2;exact ⟨rfl,br⟩
    | true=>
     obtain ⟨P,hP⟩:∃P,escR true (c::q)=P:=⟨_,rfl⟩;rw[hP];have HP:=hid (hP.symm.trans (zmF c q h1 h2));clear key hu h1 h2 hP;go_enter func273,ntmps273
     go_wp2;rw[show (⟨#[34,92,110,114,116,98,102,39]⟩:ByteArray)=escF from rfl,show (⟨#[34,92,10,13,9,8,12,39]⟩:ByteArray)=escT from rfl];have hFs:escF.size=8:=rfl;have hTs:escT.size=8:=rfl;go_loopw [10] (fun v wr=>∃i:Nat,i<=8/\v=.int .i64 i/\Below w.heap.size w wr/\Hid (∀j:Fin 8,j.val<i->(escF[j.val]'(by have:=j.2;exact this))≠c)) (fun v _=>8-(intOf v).toNat)
     case atStart=>exact ⟨0,by omega,rfl,br,hid fun j hj=>absurd hj (by omega)⟩
     case round=>
      obtain ⟨i,hi8,rfl,hb,HN⟩:=hrel;have HB:=hid hb;clear hb;by_cases hlt8:i<8
      · obtain ⟨d,hd1,hd2⟩:=zk0 ⟨i,hlt8⟩;have hif:i<escF.size:=hlt8;simp only at hd1 hd2;have HNX:Hid ((escF[i]'hif)≠c->∀j:Fin 8,j.val<i+1->(escF[j.val]'(by have:=j.2;exact this))≠c):=fun hne j hj=>by
         by_cases hji:j.val<i
         · exact HN.out j hji
         · have e:j.val=i:=(by omega);have e2:j=⟨i,hlt8⟩:=Fin.ext e;subst e2;exact hne
        have HD:=hid hd1;generalize hy:(escF[i]'hif)=y at HNX HD;clear hd1;have HY:=hid hy;by_cases hcy:c=y
        · have hq:(z == (y.toNat:Int))=true:=(by rw[beq_iff_eq,<-hz,hcy]);have HU:Hid (unesc c=some d):=(by show unesc c=some d;rw[hcy];exact HD.out);clear hcy HNX HN HD;go_wp2;go_region
          go_wp2;go_ret2;have hp:P=([d],1):=(by rw[HP.out,HU.out]);subst hp;exact ⟨rfl,HB.out.trans (show Below w.heap.size wr wr.drew from ⟨rfl,rfl,rfl,nL,fun _ _=>rfl⟩)⟩
        · have hq:(z == (y.toNat:Int))=false:=by
           rw[beq_eq_false_iff_ne,<-hz];exact fun h=>hcy (UInt8.toNat_inj.1 (by omega))
          have HN2:=hid (HNX.out fun h=>hcy h.symm);clear hcy HNX HN HD;go_wp2;go_region
          go_wp2;go_roundw
          case rel=>exact ⟨i+1,by omega,by go_num,HB.out.trans (show Below w.heap.size wr wr.drew from ⟨rfl,rfl,rfl,nL,fun _ _=>rfl⟩),HN2⟩
          case measure=>simp[intOf];omega
      · obtain rfl:i=8:=(by omega);have HU:=hid (zk1 c fun j=>HN.out j j.2);clear HN hlt8;go_wp2;go_ret2;have hp:P=([],0):=(by rw[HP.out,HU.out]);subst hp;exact ⟨rfl,HB.out⟩
end Go.Proofs.YtaeiifngjglchaaGreatDoor
section
namespace Go.Proofs.YtaeiifngjglchaaGreatDoor.Tv
open Go.Proofs.Tryz
open Go.Lib
theorem zgp:∀(n v:Nat) (l:Bs) (v':Nat) (r:Bs),hexN n v l=some (v',r)->r=l.drop n
 | 0,v,l,v',r,h=>by
  simp only[hexN,Option.some.injEq,Prod.mk.injEq]at h;exact h.2.symm
 | n+1,v,[],v',r,h=>by simp[hexN]at h
 | n+1,v,c::l,v',r,h=>by
  simp only[hexN]at h;cases hd:dig c with
  | none=>rw[hd]at h;simp at h
  | some d=>
   rw[hd,Option.bind_some]at h;exact zgp n _ l v' r h
theorem zii (n:Nat) (l t r:Bs) (h:num n l=some (t,r)):r=l.drop n:=by
 unfold num at h;cases hx:hexN n 0 l with
 | none=>rw[hx]at h;simp at h
 | some p=>
  rw[hx,Option.bind_some]at h;split at h
  · simp only[Option.some.injEq,Prod.mk.injEq]at h;rw[<-h.2];exact zgp n 0 l p.1 p.2 hx
  · cases h
theorem zmC (lit:Bool) (l t r:Bs) (h:esc lit l=some (t,r)):r=l.drop (l.length-r.length):=by
 have key:∀n,r=l.drop n->r=l.drop (l.length-r.length):=by
  rintro n rfl;rw[List.length_drop];by_cases hn:n<=l.length
  · rw[show l.length-(l.length-n)=n by omega]
  · rw[List.drop_eq_nil_of_le (show l.length<=n by omega),List.drop_eq_nil_of_le (show l.length<=l.length-(l.length-n) by omega)]
 cases l with
 | nil=>simp[esc]at h
 | cons c l=>
  simp only[esc]at h;split at h
  · exact key 5 (zii 4 l t r h)
  · split at h
    · exact key 9 (zii 8 l t r h)
    · split at h
      · cases hu:unesc c with
        | none=>rw[hu]at h;simp at h
        | some d=>
         rw[hu]at h;simp only[Option.map_some,Option.some.injEq,Prod.mk.injEq]at h;exact key 1 h.2.symm
      · cases h
end Go.Proofs.YtaeiifngjglchaaGreatDoor.Tv
namespace Go.Proofs.YtaeiifngjglchaaGreatDoor
open Go.Proofs.Tryz
open Go.RowKit Go.Lib Tv
theorem zkZ {lit:Bool} {q:Bs} (h:esc lit q=none):escR lit q=([],0):=by unfold escR;rw[h]
theorem zkY {lit:Bool} {q t r:Bs} (h:esc lit q=some (t,r)):escR lit q=(t,q.length-r.length):=by unfold escR;rw[h]
def UpS (e:UInt8) (lit:Bool) (l acc:Bs) (i:Nat):Prop:=i<=l.length/\acc.length<=4*i/\upTo true e lit l=(upTo true e lit (l.drop i)).map fun q=>(acc++q.1,q.2)
theorem UpS.zero (e:UInt8) (lit:Bool) (l:Bs):UpS e lit l [] 0:=⟨Nat.zero_le _,by simp,by rw[List.drop_zero];cases upTo true e lit l<;>rfl⟩
theorem zl5 (o:Option (Bs × Bs)) (a t:Bs):(o.map fun q=>(t++q.1,q.2)).map (fun q=>(a++q.1,q.2))=o.map fun q=>((a++t)++q.1,q.2):=by
 cases o with
 | none=>rfl
 | some q=>simp
theorem UpS.step {e:UInt8} {lit:Bool} {l acc t:Bs} {i j:Nat} (h:UpS e lit l acc i) (hj:j<=l.length) (hij:i<j) (ht:t.length<=4) (he:upTo true e lit (l.drop i)=(upTo true e lit (l.drop j)).map fun q=>(t++q.1,q.2)):UpS e lit l (acc++t) j:=by
 refine ⟨hj,by rw[List.length_append];have:=h.2.1;omega,?_⟩;rw[h.2.2,he,zl5]
theorem UpS.no {e:UInt8} {lit:Bool} {l acc:Bs} {i:Nat} (h:UpS e lit l acc i) (he:upTo true e lit (l.drop i)=none):upTo true e lit l=none:=by rw[h.2.2,he];rfl
def UpA (w:World) (g:Nat) (e:UInt8) (lit:Bool) (l:Bs) (b:Bool) (v:Ending) (w':World):Prop:=
 Fr w w' (fun k=>k=g)/\((∃x r,upTo true e lit l=some (x,r)/\v=.returned (.string (str x))/\Rd5 w' g r b)\/(upTo true e lit l=none/\v=.returned (.string (str []))/\Rd5 w' g [] true))
theorem UpA.no {w w1 w2:World} {g:Nat} {e:UInt8} {lit:Bool} {l:Bs} {b:Bool} (h:upTo true e lit l=none) (hf:Fr w w1 (fun k=>k=g)) (hr:Rd5 w2 g [] true) (hf2:Fr w1 w2 (fun k=>k=g)):UpA w g e lit l b (.returned (.string (str []))) w2:=
 ⟨hf.then_ hf2 fun _ h=>.inl h,.inr ⟨h,rfl,hr⟩⟩
theorem zjQ (l:Bs) (i:Nat) (h:i<l.length):(str l).extract i (i+1)=str [l[i]]:=by
 rw[zg3,List.drop_take,Nat.add_sub_cancel_left,List.drop_eq_getElem_cons h];rfl
theorem zag (a b:Bs) (h:a.length+b.length<=1000000000):∀w,(Op.stringOp .add (str a) (str b)).run prog w=.ok (.string (str (a++b))) w:=fun w=>by
 rw[run_string_add_sum (P:=prog) (w:=w) (str a) (str b) (by rw[zab,zab];omega),zax]
theorem zm3 (c e:UInt8):((c.toNat:Int) == (e.toNat:Int))=decide (c=e):=by
 by_cases h:c=e
 · subst h;simp
 · rw[dF h,beq_eq_false_iff_ne];exact fun h2=>h (UInt8.toNat_inj.1 (by omega))
theorem zb6 (c:UInt8) (n:Nat) (hn:n<256):((c.toNat:Int) == (n:Int))=decide (c=UInt8.ofNat n):=by
 have:=zm3 c (UInt8.ofNat n);rwa[show (UInt8.ofNat n).toNat=n by rw[UInt8.toNat_ofNat'];omega]at this
theorem zbQ (g:Nat) (l:Bs) (e:UInt8) (lit b:Bool) (w:World) (h:Rd5 w g l b) (hl:l.length<=1000000) (he:e≠92) :
    Calls prog 192 #[.pointer (some ⟨g,0,none⟩),.int .u8 (e.toNat:Int),.bool lit] w (UpA w g e lit l b):=by
 have HR:=hid h;have hgl:=h.lt;clear h;obtain ⟨ez,hez⟩:∃z:Int,(e.toNat:Int)=z:=⟨_,rfl⟩;have HEZ:=hid hez;have HE:=hid he;rw[hez];clear hez he;go_enter func192,ntmps192
 go_wp2;go_loopw [7,8] (fun v7 v8 wr=>∃(i:Nat) (acc:Bs),v7=.string (str acc)/\v8=.int .i64 i/\i<=l.length/\Hid (UpS e lit l acc i)/\Below w.heap.size w wr) (fun _ v8 _=>l.length-(intOf v8).toNat)
 case atStart=>exact ⟨0,[],rfl,rfl,Nat.zero_le _,hid (UpS.zero e lit l),br⟩
 case round=>
  obtain ⟨i,acc,rfl,rfl,hil,HU,hb⟩:=hrel;have hrd:=HR.out.below hb;have k0:=hrd.c0;have f0:=hrd.f 0;have hsz:=zab l;have HRD:=hid hrd;have HB:=hid hb;have hwr:=hb.size;clear hrd hb;by_cases hlt:i<l.length
  · have hdc:l.drop i=l[i]::l.drop (i+1):=List.drop_eq_getElem_cons hlt;have hs1:=zjQ l i hlt;have hsd:(str l).extract (i+1) l.length=str (l.drop (i+1)):=zaW l (i+1);have hgi:(str l)[i]'(by rw[zab];exact hlt)=l[i]:=rfl;have hacc:=HU.out.2.1;generalize l[i]=c at hdc hs1 hgi;obtain ⟨S,hS⟩:∃S,str l=S:=⟨_,rfl⟩;rw[hS]at hs1 hsd k0 hsz;have hgi2:S[i]'(by omega)=c:=(by subst hS;exact hgi);have hiS:i<S.size:=(by omega);have HDC:=hid hdc;have i1:(i:Int)+1<=(l.length:Int):=(by omega);have i0:(0:Int)<=(i:Int)+1:=(by omega);have it:((i:Int)+1).toNat=i+1:=(by omega);clear hdc hgi hS;have q1:((c.toNat:Int) == ez)=decide (c=e):=(by rw[<-HEZ.out];exact zm3 c e);have q2:=zb6 c 92 (by decide);have q3:=zb6 c 10 (by decide);have q4:=zb6 c 13 (by decide);obtain ⟨z,hz⟩:∃z:Int,(c.toNat:Int)=z:=⟨_,rfl⟩;simp only[hz]at q1 q2 q3 q4;by_cases h1:c=e
    · rw[dT h1]at q1;have HA:Hid (upTo true e lit l=some (acc,l.drop (i+1))):=by
       show upTo true e lit l=_;rw[HU.out.2.2,HDC.out,h1,zhW];simp
      have HF:Hid (Rd5 (wr.setCell ⟨g,0,none⟩ (.string (str (l.drop (i+1))))) g (l.drop (i+1)) b):=HRD.out.set0 _;have HFR:Hid (Fr w (wr.setCell ⟨g,0,none⟩ (.string (str (l.drop (i+1))))) (fun k=>k=g)):=(((Fr.refl w (fun k=>k=g)).step HB.out)).set_ (.inl rfl) _;clear h1 q2 q3 q4 HU HDC;go_wp2;go_ret;exact ⟨HFR.out,.inl ⟨acc,l.drop (i+1),HA.out,rfl,HF.out⟩⟩
    · rw[dF h1]at q1;by_cases h2:c=92
      · rw[dT (show c=UInt8.ofNat 92 from h2)]at q2;have hq2:(z == 92)=true:=q2;obtain ⟨q,hq⟩:∃q,l.drop (i+1)=q:=⟨_,rfl⟩;rw[hq]at hsd;have hql:q.length+(i+1)=l.length:=(by rw[<-hq,List.length_drop];omega);have hup:upTo true e lit (l.drop i)=(esc lit q).bind fun p=>(upTo true e lit p.2).map fun q=>(p.1++q.1,q.2):=by
         rw[HDC.out,h2,hq,zhV true e lit q HE.out]
        have HX:=hid fun W=>zfu q lit W;cases hes:esc lit q with
        | none=>
         have HN:Hid (upTo true e lit l=none):=HU.out.no (by rw[hup,hes];rfl);rw[zkZ hes,show str []=(⟨#[]⟩:ByteArray) from rfl]at HX;clear h1 h2 q2 q3 q4 HU HDC hup hes hq hql;go_wp2_with fail
         refine (HX.out _).mono ?_;rintro v w1 ⟨rfl,hb1⟩;have HB1:=hid (HB.out.trans (hb1.mono HB.out.size));have HX2:=hid (zaS g l b w1 (HRD.out.below hb1));clear hb1;go_wp2_with fail
         refine HX2.out.mono ?_;rintro v w2 ⟨rfl,h2,hf2⟩;have H2:=hid h2;have F2:=hid hf2;clear h2 hf2;go_wp2;go_ret;exact UpA.no HN.out ((Fr.refl w (fun k=>k=g)).step HB1.out) H2.out F2.out
        | some p=>
         obtain ⟨t,r⟩:=p;obtain ⟨el1,el2⟩:=zcD lit q t r hes;have edr:=zmC lit q t r hes;obtain ⟨n,hn⟩:∃n,q.length-r.length=n:=⟨_,rfl⟩;rw[zkY hes]at HX;simp only at HX;rw[hn]at HX edr;have hn0:0<n:=(by omega);have hnl:i+1+n<=l.length:=(by omega);have hr:r=l.drop (i+1+n):=by rw[edr,<-hq,List.drop_drop]
         have HU2:Hid (UpS e lit l (acc++t) (i+1+n)):=HU.out.step hnl (by omega) (by omega) (by
          rw[hup,hes,Option.bind_some,hr])
         have hnz:((n:Int) == 0)=false:=(by rw[beq_eq_false_iff_ne];omega);have hadd:=zag acc t (by omega);clear h1 h2 q2 q3 q4 HU HDC hup hes hq hql el1 edr hr hn;go_wp2_with fail
         refine (HX.out _).mono ?_;rintro v w1 ⟨rfl,hb1⟩;have HB1:=hid (HB.out.trans (hb1.mono HB.out.size));clear hb1 HX;go_wp2;go_roundw
         case rel=>exact ⟨i+1+n,acc++t,rfl,by go_num,by omega,HU2,HB1.out⟩
         case measure=>simp[intOf];omega
      · rw[dF (show ¬c=UInt8.ofNat 92 from h2)]at q2;have hq2:(z == 92)=false:=q2;by_cases h3:c=10\/c=13
        · have HN:Hid (upTo true e lit l=none):=HU.out.no (by rw[HDC.out];exact zjz e lit c _ h1 h2 h3);have q5:(z == 10)=true\/((z == 10)=false/\(z == 13)=true):=by
           by_cases h4:c=10
           · left;exact q3.trans (dT h4)
           · right;exact ⟨q3.trans (dF h4),q4.trans (dT (h3.resolve_left h4))⟩
          have HX:=hid (zaS g l b wr HRD.out);clear h1 h2 h3 q2 q3 q4 HU HDC;rcases q5 with q5 | ⟨q5,q6⟩
          all_goals
           go_wp2_with fail
           refine HX.out.mono ?_;rintro v w2 ⟨rfl,h2,hf2⟩;have H2:=hid h2;have F2:=hid hf2;clear h2 hf2;go_wp2;go_ret;exact UpA.no HN.out ((Fr.refl w (fun k=>k=g)).step HB.out) H2.out F2.out
        · have q5:(z == 10)=false:=q3.trans (dF fun h=>h3 (.inl h));have q6:(z == 13)=false:=q4.trans (dF fun h=>h3 (.inr h))
          have HU2:Hid (UpS e lit l (acc++[c]) (i+1)):=HU.out.step (by omega) (by omega) (by simp) (by
           rw[HDC.out,zdb true e lit c _ h1 h2 (fun h=>h3 h.2)];rfl)
          have hadd:=zag acc [c] (by simp;omega);clear h1 h2 h3 q2 q3 q4 HU HDC;go_wp2;go_roundw
          case rel=>exact ⟨i+1,acc++[c],rfl,by go_num,by omega,HU2,HB.out⟩
          case measure=>simp[intOf];omega
  · obtain rfl:i=l.length:=(by omega);have HN:Hid (upTo true e lit l=none):=HU.out.no (by rw[List.drop_length];rfl);clear HU;have HX:=hid (zaS g l b wr HRD.out);go_wp2_with fail
    refine HX.out.mono ?_;rintro v w1 ⟨rfl,h1,hf1⟩;have H1:=hid h1;have F1:=hid hf1;clear h1 hf1;go_wp2;go_ret;exact UpA.no HN.out ((Fr.refl w (fun k=>k=g)).step HB.out) H1.out F1.out
end Go.Proofs.YtaeiifngjglchaaGreatDoor
end
section
namespace Go.Proofs.YtaeiifngjglchaaGreatDoor
open Go.Proofs.Tryz
open Go.RowKit Go.Lib Tv
open Go.Proofs.YtaeiifngjglchaaGreatDoor.PTopFile Go.Proofs.YtaeiifngjglchaaGreatDoorW.PrintWords
theorem zlj (c:UInt8):triviumref4_Alnum.f (c.toNat:Int)=some (isAl c):=by
 refine zas c (fun c=>triviumref4_Alnum.f (c.toNat:Int)=some (isAl c)) ?_;decide +kernel
theorem zaK (w:World) (n:Nat):Below w.heap.size w (w.drewN n):=⟨rfl,rfl,rfl,nL,fun _ _=>rfl⟩
theorem zhS (c:UInt8) (w:World) :
    Calls prog 238 #[.int .u8 (c.toNat:Int)] w fun e w'=>e=.returned (.bool (isAl c))/\∃m,w'=w.drewN m:=
 (triviumref4_Alnum.calls (c.toNat:Int) _ w (zlj c)).mono fun _ _ h=>⟨h.1,h.2.out⟩
def runP (dash:Bool) (c:UInt8):Bool:=isAl c || (dash && decide (c=45))
theorem zlV:runP true=isTag:=by funext c;unfold runP isTag;rw[Bool.true_and];congr 1
theorem znH:runP false=isAl:=by funext c;unfold runP;rw[Bool.false_and,Bool.or_false]
theorem zln (p:UInt8->Bool) (l:Bs) (n:Nat) (h:∀c∈l.take n,p c=true) (h2:∀c,(l.drop n).head?=some c->p c=false):l.takeWhile p=l.take n/\l.dropWhile p=l.drop n:=by
 have:=zcv p (l.take n) (l.drop n) h h2;rwa[List.take_append_drop]at this
theorem zey (g:Nat) (l:Bs) (dash b:Bool) (w:World) (h:Rd5 w g l b) (hl:l.length<=1000000) :
    Calls prog 193 #[.pointer (some ⟨g,0,none⟩),.bool dash] w fun v w'=>v=.returned (.string (str (l.takeWhile (runP dash))))/\Rd5 w' g (l.dropWhile (runP dash)) b/\Fr w w' (fun k=>k=g):=by
 have HR:=hid h;have hgl:=h.lt;clear h;go_enter func193,ntmps193
 go_wp2;go_loopw [5] (fun v5 wr=>∃n:Nat,v5=.int .i64 n/\n<=l.length/\Hid (∀c∈l.take n,runP dash c=true)/\Below w.heap.size w wr) (fun v5 _=>l.length-(intOf v5).toNat)
 case atStart=>exact ⟨0,rfl,Nat.zero_le _,hid (fun c hc=>by simp at hc),br⟩
 case round=>
  obtain ⟨n,rfl,hnl,HP,hb⟩:=hrel;have hrd:=HR.out.below hb;have k0:=hrd.c0;have f0:=hrd.f 0;have hsz:=zab l;have HRD:=hid hrd;have HB:=hid hb;have hwr:=hb.size;have hs0:=ze6 l n;have hsd:=zaW l n;clear hrd hb;have FIN:Hid ((∀c,(l.drop n).head?=some c->runP dash c=false)->∀w2,Below w.heap.size w w2->(Ending.returned (.string (str (l.take n)))=.returned (.string (str (l.takeWhile (runP dash))))/\Rd5 (w2.setCell ⟨g,0,none⟩ (.string (str (l.drop n)))) g (l.dropWhile (runP dash)) b/\Fr w (w2.setCell ⟨g,0,none⟩ (.string (str (l.drop n)))) (fun k=>k=g))):=fun hq w2 hb2=>by
   obtain ⟨e1,e2⟩:=zln (runP dash) l n HP.out hq;rw[e1,e2];exact ⟨rfl,(HR.out.below hb2).set0 _,((Fr.refl w (fun k=>k=g)).step hb2).set_ (.inl rfl) _⟩
  by_cases hlt:n<l.length
  · have hdc:l.drop n=l[n]::l.drop (n+1):=List.drop_eq_getElem_cons hlt;have hgi:(str l)[n]'(by rw[zab];exact hlt)=l[n]:=rfl;have htk:=List.take_add_one (l:=l) (i:=n);rw[List.getElem?_eq_getElem hlt]at htk;generalize l[n]=c at hdc hgi htk;obtain ⟨S,hS⟩:∃S,str l=S:=⟨_,rfl⟩;rw[hS]at hs0 hsd k0 hsz;have hgi2:S[n]'(by omega)=c:=(by subst hS;exact hgi);have hiS:n<S.size:=(by omega);have i0:(n:Int)<=(l.length:Int):=(by omega);have HDC:=hid hdc;have HTK:=hid htk;clear hdc hgi hS htk;have q1:=zb6 c 45 (by decide);have HAL:=hid fun W=>zhS c W;have hrp:runP dash c=(isAl c || (dash && decide (c=UInt8.ofNat 45))):=rfl;obtain ⟨z,hz⟩:∃z:Int,(c.toNat:Int)=z:=⟨_,rfl⟩;simp only[hz]at q1 HAL;have q1':(z == 45)=decide (c=UInt8.ofNat 45):=q1;have HNX:Hid (runP dash c=true->∀d∈l.take (n+1),runP dash d=true):=fun h d hd=>by
     rw[HTK.out]at hd;rcases List.mem_append.1 hd with hd | hd
     · exact HP.out d hd
     · simp at hd;subst hd;exact h
    have HST:Hid (runP dash c=false->∀d,(l.drop n).head?=some d->runP dash d=false):=fun h d hd=>by
     rw[HDC.out]at hd;cases hd;exact h
    clear q1;generalize decide (c=UInt8.ofNat 45)=y at q1' hrp;generalize hal:isAl c=x at HAL hrp;clear hal HDC HTK HP;cases x with
    | true=>
     have HN2:=hid (HNX.out (by rw[hrp];rfl));clear HNX HST FIN hrp;go_wp2_with fail
     refine (HAL.out _).mono ?_;rintro v w1 ⟨rfl,m,rfl⟩;have HB1:=hid (HB.out.trans ((zaK wr m).mono HB.out.size));have k0':(wr.drewN m).cell? ⟨g,0,none⟩=some (.string S):=k0;go_wp2;go_roundw
     case rel=>exact ⟨n+1,by go_num,by omega,HN2,HB1.out⟩
     case measure=>simp[intOf];omega
    | false=>
     cases dash with
     | false=>
      have HN2:=hid (FIN.out (HST.out (by rw[hrp];rfl)));clear HNX HST FIN hrp;go_wp2_with fail
      refine (HAL.out _).mono ?_;rintro v w1 ⟨rfl,m,rfl⟩;have HB1:=hid (HB.out.trans ((zaK wr m).mono HB.out.size));have k0':(wr.drewN m).cell? ⟨g,0,none⟩=some (.string S):=k0;have f0':(wr.drewN m).frozen? ⟨g,0,none⟩=false:=f0;go_wp2;go_ret;exact HN2.out _ HB1.out
     | true=>
      cases y with
      | true=>
       have HN2:=hid (HNX.out (by rw[hrp];rfl));clear HNX HST FIN hrp;go_wp2_with fail
       refine (HAL.out _).mono ?_;rintro v w1 ⟨rfl,m,rfl⟩;have HB1:=hid (HB.out.trans ((zaK wr m).mono HB.out.size));have k0':(wr.drewN m).cell? ⟨g,0,none⟩=some (.string S):=k0;go_wp2;go_roundw
       case rel=>exact ⟨n+1,by go_num,by omega,HN2,HB1.out⟩
       case measure=>simp[intOf];omega
      | false=>
       have HN2:=hid (FIN.out (HST.out (by rw[hrp];rfl)));clear HNX HST FIN hrp;go_wp2_with fail
       refine (HAL.out _).mono ?_;rintro v w1 ⟨rfl,m,rfl⟩;have HB1:=hid (HB.out.trans ((zaK wr m).mono HB.out.size));have k0':(wr.drewN m).cell? ⟨g,0,none⟩=some (.string S):=k0;have f0':(wr.drewN m).frozen? ⟨g,0,none⟩=false:=f0;go_wp2;go_ret;exact HN2.out _ HB1.out
  · obtain rfl:n=l.length:=(by omega);have HN2:=hid (FIN.out (by rw[List.drop_length];intro c hc;cases hc) wr HB.out);clear FIN HP;have h2:=HN2.out;rw[List.take_length,List.drop_length]at h2;have H2:=hid h2;clear h2 HN2;go_wp2;go_ret;exact H2.out
theorem zn1 (c:UInt8):((low c).toNat:Int)=if 65<=(c.toNat:Int)/\(c.toNat:Int)<=90 then (c.toNat:Int)+32 else c.toNat:=by
 refine zas c (fun c=>((low c).toNat:Int)=if 65<=(c.toNat:Int)/\(c.toNat:Int)<=90 then (c.toNat:Int)+32 else c.toNat) ?_;decide +kernel
def lowK (l:Bs) (k:Nat):Bs:=l.mapIdx fun i c=>if i<k then low c else c
theorem zbH (l:Bs) (k j:Nat):(lowK l k)[j]?=(l[j]?).map fun c=>if j<k then low c else c:=by
 unfold lowK;rw[List.getElem?_mapIdx]
theorem zcf (l:Bs) (k:Nat):(lowK l k).length=l.length:=by simp[lowK]
theorem zko (l:Bs):lowK l 0=l:=by
 apply List.ext_getElem?;intro j;rw[zbH];cases l[j]?<;>simp
theorem zkq (l:Bs):lowK l l.length=l.map low:=by
 apply List.ext_getElem?;intro j;rw[zbH,List.getElem?_map];by_cases hj:j<l.length
 · simp[hj]
 · rw[List.getElem?_eq_none (by omega)];rfl
theorem zn2 (l:Bs) (k:Nat) (h:k<l.length):(lowK l k)[k]'(by rw[zcf];exact h)=l[k]:=by
 have:=zbH l k k;rw[List.getElem?_eq_getElem (by rw[zcf];exact h),List.getElem?_eq_getElem h]at this;simpa using this
theorem zge (l:Bs) (k:Nat) (h:k<l.length):(lowK l k).set k (low l[k])=lowK l (k+1):=by
 apply List.ext_getElem?;intro j;rw[List.getElem?_set,zcf,zbH,zbH];by_cases hj:k=j
 · subst hj;rw[if_pos rfl,if_pos h,List.getElem?_eq_getElem h];simp
 · rw[if_neg hj];cases l[j]? with
   | none=>rfl
   | some c=>
    simp only[Option.map_some];by_cases h1:j<k
    · rw[if_pos h1,if_pos (by omega)]
    · rw[if_neg h1,if_neg (by omega)]
theorem zkp (l:Bs) (k:Nat) (h:k<l.length) (he:low l[k]=l[k]):lowK l k=lowK l (k+1):=by
 rw[<-zge l k h,he];apply List.ext_getElem?;intro j;rw[List.getElem?_set,zcf];by_cases hj:k=j
 · subst hj;rw[if_pos rfl,if_pos h,zbH,List.getElem?_eq_getElem h];simp
 · rw[if_neg hj]
def ByB (w:World) (g:Nat) (l:Bs):Prop:=∃(cs:Array Value) (n m:Nat),w.heap[g]?=some (.cells cs 5 (n,m))/\l.length<=n/\∀j (hj:j<l.length),cs[j]?=some (.int .u8 (l[j].toNat:Int))
theorem ByB.cell {w:World} {g:Nat} {l:Bs} (h:ByB w g l) (j:Nat) (hj:j<l.length):w.cell? ⟨g,j,none⟩=some (.int .u8 (l[j].toNat:Int)):=by
 obtain ⟨cs,n,m,h,_,hc⟩:=h;rw[cell_of_heap h];exact hc j hj
theorem ByB.f {w:World} {g:Nat} {l:Bs} (h:ByB w g l) (j:Nat) (hj:j<l.length):w.frozen? ⟨g,j,none⟩=false:=by
 obtain ⟨cs,n,m,h,hn,hc⟩:=h;unfold World.frozen?;rw[h];simp;omega
theorem ByB.set {w:World} {g:Nat} {l:Bs} (h:ByB w g l) (j:Nat) (c:UInt8):ByB (w.setCell ⟨g,j,none⟩ (.int .u8 (c.toNat:Int))) g (l.set j c):=by
 obtain ⟨cs,n,m,h,hn,hc⟩:=h;refine ⟨cs.setIfInBounds j (.int .u8 (c.toNat:Int)),n,m,?_,by rw[List.length_set];exact hn,?_⟩
 · simp[World.setCell,Array.getElem?_modify,h]
 · intro i hi;rw[List.length_set]at hi;rw[Array.getElem?_setIfInBounds];have hci:=hc i hi;by_cases hji:j=i
   · subst hji;have:=(Array.getElem?_eq_some_iff.1 hci).1;rw[if_pos rfl,if_pos this];simp
   · rw[if_neg hji,hci,List.getElem_set_ne hji]
theorem ByB.new (w:World) (l:Bs):ByB (Lib.bytesWorld w 5 (str l)) w.heap.size l:=by
 have hc:∀j (hj:j<l.length),(Lib.bytesCells w 5 (str l))[j]?=some (.int .u8 (l[j].toNat:Int)):=fun j hj=>by
  have h1:=Lib.bytesWorld_cell w 5 (str l) j (by rw[zab];exact hj);rw[cell_of_heap (Lib.bytesWorld_at_new w 5 (str l))]at h1;rw[h1,zad,List.getD_eq_getElem?_getD,List.getElem?_eq_getElem hj];rfl
 refine ⟨_,_,_,Lib.bytesWorld_at_new w 5 (str l),?_,hc⟩;by_cases h0:l.length=0
 · omega
 · have:=(Array.getElem?_eq_some_iff.1 (hc (l.length-1) (by omega))).1;omega
theorem zlk (g j:Nat):(⟨g,0,none⟩:Addr).add j=⟨g,j,none⟩:=by
 cases j with
 | zero=>rfl
 | succ j=>simp[Addr.add]
theorem zcF (w:World) (s:ByteArray):Below w.heap.size w (Lib.bytesWorld w 5 s):=
 ⟨rfl,rfl,rfl,by rw[Lib.bytesWorld_size];omega,fun i hi=>Lib.bytesWorld_at_old w 5 s i hi⟩
theorem zfU (l:Bs) (w:World) (hl:l.length<=1000000) :
    Calls prog 274 #[.string (str l)] w fun v w'=>v=.returned (.string (str (l.map low)))/\Below w.heap.size w w':=by
 have hcv:∀(w:World) (s:ByteArray),(convert 9 32 (.string s)).run prog w=.ok (.slice (some ⟨w.heap.size,0,none⟩) s.size (grownCap w s.size 0 5)) (Lib.bytesWorld w 5 s):=fun w s=>
  Lib.run_convert_string_bytes w 9 32 5 s underlying9 underlying32 underlying5
 have hsz:=zab l;have hst0:ByB (Lib.bytesWorld w 5 (str l)) w.heap.size (lowK l 0):=(by rw[zko];exact ByB.new w l);have hb0:=zcF w (str l);go_enter func274,ntmps274
 go_wp2;generalize Lib.bytesWorld w 5 (str l)=w2 at hst0 hb0 ⊢;generalize grownCap w l.length 0 5=cap;have HB0:=hid hb0;have HST0:=hid hst0;clear hcv hb0 hst0 hsz;go_loopw [4] (fun v4 wr=>∃k:Nat,v4=.int .i64 k/\k<=l.length/\ByB wr w.heap.size (lowK l k)/\Below w.heap.size w wr) (fun v4 _=>l.length-(intOf v4).toNat)
 case atStart=>exact ⟨0,rfl,Nat.zero_le _,HST0.out,HB0.out⟩
 case round=>
  obtain ⟨k,rfl,hk,hst,hb⟩:=hrel;by_cases hlt:k<l.length
  · have hkl:k<(lowK l k).length:=(by rw[zcf];exact hlt);have hc:=hst.cell k hkl;rw[zn2 l k hlt]at hc;have hf:=hst.f k hkl;have hlow:=zn1 l[k];have HSET:Hid (ByB (wr.setCell ⟨w.heap.size,k,none⟩ (.int .u8 ((low l[k]).toNat:Int))) w.heap.size (lowK l (k+1))):=by
     show ByB _ _ _;rw[<-zge l k hlt];exact hst.set k (low l[k])
    have HKEEP:Hid (¬(65<=(l[k].toNat:Int)/\(l[k].toNat:Int)<=90)->ByB wr w.heap.size (lowK l (k+1))):=fun h=>by
     rw[if_neg h]at hlow;rw[<-zkp l k hlt (UInt8.toNat_inj.1 (by omega))];exact hst
    have HB:=hid hb;have HBS:Hid (∀u,Below w.heap.size w (wr.setCell ⟨w.heap.size,k,none⟩ u)):=fun u=>hb.setCell nL u;generalize low l[k]=lc at hlow HSET;generalize l[k]=c at hc hlow HKEEP;have hc255:=c.toNat_lt;obtain ⟨z,hz⟩:∃z:Int,(c.toNat:Int)=z:=⟨_,rfl⟩;rw[hz]at hc hlow HKEEP;obtain ⟨zl,hzl⟩:∃z:Int,(lc.toNat:Int)=z:=⟨_,rfl⟩;rw[hzl]at hlow HSET;clear hst hb hz hzl hkl;by_cases h1:65<=z
    · by_cases h2:z<=90
      · rw[if_pos ⟨h1,h2⟩]at hlow;have hw8:IntKind.u8.wrap (z+32)=zl:=(by rw[IntKind.wrap_u8];omega);clear hlow HKEEP;go_wp2;go_roundw
        case rel=>exact ⟨k+1,by go_num,by omega,HSET.out,HBS.out _⟩
        case measure=>simp[intOf];omega
      · have HK:=hid (HKEEP.out fun h=>h2 h.2);clear hlow HKEEP HSET HBS;go_wp2;go_roundw
        case rel=>exact ⟨k+1,by go_num,by omega,HK.out,HB.out⟩
        case measure=>simp[intOf];omega
    · have HK:=hid (HKEEP.out fun h=>h1 h.1);clear hlow HKEEP HSET HBS;go_wp2;go_roundw
      case rel=>exact ⟨k+1,by go_num,by omega,HK.out,HB.out⟩
      case measure=>simp[intOf];omega
  · obtain rfl:k=l.length:=(by omega);rw[zkq]at hst;have hcv:=run_convert_bytes_back (P:=prog) wr 32 9 5 ⟨w.heap.size,0,none⟩ cap (l.map low) underlying32 underlying5 underlying9 (fun j hj=>by
     rw[zlk];exact (hst.cell j hj).trans (by simp))
    rw[List.length_map]at hcv;have HB:=hid hb;clear hst hb;go_wp2;go_ret;exact ⟨rfl,HB.out⟩
theorem bt_str (l:Bs) (i:Nat) (h:i<l.length):bt (str l) (i:Int)=(l[i].toNat:Int):=by
 unfold bt;rw[dif_pos (by rw[Int.toNat_natCast,zab];exact h)];rfl
theorem zin (l:Bs) (hl:l.length<=1000000):∀(j i:Nat),i+j=l.length->triviumref4_label.l0 (j+1) (str l) i=some ((l.drop i).all isAl && (decide (1<=l.length) && decide (l.length<=8)))
 | 0,i,hi=>by
  unfold triviumref4_label.l0;rw[if_neg (by rw[zab];omega),List.drop_eq_nil_of_le (by omega),zab];by_cases h1:1<=l.length
  · rw[if_pos (by omega),dT h1];have e:decide ((l.length:Int)<=8)=decide (l.length<=8):=decide_eq_decide.2 ⟨fun h=>by omega,fun h=>by omega⟩;rw[e];rfl
  · rw[if_neg (by omega),dF h1];rfl
 | j+1,i,hi=>by
  have hil:i<l.length:=(by omega);unfold triviumref4_label.l0;have hw1:wrap64 ((i:Int)+1)=((i+1:Nat):Int):=(by unfold wrap64;omega);rw[if_pos (by rw[zab];omega),if_pos (by omega),bt_str l i hil,zlj,Option.bind_some,hw1,zin l hl j (i+1) (by omega),List.drop_eq_getElem_cons hil,List.all_cons];cases isAl l[i]<;>rfl
theorem zgi (l:Bs) (w:World) (hl:l.length<=1000000) :
    Calls prog 163 #[.string (str l)] w fun v w'=>v=.returned (.bool (labT l))/\Below w.heap.size w w':=by
 have h:triviumref4_label.f (l.length+1) (str l)=some (labT l):=by
  unfold triviumref4_label.f;have:=zin l hl l.length 0 (by omega);rw[List.drop_zero]at this;refine this.trans ?_;unfold labT;rw[zcr _ _ zfE]
  congr 1
  have:decide (1<=l.length)=decide (l≠[]):=(by cases l<;>simp);rw[this,Bool.and_comm]
 exact (triviumref4_label.calls _ _ _ w h).mono fun _ _ h=>⟨h.1,h.2.below⟩
theorem zhw (l:Bs) (w:World) (hl:l.length<=1000000) :
    Calls prog 164 #[.string (str l)] w fun v w'=>v=.returned (.bool (langT l))/\Below w.heap.size w w':=by
 rw[<-zkv l];obtain ⟨B,hB⟩:∃B,lgGo 0 0 l=B:=⟨_,rfl⟩;rw[hB];have HB0:=hid hB;have hsz:=zab l;obtain ⟨S,hS⟩:∃S,str l=S:=⟨_,rfl⟩;rw[hS]at hsz ⊢;have HS:=hid hS;have h16:decide ((l.length:Int)<=16)=decide (l.length<=16):=decide_eq_decide.2 ⟨fun h=>by omega,fun h=>by omega⟩;obtain ⟨y16,hy16⟩:∃y,decide (l.length<=16)=y:=⟨_,rfl⟩;rw[hy16]at h16 ⊢;clear hB hS hy16;go_enter func164,ntmps164
 go_wp2;go_loopw [3,4,5] (fun v3 v4 v5 wr=>∃p n i:Nat,v3=.int .i64 p/\v4=.int .i64 n/\v5=.int .i64 i/\i<=l.length/\n<=8/\p<=i/\Hid (B=lgGo p n (l.drop i))/\Below w.heap.size w wr) (fun _ _ v5 _=>l.length-(intOf v5).toNat)
 case atStart=>exact ⟨0,0,0,rfl,rfl,rfl,Nat.zero_le _,Nat.zero_le _,nL,hid (by rw[List.drop_zero];exact HB0.out.symm),br⟩
 case round=>
  clear HB0;obtain ⟨p,n,i,rfl,rfl,rfl,hil,hn8,hpi,HG,hb⟩:=hrel;have HB:=hid hb;clear hb;by_cases hlt:i<l.length
  · have hdc:l.drop i=l[i]::l.drop (i+1):=List.drop_eq_getElem_cons hlt;have hiS:i<S.size:=(by omega);have hgi:S[i]'hiS=l[i]:=(by have:=HS.out;subst this;rfl);have hg:B=lgGo p n (l[i]::l.drop (i+1)):=(by rw[<-hdc];exact HG.out);clear hdc HG;generalize l[i]=c at hgi hg;have hs:smB c=(decide ((97:Int)<=c.toNat) && decide ((c.toNat:Int)<=122)):=zas c (fun c=>smB c=(decide ((97:Int)<=c.toNat) && decide ((c.toNat:Int)<=122))) (by decide +kernel);have hd:dgB c=(decide ((48:Int)<=c.toNat) && decide ((c.toNat:Int)<=57)):=zas c (fun c=>dgB c=(decide ((48:Int)<=c.toNat) && decide ((c.toNat:Int)<=57))) (by decide +kernel);have q1:=zb6 c 45 (by decide);have q1':((c.toNat:Int) == 45)=decide (c=45):=q1;unfold lgGo at hg;rw[hs,hd]at hg;have hdr:Below w.heap.size w wr.drew:=HB.out.trans (zaK wr 1 |>.mono HB.out.size);have HDR:=hid hdr;clear hdr q1 hs hd;obtain ⟨z,hz⟩:∃z:Int,(c.toNat:Int)=z:=⟨_,rfl⟩;rw[hz]at hg q1';by_cases h45:c=45
    · have z45:z=45:=(by rw[<-hz,h45];rfl);subst z45;clear q1';by_cases hn0:0<n
      · rw[if_pos ⟨h45,hn0⟩]at hg;have HG:=hid hg;have hn0z:(0:Int)<(n:Int):=(by omega);clear hg h45;go_wp2;go_region
        go_wp2;go_roundw
        case rel=>exact ⟨p+1,0,i+1,by go_num,rfl,by go_num,by omega,by omega,by omega,HG,HDR.out⟩
        case measure=>simp[intOf];omega
      · rw[if_neg (fun h=>hn0 h.2)]at hg;obtain rfl:n=0:=(by omega);have HG:Hid (B=false):=hg.trans (by simp);clear hg h45;go_wp2;go_region
        go_wp2;go_ret;exact ⟨by rw[HG.out];rfl,HDR.out⟩
    · rw[if_neg (fun h=>h45 h.1)]at hg;rw[dF h45]at q1';clear h45;by_cases a1:97<=z
      · have a3:48<=z:=(by omega);have a4:¬z<=57:=(by omega);have a4':decide (z<=57)=false:=dF a4;by_cases a2:z<=122
        · rw[if_pos (by rw[dT a1,dT a2];rfl)]at hg;by_cases hn:n<8
          · rw[if_neg (by omega)]at hg;have HG:=hid hg;have hnz:¬(8:Int)<(n:Int)+1:=(by omega);clear hg;go_wp2;go_region
            go_wp2;go_roundw
            case rel=>exact ⟨p,n+1,i+1,rfl,by go_num,by go_num,by omega,by omega,by omega,HG,HDR.out⟩
            case measure=>simp[intOf];omega
          · rw[if_pos (by omega)]at hg;have HG:=hid hg;have hnz:(8:Int)<(n:Int)+1:=(by omega);clear hg;go_wp2;go_region
            go_wp2;go_ret;exact ⟨by rw[HG.out];rfl,HDR.out⟩
        · have a2':decide (z<=122)=false:=dF a2;have HG:Hid (B=false):=hg.trans (by rw[if_neg (by simp;omega)]);clear hg;go_wp2;go_region
          go_wp2;go_ret;exact ⟨by rw[HG.out];rfl,HDR.out⟩
      · have a1':decide (97<=z)=false:=dF a1;by_cases a3:48<=z
        · by_cases a4:z<=57
          · by_cases hp0:0<p
            · have hp0z:(0:Int)<(p:Int):=(by omega);rw[if_pos (by rw[dT a3,dT a4,dT hp0];simp)]at hg;by_cases hn:n<8
              · rw[if_neg (by omega)]at hg;have HG:=hid hg;have hnz:¬(8:Int)<(n:Int)+1:=(by omega);clear hg;go_wp2;go_region
                go_wp2;go_roundw
                case rel=>exact ⟨p,n+1,i+1,rfl,by go_num,by go_num,by omega,by omega,by omega,HG,HDR.out⟩
                case measure=>simp[intOf];omega
              · rw[if_pos (by omega)]at hg;have HG:=hid hg;have hnz:(8:Int)<(n:Int)+1:=(by omega);clear hg;go_wp2;go_region
                go_wp2;go_ret;exact ⟨by rw[HG.out];rfl,HDR.out⟩
            · obtain rfl:p=0:=(by omega);have HG:Hid (B=false):=hg.trans (by rw[if_neg (by simp;omega)]);clear hg;go_wp2;go_region
              go_wp2;go_ret;exact ⟨by rw[HG.out];rfl,HDR.out⟩
          · have a4':decide (z<=57)=false:=dF a4;have HG:Hid (B=false):=hg.trans (by rw[if_neg (by simp;omega)]);clear hg;go_wp2;go_region
            go_wp2;go_ret;exact ⟨by rw[HG.out];rfl,HDR.out⟩
        · have a3':decide (48<=z)=false:=dF a3;have HG:Hid (B=false):=hg.trans (by rw[if_neg (by simp;omega)]);clear hg;go_wp2;go_region
          go_wp2;go_ret;exact ⟨by rw[HG.out];rfl,HDR.out⟩
  · obtain rfl:i=l.length:=(by omega);rw[List.drop_length]at HG;have hg:B=decide (0<n):=HG.out;by_cases hn0:0<n
    · rw[dT hn0]at hg;have hn0z:(0:Int)<(n:Int):=(by omega);have HG2:=hid hg;clear hg HG;go_wp2;go_ret;exact ⟨by rw[HG2.out];rfl,HB.out⟩
    · rw[dF hn0]at hg;obtain rfl:n=0:=(by omega);have HG2:=hid hg;clear hg HG;go_wp2;go_ret;exact ⟨by rw[HG2.out];rfl,HB.out⟩
end Go.Proofs.YtaeiifngjglchaaGreatDoor
end
