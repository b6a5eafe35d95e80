/- Proved on the way: The reader of package lines: iri, while; The reader of package lines: literal; The reader of package lines: term; The reader of package lines: term of a b; The document's IRIs, terms and triples: . Each theorem states its own conditions. -/
import Derived.Test.YtaeiifngjglchaaGreatDoorM6
import Derived.Test.YtaeiifngjglchaaGreatDoorM11
set_option maxHeartbeats 16000000
set_option maxRecDepth 1000000
section
namespace Go.Proofs.YtaeiifngjglchaaGreatDoor.Tv
open Go.Proofs.Tryz
open Go.Lib
theorem zeW (nl:Bool) (e:UInt8) (lit:Bool):∀(n:Nat) (l x r:Bs),untl n nl e lit l=some (x,r)->x.length+r.length<=4*l.length/\r.length<l.length
 | 0,_,_,_,h=>by cases h
 | _+1,[],_,_,h=>by cases h
 | n+1,c::l,x,r,h=>by
  unfold untl at h;by_cases h1:c=e
  · rw[if_pos h1]at h;cases h
    simp only[List.length_nil,List.length_cons];omega
  · rw[if_neg h1]at h;by_cases h2:c=92
    · rw[if_pos h2]at h;cases hx:esc lit l with
      | none=>rw[hx]at h;cases h
      | some p=>
       rw[hx,Option.bind_some]at h;have h3:=zcD lit l p.1 p.2 hx;cases hy:untl n nl e lit p.2 with
       | none=>rw[hy]at h;cases h
       | some q=>
        rw[hy,Option.map_some]at h;have h4:=zeW nl e lit n p.2 q.1 q.2 hy;cases h
        simp only[List.length_append,List.length_cons];omega
    · rw[if_neg h2]at h;by_cases h5:nl=true/\(c=10\/c=13)
      · rw[if_pos h5]at h;cases h
      · rw[if_neg h5]at h;cases hy:untl n nl e lit l with
        | none=>rw[hy]at h;cases h
        | some q=>
         rw[hy,Option.map_some]at h;have h4:=zeW nl e lit n l q.1 q.2 hy;cases h
         simp only[List.length_cons];omega
theorem zaE {nl:Bool} {e:UInt8} {lit:Bool} {l x r:Bs} (h:upTo nl e lit l=some (x,r)):x.length+r.length<=4*l.length/\r.length<l.length:=zeW nl e lit _ l x r h
theorem zaU {b:UInt8} {l:Bs} (hb:b.toNat<128) (h:validD (b::l)=true):validD l=true:=by
 obtain ⟨c,n,hd⟩:=Hd.of (b::l) (by simp) h;have h1:=hd.dec;rw[decodeL_ascii b l hb]at h1;have h2:=hd.rest;rw[<-(Prod.mk.inj h1).2]at h2;exact h2
theorem zcs {q:UInt8->Bool} (hq:∀b:UInt8,128<=b.toNat->q b=false) (l:Bs) (h:validD l=true):validD (l.dropWhile q)=true:=by
 induction l with
 | nil=>exact h
 | cons b l ih=>
  rw[List.dropWhile_cons];split
  · rename_i hb;refine ih (zaU ?_ h);rcases Nat.lt_or_ge b.toNat 128 with h1 | h1
    · exact h1
    · rw[hq b h1]at hb;cases hb
  · exact h
theorem ziQ (q:UInt8->Bool) (l:Bs):l.take (l.length-(l.dropWhile q).length)=l.takeWhile q:=by
 have h:=List.takeWhile_append_dropWhile (p:=q) (l:=l);have hl:l.length=(l.takeWhile q).length+(l.dropWhile q).length:=by
  conv=>lhs;rw[<-h]
  rw[List.length_append]
 rw[hl,Nat.add_sub_cancel];generalize l.takeWhile q=a at h ⊢;generalize l.dropWhile q=b at h;subst h;exact List.take_left
end Go.Proofs.YtaeiifngjglchaaGreatDoor.Tv
namespace Go.Proofs.YtaeiifngjglchaaGreatDoor
open Go.Proofs.Tryz
open Go.RowKit Go.Lib Tv
theorem zjC (g:Nat) (l:Bs) (z:Int) (lit:Bool) (w:World) (h:Rdr w g l true) :
    Calls prog 232 #[.pointer (some ⟨g,0,none⟩),.int .i32 z,.bool lit] w fun v w'=>Fr w w' (fun k=>k=g)/\v=.returned (.string (str []))/\Rdr w' g l true:=by
 have hg:=h.1;have hb0:Below w.heap.size w (w.alloc (.cells #[.pointer none,.slice none 0 0] 179)):=br.alloc nL _;have hbd:=Bd.new w (w.heap.size+1) (by omega);have hr:=h.below hb0;have hgl:=h.lt;have k1:=hr.c1;have HR:=hid hr;have HBD:=hid hbd;have HB:=hid hb0;clear h hr hbd hb0;have hw2:(w.alloc (.cells #[.pointer none,.slice none 0 0] 179)).heap.size=w.heap.size+1:=(by simp);go_enter func232,ntmps232
 go_wp2;go_step3
 go_wp2;go_step3
 go_wp2;go_loopw [] (fun wr=>wr=w.alloc (.cells #[.pointer none,.slice none 0 0] 179)) (fun _=>0)
 case atStart=>rfl
 case round=>
  subst hrel;go_wp2_with fail
  refine (zaG _ _ _ _ HBD.out (by omega)).mono ?_;rintro v w4 ⟨rfl,hb4⟩;go_wp2
  (try rw[Exit.noGoto_ret])
  go_ret;exact ⟨((Fr.of_below HB.out (fun k=>k=g)).then_ (Fr.of_belowB hb4) fun k hk=>.inr hk),rfl,HR.out.belowB hb4 hgl⟩
def IriOut (g:Nat) (l:Bs) (b:Bool) (v:Ending) (w':World):Prop:=
 (∃r x q,b=false/\l=60::r/\upTo false 62 false r=some (x,q)/\v=.returned (.string (str x))/\Rdr w' g q false/\validD q=true)\/
 (∃s q,(b=true\/∀r,l=60::r->upTo false 62 false r=none)/\v=.returned (.string s)/\Rdr w' g q true)
theorem zgn (g:Nat) (l:Bs) (b:Bool) (w:World) (h:Rdr w g l b) (ht:Lay w) (hv:b=false->validD l=true) (hl:l.length<=1000000) :
    Calls prog 157 #[.pointer (some ⟨g,0,none⟩)] w fun v w'=>Fr w w' (fun k=>k=g)/\
     IriOut g l b v w':=by
 have hg:=h.1;have e0:str [60]=⟨#[60]⟩:=rfl;by_cases hy:b=false/\∃r,l=60::r
 · obtain ⟨rfl,r,rfl⟩:=hy;have HM:=hid (zij g (60::r) [60] r w h rfl);rw[e0]at HM;have hv':validD r=true:=zaU (by decide) (hv rfl);have HT:=hid ht;have HV:=hid hv';clear h hv ht hv';go_enter func157,ntmps157
   go_wp2_with fail
   refine HM.out.mono ?_;rintro v w1 ⟨rfl,hr1,hf1⟩;have HU:=hid (zdd g r 62 false w1 hr1 (HT.out.at_ hg hf1) HV.out (by simp only[List.length_cons]at hl;omega) (by decide) (by decide) (by decide));have HU':Hid (Calls prog 232 #[.pointer (some ⟨g,0,none⟩),.int .i32 62,.bool false] w1 _):=HU;have HF:=hid hf1;clear hr1 hf1 HU;go_wp2_with fail
   refine HU'.out.mono ?_;rintro v w2 ⟨hf2,⟨x,q,hx,rfl,hr2,hv2⟩ | ⟨s,q,hx,rfl,hr2⟩⟩
   · go_wp2;go_ret;exact ⟨HF.out.then_ hf2 fun _ h=>.inl h,.inl ⟨r,x,q,rfl,rfl,hx,rfl,hr2,hv2⟩⟩
   · go_wp2;go_ret;exact ⟨HF.out.then_ hf2 fun _ h=>.inl h,.inr ⟨s,q,.inr (fun r' hr'=>by cases hr';exact hx),rfl,hr2⟩⟩
 · have hno:b=true\/∀r,l≠60::r:=by
    cases b
    · exact .inr fun r hr=>hy ⟨rfl,r,hr⟩
    · exact .inl rfl
   have HM:=hid (zhs g l [60] b w h hno);rw[e0]at HM;have HN:Hid (b=true\/∀r,l=60::r->upTo false 62 false r=none):=hno.elim .inl fun h=>.inr fun r hr=>absurd hr (h r);clear h hv ht hno hy;go_enter func157,ntmps157
   go_wp2_with fail
   refine HM.out.mono ?_;rintro v w1 ⟨rfl,hr1,hf1⟩;have HU:=hid (zjC g l 62 false w1 hr1);have HF:=hid hf1;clear hr1 hf1;go_wp2_with fail
   refine HU.out.mono ?_;rintro v w2 ⟨hf2,rfl,hr2⟩;go_wp2;go_ret;exact ⟨HF.out.then_ hf2 fun _ h=>.inl h,.inr ⟨_,l,HN.out,rfl,hr2⟩⟩
theorem zlG (l:Bs) (n:Nat):(str l).extract 0 n=str (l.take n):=by
 apply ByteArray.ext;rw[ByteArray.data_extract];apply Array.toList_inj.1;rw[Array.toList_extract];simp[str,List.extract_eq_take_drop]
theorem zc9 (g f:Nat) (ef:∀args w,(callFunc f args).run prog w=.ok (.enter f args) w) (p:Nat->Bool) (q:UInt8->Bool) (ha:Asc p q) (l:Bs) (w:World) (h:Rdr w g l false) (hlen:l.length<=1000000) (hp:PredGrows prog f #[] p w) :
    Calls prog 159 #[.pointer (some ⟨g,0,none⟩),.func (.func f) #[] #[]] w fun v w'=>Fr w w' (fun k=>k=g)/\v=.returned (.string (str (l.takeWhile q)))/\Rdr w' g (l.dropWhile q) false:=by
 have k0:=h.c0;have k1:=h.c1;have HT:=hid (Tryz.strings_TrimLeftFunc_grows f #[] ef p (str l) w hp);have ht:Lib.trimLeftF p (str l)=str (l.dropWhile q):=zlu p q ha l;rw[ht]at HT;have HR:=hid h;have hs1:=zab l;have hs2:=zab (l.dropWhile q);have hle:(l.dropWhile q).length<=l.length:=(List.dropWhile_sublist q).length_le;have hex:(str l).extract 0 (l.length-(l.dropWhile q).length)=str (l.takeWhile q):=(by rw[zlG,ziQ]);have HE:=hid hex;obtain ⟨n,hn⟩:∃n,l.length-(l.dropWhile q).length=n:=⟨_,rfl⟩;rw[hn]at HE;have hw:IntKind.i64.wrap ((l.length:Int)-((l.dropWhile q).length:Int))=(n:Int):=(wI (by omega));have hw':wrap64 ((l.length:Int)-((l.dropWhile q).length:Int))=(n:Int):=(by unfold wrap64;omega);have hnl:(n:Int)<=(l.length:Int):=(by omega);clear h hp ht hex hn hlen;go_enter func159,ntmps159
 go_wp2_with fail
 refine HT.out.mono ?_;rintro v w1 ⟨rfl,hb1⟩;have h1:=HR.out.below hb1;have c0:=h1.c0;have f0:=h1.f 0;have H1:=hid h1;clear h1;go_wp2;go_region
 rw[HE.out];go_wp2;go_ret;have hr:=H1.out.set0 (l.dropWhile q);exact ⟨(((Fr.refl w (fun k=>k=g)).step hb1).set_ (p:=⟨g,0,none⟩) (.inl rfl) _).drew,rfl,hr.1,hr.2⟩
end Go.Proofs.YtaeiifngjglchaaGreatDoor
end
section
namespace Go.Proofs.YtaeiifngjglchaaGreatDoor.Tv
open Go.Proofs.Tryz
open Go.Lib
theorem zkn (l:Bs):Lib.toLowerA l=l.map low:=by
 unfold Lib.toLowerA;refine List.map_congr_left fun c _=>?_;exact zas c (fun c=>Lib.lowerB c=low c) (by decide +kernel)
theorem zlD (l:Bs):∀c∈l.takeWhile isTag,c.toNat<128:=by
 intro c hc;have h:isTag c=true:=by
  have:=List.all_takeWhile (p:=isTag) (l:=l);rw[List.all_eq_true]at this;exact this c hc
 rcases Nat.lt_or_ge c.toNat 128 with h1 | h1
 · exact h1
 · rw[ze5.high c h1]at h;cases h
theorem zgg (nl:Bool) (l:Bs) (h:upTo true 34 true l=none):litT nl l=none:=by
 unfold litT;rw[h];rfl
theorem zi8 (nl:Bool) (l x r y q:Bs) (h:upTo true 34 true l=some (x,94::94::60::r)) (h2:upTo nl 62 false r=some (y,q)):litT nl l=some (⟨5,x,y⟩,q):=by
 unfold litT;rw[h];simp[h2]
theorem zim (nl:Bool) (l x r:Bs) (h:upTo true 34 true l=some (x,94::94::r)) (h2:∀s,r=60::s->upTo nl 62 false s=none):litT nl l=none:=by
 unfold litT;rw[h];simp only[Option.bind_some];split
 · rename_i s;rw[h2 s rfl];rfl
 · rfl
theorem zeE (nl:Bool) (l x q:Bs) (h:upTo true 34 true l=some (x,q)) (h1:¬∃r,q=64::r) (h2:¬∃r,q=94::94::r):litT nl l=some (⟨3,x,[]⟩,q):=by
 unfold litT;rw[h];simp only[Option.bind_some];split
 · rename_i r;exact absurd ⟨r,rfl⟩ h1
 · rename_i r;exact absurd ⟨r,rfl⟩ h2
 · rfl
end Go.Proofs.YtaeiifngjglchaaGreatDoor.Tv
namespace Go.Proofs.YtaeiifngjglchaaGreatDoor
open Go.Proofs.Tryz
open Go.RowKit Go.Lib Tv
def LitOut (g:Nat) (o:Option (Tm × Bs)) (v:Ending) (w':World):Prop:=
 (∃t r,o=some (t,r)/\v=.returned (.agg (encT t).toArray)/\Rdr w' g r false/\validD r=true)\/
 (o=none/\∃k s1 s2 q,v=.returned (.agg #[.int .i64 k,.string s1,.string s2])/\Rdr w' g q true)
theorem zhv (l:Bs) (w:World) (hl:l.length<=1000000) (h:∀c∈l,c.toNat<128) :
    Calls prog 235 #[.string (str l)] w fun e w'=>e=.returned (.string (str (l.map low)))/\Below w.heap.size w w':=by
 have:=Tryz.strings_ToLower_ascii (str l) w (by rw[zab];omega) (fun j b hb=>by
  rw[zad]at hb;exact h b (List.mem_of_getElem? hb))
 rw[zad,zkn]at this;exact this
structure T3 (W:World) (b:Nat) (a c d:Value):Prop where
 h:W.heap[b]?=some (.cells #[a,c,d] 62 (0,0))
section
variable {W W1:World} {b:Nat} {a c d:Value} {S:Nat->Prop}
theorem T3.new (W:World) (a c d:Value):T3 (W.alloc (.cells #[a,c,d] 62)) W.heap.size a c d:=⟨heap_alloc_new W _⟩
theorem T3.fr (h:T3 W b a c d) (hf:Fr W W1 S) (hn:¬S b):T3 W1 b a c d:=⟨hf.heap h.h hn⟩
theorem T3.c0 (h:T3 W b a c d):W.cell? ⟨b,0,none⟩=some a:=by rw[cell_of_heap h.h];rfl
theorem T3.c1 (h:T3 W b a c d):W.cell? ⟨b,1,none⟩=some c:=by rw[cell_of_heap h.h];rfl
theorem T3.c2 (h:T3 W b a c d):W.cell? ⟨b,2,none⟩=some d:=by rw[cell_of_heap h.h];rfl
theorem T3.f (h:T3 W b a c d) (j:Nat):W.frozen? ⟨b,j,none⟩=false:=frozen_of_heap h.h j
theorem T3.set0 (h:T3 W b a c d) (v:Value):T3 (W.setCell ⟨b,0,none⟩ v) b v c d:=⟨by simp[World.setCell,Array.getElem?_modify,h.h]⟩
theorem T3.set1 (h:T3 W b a c d) (v:Value):T3 (W.setCell ⟨b,1,none⟩ v) b a v d:=⟨by simp[World.setCell,Array.getElem?_modify,h.h]⟩
theorem T3.set2 (h:T3 W b a c d) (v:Value):T3 (W.setCell ⟨b,2,none⟩ v) b a c v:=⟨by simp[World.setCell,Array.getElem?_modify,h.h]⟩
theorem Fr.set1 (W:World) (b j:Nat) (v:Value):Fr W (W.setCell ⟨b,j,none⟩ v) (fun k=>k=b):=(Fr.refl W (fun k=>k=b)).set_ (p:=⟨b,j,none⟩) (.inl rfl) v
end
def Gn (g B:Nat):Nat->Prop:=fun k=>k=g\/B<=k
theorem Fr.gn {w w1 w2:World} {g B:Nat} {S:Nat->Prop} (h:Fr w w1 (Gn g B)) (k:Fr w1 w2 S) (hs:∀k,S k->k=g\/B<=k):Fr w w2 (Gn g B):=h.then_ k fun i hi=>.inl (hs i hi)
theorem Fr.un_gn {w w1:World} {g:Nat} (h:Fr w w1 (Gn g w.heap.size)):Fr w w1 (fun k=>k=g):=
 ⟨h.os,h.tape,h.output,h.size,fun k hk hn=>h.keep k hk fun hg=>hg.elim hn fun h=>by omega⟩
theorem gn_at {g B b k:Nat} (hb:B<=b) (h:k=b):k=g\/B<=k:=.inr (by omega)
theorem fin3 {w W:World} {g B:Nat} {r:Bs} {b:Bool} (hf:Fr w W (Gn g w.heap.size)) (hr:Rdr W g r b) (hg:g<w.heap.size) (hB:w.heap.size<=B) (u0 u1 u2:Value) :
    Fr w (((W.setCell ⟨B,0,none⟩ u0).setCell ⟨B,1,none⟩ u1).setCell ⟨B,2,none⟩ u2) (fun k=>k=g)/\Rdr (((W.setCell ⟨B,0,none⟩ u0).setCell ⟨B,1,none⟩ u1).setCell ⟨B,2,none⟩ u2) g r b:=by
 refine ⟨(((hf.gn (Fr.set1 _ B 0 u0) fun k h=>gn_at hB h).gn (Fr.set1 _ B 1 u1) fun k h=>gn_at hB h).gn (Fr.set1 _ B 2 u2) fun k h=>gn_at hB h).un_gn,?_⟩;exact ((hr.fr (Fr.set1 _ B 0 u0) (by omega)).fr (Fr.set1 _ B 1 u1) (by omega)).fr (Fr.set1 _ B 2 u2) (by omega)
theorem zai {fn:Func} {p:Tmp} (h:fn.results=#[.cell p 62]) {a:Act} {w:World} {R:Ending->World->Prop} (hd:a.defers=[]) {B:Nat} {x y z:Value}
    (hp:a.tmps.getD p undef=.pointer (some ⟨B,0,none⟩)) (ht:T3 w B x y z) (hR:R (.returned (.agg #[x,y,z])) w):bodyPost prog fn R .ret a w:=
 bodyPost_ret (results_cell_row h _ _ B 62 #[x,y,z] (0,0) _ hp ht.h underlying62 rfl (by kernel_rfl)) hd hR
theorem zfn (g:Nat) (l:Bs) (w:World) (h:Rdr w g l false) (ht:Lay w) (hv:validD l=true) (hl:l.length<=200000) :
    Calls prog 161 #[.pointer (some ⟨g,0,none⟩)] w fun v w'=>Fr w w' (fun k=>k=g)/\LitOut g (litT false l) v w':=by
 have hg:=h.1;have hgl:=h.lt;obtain ⟨w0,hw0⟩:∃w0,w.alloc (.cells #[.int .i64 0,.string ⟨#[]⟩,.string ⟨#[]⟩] 62)=w0:=⟨_,rfl⟩;have hb0:Below w.heap.size w w0:=(by rw[<-hw0];exact br.alloc nL _);have hn0:w0.heap.size=w.heap.size+1:=(by rw[<-hw0];simp);have ht2:T3 w0 w.heap.size (.int .i64 0) (.string ⟨#[]⟩) (.string ⟨#[]⟩):=(by rw[<-hw0];exact T3.new _ _ _ _);have hU:=zdd g l 34 true w0 (h.below hb0) (ht.below hb0) hv (by omega) (by decide) (by decide) (by decide);have HF0:=hid ((Fr.of_below hb0 (Gn g w.heap.size)));have HT0:=hid (ht.below hb0);have HT2:=hid ht2;have HU:Hid (Calls prog 232 #[.pointer (some ⟨g,0,none⟩),.int .i32 34,.bool true] w0 _):=hU;clear h ht hv hb0 ht2 hU;have efw:∀args w,(callFunc 236 args).run prog w=.ok (.enter 236 args) w:=enters_of func236 (by kernel_rfl) rfl;have EF:=hid efw;clear efw;go_enter func161,ntmps161
 go_wp2_with fail
 refine HU.out.mono ?_;clear HU hw0;rintro v w1 ⟨hf1,⟨x,q,hx,rfl,hr1,hv1⟩ | ⟨s,q,hx,rfl,hr1⟩⟩
 · have hn1:=hf1.size;have hlx:=zaE hx;obtain ⟨w2,hw2⟩:∃w2,w1.alloc (.cells #[.int .i64 3,.string (str x),.string ⟨#[]⟩] 62)=w2:=⟨_,rfl⟩;have hb2:Below w1.heap.size w1 w2:=(by rw[<-hw2];exact br.alloc nL _);have hn2:w2.heap.size=w1.heap.size+1:=(by rw[<-hw2];simp);have ht3:T3 w2 w1.heap.size (.int .i64 3) (.string (str x)) (.string ⟨#[]⟩):=(by rw[<-hw2];exact T3.new _ _ _ _);have HF2:=hid ((HF0.out.gn hf1 fun k h=>.inl h).step hb2);have HR2:=hid (hr1.below hb2);have HT2':=hid ((HT2.out.fr hf1 (by omega)).fr (Fr.of_below hb2 fun _=>False) fun h=>h);have HT3:=hid ht3;have HL2:=hid ((HT0.out.at_ hg hf1).below hb2);have HX:=hid hx;have HV:=hid hv1;have HW2:=hid hw2;clear hb2 ht3 hr1 hx hv1 hw2 hf1 HF0 HT0 HT2;by_cases hq:∃r,q=64::r
   · obtain ⟨r,rfl⟩:=hq;have HI:=hid (zgj g (64::r) [64] r w2 HR2.out rfl);rw[show str [64]=(⟨#[64]⟩:ByteArray) from rfl]at HI;go_wp2_with fail
     rw[HW2.out];refine HI.out.mono ?_;rintro v w3 ⟨rfl,hr3,hf3⟩;have hn3:=hf3.size;have t3:=HT3.out.fr hf3 (by omega);have f30:=t3.f 0;have c30:=t3.c0;have HT3':=hid (t3.set0 (.int .i64 4));have HT2'':=hid ((HT2'.out.fr hf3 (by omega)).fr (Fr.set1 w3 w1.heap.size 0 (.int .i64 4)) (by omega));have HF4:=hid ((HF2.out.gn hf3 fun k h=>.inl h).gn (Fr.set1 w3 w1.heap.size 0 (.int .i64 4)) fun k h=>gn_at (by omega) h);have HR4:=hid (hr3.fr (Fr.set1 w3 w1.heap.size 0 (.int .i64 4)) (by omega));have HWL:=hid (zc9 g 236 EF.out tagR isTag ze5 r _ HR4.out (by simp only[List.length_cons]at hlx;omega) (fun W y _ _=>ze4 y W));clear t3 hr3 hf3;go_wp2_with fail
     refine HWL.out.mono ?_;rintro v w4 ⟨hf4,rfl,hr4⟩;have hn4:=hf4.size;have hn4':w1.heap.size<w4.heap.size:=(by simp at hn4;omega);have HLO:=hid (zhv (r.takeWhile isTag) w4 (by have:=(List.takeWhile_sublist isTag (l:=r)).length_le;simp only[List.length_cons]at hlx;omega) (zlD r));have HT3b:=hid (HT3'.out.fr hf4 (by omega));have HT2b:=hid (HT2''.out.fr hf4 (by omega));have HF4b:=hid (HF4.out.gn hf4 fun k h=>.inl h);have HR4b:=hid hr4;clear hf4 hr4;go_wp2_with fail
     refine HLO.out.mono ?_;rintro v w5 ⟨rfl,hb5⟩;have hn5:=hb5.size;have t5:=HT3b.out.fr (Fr.of_below hb5 fun _=>False) fun h=>h;have c50:=t5.c0;have c51:=t5.c1;have c52:=t5.c2;have f52:=t5.f 2;have t2:=(HT2b.out.fr (Fr.of_below hb5 fun _=>False) fun h=>h);have c20:=t2.c0;have c21:=t2.c1;have c22:=t2.c2;have f20:=t2.f 0;have f21:=t2.f 1;have f22:=t2.f 2;have hne:w.heap.size≠w1.heap.size:=(by omega);have HT2c:=hid t2;have HF5:=hid (HF4b.out.step hb5);have HR5:=hid (HR4b.out.below hb5);have hspec:litT false l=some (⟨4,x,(r.takeWhile isTag).map low⟩,r.dropWhile isTag):=by
      unfold litT;rw[HX.out];rfl
     have HSP:=hid hspec;have hvr:validD (r.dropWhile isTag)=true:=zcs ze5.high r (zaU (by decide) HV.out);have HVR:=hid hvr;clear t5 t2 hspec hvr;go_wp2
     (try simp only[Exit.inBlock,Exit.then])
     refine zai rfl rfl rfl ((((HT2c.out.fr (Fr.set1 w5 w1.heap.size 2 _) (by omega)).set0 _).set1 _).set2 _) ?_;have hfin:=fin3 (B:=w.heap.size) (HF5.out.gn (Fr.set1 w5 w1.heap.size 2 (.string (str ((r.takeWhile isTag).map low)))) fun k h=>gn_at (by omega) h) (HR5.out.fr (Fr.set1 w5 w1.heap.size 2 _) (by omega)) hgl nL (.int .i64 4) (.string (str x)) (.string (str ((r.takeWhile isTag).map low)));exact ⟨hfin.1,.inl ⟨_,_,HSP.out,rfl,hfin.2,HVR.out⟩⟩
   · have HI:=hid (is_no g q [64] false w2 HR2.out (.inr fun r hr=>hq ⟨r,hr⟩));rw[show str [64]=(⟨#[64]⟩:ByteArray) from rfl]at HI;go_wp2_with fail
     rw[HW2.out];refine HI.out.mono ?_;rintro v w3 ⟨rfl,hr3,hf3⟩;have hn3:=hf3.size;have HT3':=hid (HT3.out.fr hf3 (by omega));have HT2'':=hid (HT2'.out.fr hf3 (by omega));have HF3:=hid (HF2.out.gn hf3 fun k h=>.inl h);have HL3:=hid (HL2.out.at_ hg hf3);have HR3:=hid hr3;clear hr3 hf3;by_cases hq2:∃r,q=94::94::r
     · obtain ⟨r,rfl⟩:=hq2;have HI2:=hid (zgj g (94::94::r) [94,94] r w3 HR3.out rfl);rw[show str [94,94]=(⟨#[94,94]⟩:ByteArray) from rfl]at HI2;go_wp2_with fail
       refine HI2.out.mono ?_;rintro v w4 ⟨rfl,hr4,hf4⟩;have hn4:=hf4.size;have t4:=HT3'.out.fr hf4 (by omega);have f40:=t4.f 0;have c40:=t4.c0;have HT3b:=hid (t4.set0 (.int .i64 5));have HT2b:=hid ((HT2''.out.fr hf4 (by omega)).fr (Fr.set1 w4 w1.heap.size 0 (.int .i64 5)) (by omega));have HF4:=hid ((HF3.out.gn hf4 fun k h=>.inl h).gn (Fr.set1 w4 w1.heap.size 0 (.int .i64 5)) fun k h=>gn_at (by omega) h);have HR4:=hid (hr4.fr (Fr.set1 w4 w1.heap.size 0 (.int .i64 5)) (by omega));have HL4:=hid ((HL3.out.at_ hg hf4).fr (Fr.set1 w4 w1.heap.size 0 (.int .i64 5)) fun k hk h=>by omega);have hvr:validD r=true:=zaU (by decide) (zaU (by decide) HV.out);have HIR:=hid (zgn g r false _ HR4.out HL4.out (fun _=>hvr) (by simp only[List.length_cons]at hlx;omega));clear t4 hr4 hf4 hvr;go_wp2_with fail
       refine HIR.out.mono ?_;rintro v w5 ⟨hf5,⟨r',y,q',_,rfl,hup,rfl,hr5,hv5⟩ | ⟨y,q',hup,rfl,hr5⟩⟩
       · have hn5:=hf5.size;have hn5':w1.heap.size<w5.heap.size:=(by simp at hn5;omega);have t5:=HT3b.out.fr hf5 (by omega);have c50:=t5.c0;have c51:=t5.c1;have c52:=t5.c2;have f52:=t5.f 2;have t2:=HT2b.out.fr hf5 (by omega);have c20:=t2.c0;have c21:=t2.c1;have c22:=t2.c2;have f20:=t2.f 0;have f21:=t2.f 1;have f22:=t2.f 2;have hne:w.heap.size≠w1.heap.size:=(by omega);have HT2c:=hid t2;have HF5:=hid (HF4.out.gn hf5 fun k h=>.inl h);have HR5:=hid hr5;have HV5:=hid hv5;have HSP:=hid (zi8 false l x r' y q' HX.out hup);clear t5 t2 hf5 hr5 hv5 hup;go_wp2
         (try simp only[Exit.inBlock,Exit.then])
         refine zai rfl rfl rfl ((((HT2c.out.fr (Fr.set1 w5 w1.heap.size 2 _) (by omega)).set0 _).set1 _).set2 _) ?_;have hfin:=fin3 (B:=w.heap.size) (HF5.out.gn (Fr.set1 w5 w1.heap.size 2 (.string (str y))) fun k h=>gn_at (by omega) h) (HR5.out.fr (Fr.set1 w5 w1.heap.size 2 _) (by omega)) hgl nL (.int .i64 5) (.string (str x)) (.string (str y));exact ⟨hfin.1,.inl ⟨_,_,HSP.out,rfl,hfin.2,HV5.out⟩⟩
       · have hn5:=hf5.size;have hn5':w1.heap.size<w5.heap.size:=(by simp at hn5;omega);have t5:=HT3b.out.fr hf5 (by omega);have c50:=t5.c0;have c51:=t5.c1;have c52:=t5.c2;have f52:=t5.f 2;have t2:=HT2b.out.fr hf5 (by omega);have c20:=t2.c0;have c21:=t2.c1;have c22:=t2.c2;have f20:=t2.f 0;have f21:=t2.f 1;have f22:=t2.f 2;have hne:w.heap.size≠w1.heap.size:=(by omega);have HT2c:=hid t2;have HF5:=hid (HF4.out.gn hf5 fun k h=>.inl h);have HR5:=hid hr5;have HSP:=hid (zim false l x r HX.out (hup.resolve_left (by decide)));clear t5 t2 hf5 hr5 hup;go_wp2
         (try simp only[Exit.inBlock,Exit.then])
         refine zai rfl rfl rfl ((((HT2c.out.fr (Fr.set1 w5 w1.heap.size 2 _) (by omega)).set0 _).set1 _).set2 _) ?_;have hfin:=fin3 (B:=w.heap.size) (HF5.out.gn (Fr.set1 w5 w1.heap.size 2 (.string y)) fun k h=>gn_at (by omega) h) (HR5.out.fr (Fr.set1 w5 w1.heap.size 2 _) (by omega)) hgl nL (.int .i64 5) (.string (str x)) (.string y);exact ⟨hfin.1,.inr ⟨HSP.out,_,_,_,_,rfl,hfin.2⟩⟩
     · have HI2:=hid (is_no g q [94,94] false w3 HR3.out (.inr fun r hr=>hq2 ⟨r,hr⟩));rw[show str [94,94]=(⟨#[94,94]⟩:ByteArray) from rfl]at HI2;have HSP:=hid (zeE false l x q HX.out hq hq2);clear hq hq2;go_wp2_with fail
       refine HI2.out.mono ?_;rintro v w4 ⟨rfl,hr4,hf4⟩;have hn4:=hf4.size;have t4:=HT3'.out.fr hf4 (by omega);have c50:=t4.c0;have c51:=t4.c1;have c52:=t4.c2;have t2:=HT2''.out.fr hf4 (by omega);have c20:=t2.c0;have c21:=t2.c1;have c22:=t2.c2;have f20:=t2.f 0;have f21:=t2.f 1;have f22:=t2.f 2;have hne:w.heap.size≠w1.heap.size:=(by omega);have HT2c:=hid t2;have HF4:=hid (HF3.out.gn hf4 fun k h=>.inl h);have HR4:=hid hr4;clear t4 t2 hf4 hr4;go_wp2
       (try simp only[Exit.inBlock,Exit.then])
       refine zai rfl rfl rfl (((HT2c.out.set0 _).set1 _).set2 _) ?_;have hfin:=fin3 (B:=w.heap.size) HF4.out HR4.out hgl nL (.int .i64 3) (.string (str x)) (.string ⟨#[]⟩);exact ⟨hfin.1,.inl ⟨_,_,HSP.out,rfl,hfin.2,HV.out⟩⟩
 · have hn1:=hf1.size;obtain ⟨w2,hw2⟩:∃w2,w1.alloc (.cells #[.int .i64 3,.string s,.string ⟨#[]⟩] 62)=w2:=⟨_,rfl⟩;have hb2:Below w1.heap.size w1 w2:=(by rw[<-hw2];exact br.alloc nL _);have hn2:w2.heap.size=w1.heap.size+1:=(by rw[<-hw2];simp);have ht3:T3 w2 w1.heap.size (.int .i64 3) (.string s) (.string ⟨#[]⟩):=(by rw[<-hw2];exact T3.new _ _ _ _);have HF2:=hid ((HF0.out.gn hf1 fun k h=>.inl h).step hb2);have HR2:=hid (hr1.below hb2);have HT2':=hid ((HT2.out.fr hf1 (by omega)).fr (Fr.of_below hb2 fun _=>False) fun h=>h);have HT3:=hid ht3;have HSP:=hid (zgg false l hx);have HW2:=hid hw2;clear hb2 ht3 hr1 hx hw2 hf1 HF0 HT0 HT2;have HI:=hid (is_no g q [64] true w2 HR2.out (.inl rfl));rw[show str [64]=(⟨#[64]⟩:ByteArray) from rfl]at HI;go_wp2_with fail
   rw[HW2.out];refine HI.out.mono ?_;rintro v w3 ⟨rfl,hr3,hf3⟩;have hn3:=hf3.size;have HT3':=hid (HT3.out.fr hf3 (by omega));have HT2'':=hid (HT2'.out.fr hf3 (by omega));have HF3:=hid (HF2.out.gn hf3 fun k h=>.inl h);have HR3:=hid hr3;clear hr3 hf3;have HI2:=hid (is_no g q [94,94] true w3 HR3.out (.inl rfl));rw[show str [94,94]=(⟨#[94,94]⟩:ByteArray) from rfl]at HI2;go_wp2_with fail
   refine HI2.out.mono ?_;rintro v w4 ⟨rfl,hr4,hf4⟩;have hn4:=hf4.size;have t4:=HT3'.out.fr hf4 (by omega);have c50:=t4.c0;have c51:=t4.c1;have c52:=t4.c2;have t2:=HT2''.out.fr hf4 (by omega);have c20:=t2.c0;have c21:=t2.c1;have c22:=t2.c2;have f20:=t2.f 0;have f21:=t2.f 1;have f22:=t2.f 2;have hne:w.heap.size≠w1.heap.size:=(by omega);have HT2c:=hid t2;have HF4:=hid (HF3.out.gn hf4 fun k h=>.inl h);have HR4:=hid hr4;clear t4 t2 hf4 hr4;go_wp2
   (try simp only[Exit.inBlock,Exit.then])
   refine zai rfl rfl rfl (((HT2c.out.set0 _).set1 _).set2 _) ?_;have hfin:=fin3 (B:=w.heap.size) HF4.out HR4.out hgl nL (.int .i64 3) (.string s) (.string ⟨#[]⟩);exact ⟨hfin.1,.inr ⟨HSP.out,_,_,_,_,rfl,hfin.2⟩⟩
end Go.Proofs.YtaeiifngjglchaaGreatDoor
end
section
namespace Go.Proofs.YtaeiifngjglchaaGreatDoor.Tv
open Go.Proofs.Tryz
open Go.Lib
def termV (nl:Bool) (l:Bs):Option (Tm × Bs):=(termT nl l).bind fun p=>if tmT p.1 then some p else none
theorem zcu {nl:Bool} {l:Bs} (h:termT nl l=none):termV nl l=none:=by unfold termV;rw[h];rfl
theorem ze3 {nl:Bool} {l r:Bs} {t:Tm} (h:termT nl l=some (t,r)) (ht:tmT t=false):termV nl l=none:=by unfold termV;rw[h];simp[ht]
theorem zdk {nl:Bool} {l r:Bs} {t:Tm} (h:termT nl l=some (t,r)) (ht:tmT t=true):termV nl l=some (t,r):=by unfold termV;rw[h];simp[ht]
theorem zfN {nl:Bool} {r x q:Bs} (h:upTo nl 62 false r=some (x,q)):termT nl (60::r)=some (⟨1,x,[]⟩,q):=by simp[termT,h]
theorem zbN {nl:Bool} {r:Bs} (h:upTo nl 62 false r=none):termT nl (60::r)=none:=by simp[termT,h]
theorem zbS (nl:Bool) (r:Bs):termT nl (95::58::r)=some (⟨2,r.takeWhile isAl,[]⟩,r.dropWhile isAl):=by simp[termT]
theorem zdp (nl:Bool) (r:Bs):termT nl (34::r)=litT nl r:=by simp[termT]
theorem zbR (nl:Bool) (l:Bs) (h1:¬∃r,l=60::r) (h2:¬∃r,l=95::58::r) (h3:¬∃r,l=34::r):termT nl l=none:=by
 unfold termT;split
 · rename_i r;exact absurd ⟨r,rfl⟩ h1
 · rename_i r;exact absurd ⟨r,rfl⟩ h2
 · rename_i r;exact absurd ⟨r,rfl⟩ h3
 · rfl
theorem zil {nl:Bool} {l r:Bs} {t:Tm} (h:litT nl l=some (t,r)):t.x.length<=4*l.length/\t.e.length<=16*l.length/\r.length<=16*l.length:=by
 unfold litT at h;cases hx:upTo true 34 true l with
 | none=>rw[hx]at h;cases h
 | some p=>
  rw[hx,Option.bind_some]at h;have h1:=zaE hx;obtain ⟨x,q⟩:=p;simp only at h h1;split at h
  · rename_i r';cases h
    have h2:=(List.takeWhile_sublist isTag (l:=r')).length_le;have h3:=(List.dropWhile_sublist isTag (l:=r')).length_le;simp only[List.length_map,List.length_cons]at h1 ⊢;omega
  · rename_i r';split at h
    · rename_i r'';cases hy:upTo nl 62 false r'' with
      | none=>rw[hy]at h;cases h
      | some q=>
       rw[hy,Option.map_some]at h;have h2:=zaE hy;cases h
       simp only[List.length_cons]at h1 ⊢;omega
    · cases h
  · cases h
    simp only[List.length_nil];omega
end Go.Proofs.YtaeiifngjglchaaGreatDoor.Tv
namespace Go.Proofs.YtaeiifngjglchaaGreatDoor
open Go.Proofs.Tryz
open Go.RowKit Go.Lib Tv
theorem sets3 (W:World) (b:Nat) (u0 u1 u2:Value):Fr W (((W.setCell ⟨b,0,none⟩ u0).setCell ⟨b,1,none⟩ u1).setCell ⟨b,2,none⟩ u2) (fun k=>k=b):=
 ((Fr.set1 W b 0 u0).then_ (Fr.set1 _ b 1 u1) fun _ h=>.inl h).then_ (Fr.set1 _ b 2 u2) fun _ h=>.inl h
structure Ts (w W:World) (g b2 b3:Nat) (q:Bs) (bad:Bool) (u0 u1 u2:Value):Prop where
 fr:Fr w W (Gn g w.heap.size)
 rd:Rdr W g q bad
 t2:∃x y z,T3 W b2 x y z
 t3:T3 W b3 u0 u1 u2
theorem Ts.put {w W:World} {g b2 b3:Nat} {q:Bs} {bad:Bool} {u0 u1 u2:Value} (h:Ts w W g b2 b3 q bad u0 u1 u2) (h3:w.heap.size<=b3) (hg:g<w.heap.size) (h23:b2≠b3) (v0 v1 v2:Value) :
    Ts w (((W.setCell ⟨b3,0,none⟩ v0).setCell ⟨b3,1,none⟩ v1).setCell ⟨b3,2,none⟩ v2) g b2 b3 q bad v0 v1 v2:=
 ⟨h.fr.gn (sets3 W b3 v0 v1 v2) fun _ h=>gn_at h3 h,h.rd.fr (sets3 W b3 v0 v1 v2) (by omega),by
  obtain ⟨x,y,z,h2⟩:=h.t2;exact ⟨x,y,z,h2.fr (sets3 W b3 v0 v1 v2) (by omega)⟩,((h.t3.set0 v0).set1 v1).set2 v2⟩
theorem Ts.bad {w W:World} {g b2 b3:Nat} {q:Bs} {bad:Bool} {u0 u1 u2:Value} (h:Ts w W g b2 b3 q bad u0 u1 u2) (h3:w.heap.size<=b3) (h2:w.heap.size<=b2) (hg:g<w.heap.size) :
    Ts w (W.setCell ⟨g,1,none⟩ (.bool true)) g b2 b3 q true u0 u1 u2:=
 ⟨h.fr.gn (Fr.set1 W g 1 _) fun _ h=>.inl h,h.rd.set1 true,by
  obtain ⟨x,y,z,h2'⟩:=h.t2;exact ⟨x,y,z,h2'.fr (Fr.set1 W g 1 _) (by omega)⟩,h.t3.fr (Fr.set1 W g 1 _) (by omega)⟩
theorem Ts.below {w W W1:World} {g b2 b3:Nat} {q:Bs} {bad:Bool} {u0 u1 u2:Value} (h:Ts w W g b2 b3 q bad u0 u1 u2) (hb:Below W.heap.size W W1):Ts w W1 g b2 b3 q bad u0 u1 u2:=
 ⟨h.fr.step hb,h.rd.below hb,by
  obtain ⟨x,y,z,h2⟩:=h.t2;exact ⟨x,y,z,h2.fr (Fr.of_below hb fun _=>False) fun h=>h⟩,h.t3.fr (Fr.of_below hb fun _=>False) fun h=>h⟩
theorem Ts.fin {w W:World} {g b2 b3:Nat} {q:Bs} {bad:Bool} {u0 u1 u2:Value} (h:Ts w W g b2 b3 q bad u0 u1 u2) (h2:w.heap.size<=b2) (hg:g<w.heap.size) :
    T3 (((W.setCell ⟨b2,0,none⟩ u0).setCell ⟨b2,1,none⟩ u1).setCell ⟨b2,2,none⟩ u2) b2 u0 u1 u2/\
    Fr w (((W.setCell ⟨b2,0,none⟩ u0).setCell ⟨b2,1,none⟩ u1).setCell ⟨b2,2,none⟩ u2) (fun k=>k=g)/\Rdr (((W.setCell ⟨b2,0,none⟩ u0).setCell ⟨b2,1,none⟩ u1).setCell ⟨b2,2,none⟩ u2) g q bad:=by
 obtain ⟨x,y,z,h2'⟩:=h.t2;exact ⟨((h2'.set0 u0).set1 u1).set2 u2,fin3 h.fr h.rd hg h2 u0 u1 u2⟩
theorem Ts.call {w W W1:World} {g b2 b3:Nat} {q r:Bs} {bad bad':Bool} {u0 u1 u2:Value} (h:Ts w W g b2 b3 q bad u0 u1 u2) (hf:Fr W W1 (fun k=>k=g)) (hr:Rdr W1 g r bad') (h3:w.heap.size<=b3) (h2:w.heap.size<=b2) (hg:g<w.heap.size) :
    Ts w W1 g b2 b3 r bad' u0 u1 u2:=
 ⟨h.fr.gn hf fun _ h=>.inl h,hr,by
  obtain ⟨x,y,z,h2'⟩:=h.t2;exact ⟨x,y,z,h2'.fr hf (by omega)⟩,h.t3.fr hf (by omega)⟩
theorem zka:∀args w,(callFunc 160 args).run prog w=.ok (.enter 160 args) w:=enters_of func160 (by kernel_rfl) rfl
theorem zgP (g:Nat) (l:Bs) (w:World) (h:Rdr w g l false) (hlen:l.length<=1000000) :
    Calls prog 159 #[.pointer (some ⟨g,0,none⟩),.func (.func 160) #[] #[]] w fun v w'=>Fr w w' (fun k=>k=g)/\v=.returned (.string (str (l.takeWhile isAl)))/\Rdr w' g (l.dropWhile isAl) false:=
 zc9 g 160 zka alR isAl zfE l w h hlen (fun W y _ _=>zci y W)
theorem znU {l:Bs} (hv:validD l=true) (h:¬∃r,l=60::r):nx l false≠60:=by
 unfold nx;rw[if_neg (by decide)];by_cases hl:l=[]
 · rw[if_pos hl];decide
 · rw[if_neg hl];obtain ⟨c,n,hd⟩:=Hd.of l hl hv;rw[hd.dec];intro hc;have hc':c=60:=(by simpa using (Int.ofNat.inj hc));subst hc';obtain ⟨r,h1,_⟩:=hd.one (by decide);exact h ⟨r,h1⟩
theorem nx_lt (r:Bs):nx (60::r) false=60:=by
 unfold nx;rw[if_neg (by decide),if_neg (by simp),decodeL_ascii 60 r (by decide)];rfl
theorem zct (g:Nat) (l:Bs) (w:World) (h:Rdr w g l false) (ht:Lay w) (hv:validD l=true) (hl:l.length<=50000) :
    Calls prog 112 #[.pointer (some ⟨g,0,none⟩)] w fun v w'=>Fr w w' (fun k=>k=g)/\LitOut g (termV false l) v w':=by
 have hg:=h.1;have hgl:=h.lt;obtain ⟨wa,hwa⟩:∃wa,w.alloc (.cells #[.int .i64 0,.string ⟨#[]⟩,.string ⟨#[]⟩] 62)=wa:=⟨_,rfl⟩;obtain ⟨w0,hw0⟩:∃w0,wa.alloc (.cells #[.int .i64 0,.string ⟨#[]⟩,.string ⟨#[]⟩] 62)=w0:=⟨_,rfl⟩;have hba:Below w.heap.size w wa:=(by rw[<-hwa];exact br.alloc nL _);have hbb:Below wa.heap.size wa w0:=(by rw[<-hw0];exact br.alloc nL _);have hna:wa.heap.size=w.heap.size+1:=(by rw[<-hwa];simp);have hb0:Below w.heap.size w w0:=hba.trans (hbb.mono hba.size);have hs0:Ts w w0 g w.heap.size (w.heap.size+1) l false (.int .i64 0) (.string ⟨#[]⟩) (.string ⟨#[]⟩):=by
  refine ⟨Fr.of_below hb0 _,h.below hb0,⟨_,_,_,(show T3 wa w.heap.size _ _ _ from by rw[<-hwa];exact T3.new _ _ _ _).fr (Fr.of_below hbb fun _=>False) fun h=>h⟩,?_⟩;rw[<-hna,<-hw0];exact T3.new _ _ _ _
 have HL:=hid ht;have HL0:=hid (ht.below hb0);have HNX:=hid (zbG g l false w0 hs0.rd HL0.out);have HS0:=hid hs0;have HV0:=hid hv;clear h ht hv hba hbb hb0 hs0;by_cases h1:∃r,l=60::r
 · obtain ⟨r,rfl⟩:=h1;rw[nx_lt]at HNX;go_enter func112,ntmps112
   go_wp2_with fail
   rw[hna]at *;refine HNX.out.mono ?_;rintro v w1 ⟨rfl,hb1⟩;have HS1:=hid (HS0.out.below hb1);have HI:=hid (zgn g (60::r) false w1 HS1.out.rd (HL0.out.below hb1) (fun _=>HV0.out) (by omega));clear hb1;go_wp2_with fail
   refine HI.out.mono ?_;rintro v w2 ⟨hf2,⟨r',x,q,_,hr',hup,rfl,hr2,hv2⟩ | ⟨s,q,hup,rfl,hr2⟩⟩
   · cases hr'
     have hlx:=zaE hup;have HS:=hid (HS1.out.call hf2 hr2 (by omega) (by omega) hgl);have HT:=hid (zfN hup);have HV:=hid hv2;clear hf2 hr2 hup hv2;have kk:=HS.out.rd.c1;have kf:=HS.out.rd.f 1;have c30:=HS.out.t3.c0;have c31:=HS.out.t3.c1;have c32:=HS.out.t3.c2;have f30:=HS.out.t3.f 0;have f31:=HS.out.t3.f 1;have f32:=HS.out.t3.f 2;obtain ⟨x2,y2,z2,t2⟩:=HS.out.t2;have c20:=t2.c0;have c21:=t2.c1;have c22:=t2.c2;have f20:=t2.f 0;have f21:=t2.f 1;have f22:=t2.f 2;clear t2;have hsp:=(HS.out.put (b3:=w.heap.size+1) (by omega) hgl (by omega) (.int .i64 1) (.string (str x)) (.string (str [])));have HSP:=hid hsp;have hlay:=HL.out.fr HSP.out.fr (fun k hk h=>by rcases h with h | h<;>omega);have HIS:Hid (Calls prog 144 #[.agg #[.int .i64 1,.string (str x),.string (str [])]] _ _):=hid (zbU ⟨1,x,[]⟩ ⟨by simp only[List.length_cons]at hlx hl ⊢;omega,by simp⟩ _ hlay);rw[show str []=(⟨#[]⟩:ByteArray) from rfl]at HIS;clear hsp hlay;cases hy:tmT ⟨1,x,[]⟩
     · rw[hy]at HIS;go_wp2_with fail
       refine HIS.out.mono ?_;rintro v wz ⟨rfl,hbz⟩;have HZ:=hid (HSP.out.below hbz);clear kk kf c30 c31 c32 f30 f31 f32 c20 c21 c22 f20 f21 f22;have kk:=HZ.out.rd.c1;have kf:=HZ.out.rd.f 1;have c30:=HZ.out.t3.c0;have c31:=HZ.out.t3.c1;have c32:=HZ.out.t3.c2;have f30:=HZ.out.t3.f 0;have f31:=HZ.out.t3.f 1;have f32:=HZ.out.t3.f 2;obtain ⟨x2,y2,z2,t2⟩:=HZ.out.t2;have c20:=t2.c0;have c21:=t2.c1;have c22:=t2.c2;have f20:=t2.f 0;have f21:=t2.f 1;have f22:=t2.f 2;clear t2;go_wp2;have hts:=HZ.out.bad (by omega) (by omega) hgl
       (try simp only[Exit.inBlock,Exit.then])
       have hfin:=hts.fin (by omega) hgl;refine zai rfl rfl rfl hfin.1 ?_;exact ⟨hfin.2.1,.inr ⟨ze3 HT.out hy,_,_,_,_,rfl,hfin.2.2⟩⟩
     · rw[hy]at HIS;go_wp2_with fail
       refine HIS.out.mono ?_;rintro v wz ⟨rfl,hbz⟩;have HZ:=hid (HSP.out.below hbz);clear kk kf c30 c31 c32 f30 f31 f32 c20 c21 c22 f20 f21 f22;have kk:=HZ.out.rd.c1;have kf:=HZ.out.rd.f 1;have c30:=HZ.out.t3.c0;have c31:=HZ.out.t3.c1;have c32:=HZ.out.t3.c2;have f30:=HZ.out.t3.f 0;have f31:=HZ.out.t3.f 1;have f32:=HZ.out.t3.f 2;obtain ⟨x2,y2,z2,t2⟩:=HZ.out.t2;have c20:=t2.c0;have c21:=t2.c1;have c22:=t2.c2;have f20:=t2.f 0;have f21:=t2.f 1;have f22:=t2.f 2;clear t2;go_wp2
       (try simp only[Exit.inBlock,Exit.then])
       have hfin:=HZ.out.fin (by omega) hgl;refine zai rfl rfl rfl hfin.1 ?_;exact ⟨hfin.2.1,.inl ⟨_,_,zdk HT.out hy,rfl,hfin.2.2,HV.out⟩⟩
   · have HS:=hid (HS1.out.call hf2 hr2 (by omega) (by omega) hgl);have HT:=hid (zbN (nl:=false) (hup.resolve_left (by decide) r rfl));clear hf2 hr2 hup;have kk:=HS.out.rd.c1;have kf:=HS.out.rd.f 1;have c30:=HS.out.t3.c0;have c31:=HS.out.t3.c1;have c32:=HS.out.t3.c2;have f30:=HS.out.t3.f 0;have f31:=HS.out.t3.f 1;have f32:=HS.out.t3.f 2;obtain ⟨x2,y2,z2,t2⟩:=HS.out.t2;have c20:=t2.c0;have c21:=t2.c1;have c22:=t2.c2;have f20:=t2.f 0;have f21:=t2.f 1;have f22:=t2.f 2;clear t2;go_wp2;have hts:=(HS.out.put (b3:=w.heap.size+1) (by omega) hgl (by omega) (.int .i64 1) (.string s) (.string ⟨#[]⟩)).bad (by omega) (by omega) hgl
     (try simp only[Exit.inBlock,Exit.then])
     have hfin:=hts.fin (by omega) hgl;refine zai rfl rfl rfl hfin.1 ?_;exact ⟨hfin.2.1,.inr ⟨zcu HT.out,_,_,_,_,rfl,hfin.2.2⟩⟩
 · have hnz:(nx l false == 60)=false:=by
    have:=znU HV0.out h1;simp[this]
   generalize nx l false=z at HNX hnz;go_enter func112,ntmps112
   go_wp2_with fail
   rw[hna]at *;refine HNX.out.mono ?_;rintro v w1 ⟨rfl,hb1⟩;have HS1:=hid (HS0.out.below hb1);have HL1:=hid (HL0.out.below hb1);clear hb1;by_cases h2:∃r,l=95::58::r
   · obtain ⟨r,rfl⟩:=h2;have HI:=hid (zgj g (95::58::r) [95,58] r w1 HS1.out.rd rfl);rw[show str [95,58]=(⟨#[95,58]⟩:ByteArray) from rfl]at HI;go_wp2_with fail
     refine HI.out.mono ?_;rintro v w2 ⟨rfl,hr2,hf2⟩;have hvr:validD r=true:=zaU (by decide) (zaU (by decide) HV0.out);have HS2:=hid (HS1.out.call hf2 hr2 (by omega) (by omega) hgl);have HWL:=hid (zgP g r w2 hr2 (by simp only[List.length_cons]at hl;omega));have hlx:=(List.takeWhile_sublist isAl (l:=r)).length_le;have HV:=hid (zcs zfE.high r hvr);have HT:=hid (zbS false r);clear hf2 hr2 hvr;go_wp2_with fail
     refine HWL.out.mono ?_;rintro v w3 ⟨hf3,rfl,hr3⟩;have HS:=hid (HS2.out.call hf3 hr3 (by omega) (by omega) hgl);clear hf3 hr3;have kk:=HS.out.rd.c1;have kf:=HS.out.rd.f 1;have c30:=HS.out.t3.c0;have c31:=HS.out.t3.c1;have c32:=HS.out.t3.c2;have f30:=HS.out.t3.f 0;have f31:=HS.out.t3.f 1;have f32:=HS.out.t3.f 2;obtain ⟨x2,y2,z2,t2⟩:=HS.out.t2;have c20:=t2.c0;have c21:=t2.c1;have c22:=t2.c2;have f20:=t2.f 0;have f21:=t2.f 1;have f22:=t2.f 2;clear t2;have hsp:=(HS.out.put (b3:=w.heap.size+1) (by omega) hgl (by omega) (.int .i64 2) (.string (str (r.takeWhile isAl))) (.string (str [])));have HSP:=hid hsp;have hlay:=HL.out.fr HSP.out.fr (fun k hk h=>by rcases h with h | h<;>omega);have HIS:Hid (Calls prog 144 #[.agg #[.int .i64 2,.string (str (r.takeWhile isAl)),.string (str [])]] _ _):=hid (zbU ⟨2,(r.takeWhile isAl),[]⟩ ⟨by simp only[List.length_cons]at hl ⊢;omega,by simp⟩ _ hlay);rw[show str []=(⟨#[]⟩:ByteArray) from rfl]at HIS;clear hsp hlay;cases hy:tmT ⟨2,(r.takeWhile isAl),[]⟩
     · rw[hy]at HIS;go_wp2_with fail
       refine HIS.out.mono ?_;rintro v wz ⟨rfl,hbz⟩;have HZ:=hid (HSP.out.below hbz);clear kk kf c30 c31 c32 f30 f31 f32 c20 c21 c22 f20 f21 f22;have kk:=HZ.out.rd.c1;have kf:=HZ.out.rd.f 1;have c30:=HZ.out.t3.c0;have c31:=HZ.out.t3.c1;have c32:=HZ.out.t3.c2;have f30:=HZ.out.t3.f 0;have f31:=HZ.out.t3.f 1;have f32:=HZ.out.t3.f 2;obtain ⟨x2,y2,z2,t2⟩:=HZ.out.t2;have c20:=t2.c0;have c21:=t2.c1;have c22:=t2.c2;have f20:=t2.f 0;have f21:=t2.f 1;have f22:=t2.f 2;clear t2;go_wp2;have hts:=HZ.out.bad (by omega) (by omega) hgl
       (try simp only[Exit.inBlock,Exit.then])
       have hfin:=hts.fin (by omega) hgl;refine zai rfl rfl rfl hfin.1 ?_;exact ⟨hfin.2.1,.inr ⟨ze3 HT.out hy,_,_,_,_,rfl,hfin.2.2⟩⟩
     · rw[hy]at HIS;go_wp2_with fail
       refine HIS.out.mono ?_;rintro v wz ⟨rfl,hbz⟩;have HZ:=hid (HSP.out.below hbz);clear kk kf c30 c31 c32 f30 f31 f32 c20 c21 c22 f20 f21 f22;have kk:=HZ.out.rd.c1;have kf:=HZ.out.rd.f 1;have c30:=HZ.out.t3.c0;have c31:=HZ.out.t3.c1;have c32:=HZ.out.t3.c2;have f30:=HZ.out.t3.f 0;have f31:=HZ.out.t3.f 1;have f32:=HZ.out.t3.f 2;obtain ⟨x2,y2,z2,t2⟩:=HZ.out.t2;have c20:=t2.c0;have c21:=t2.c1;have c22:=t2.c2;have f20:=t2.f 0;have f21:=t2.f 1;have f22:=t2.f 2;clear t2;go_wp2
       (try simp only[Exit.inBlock,Exit.then])
       have hfin:=HZ.out.fin (by omega) hgl;refine zai rfl rfl rfl hfin.1 ?_;exact ⟨hfin.2.1,.inl ⟨_,_,zdk HT.out hy,rfl,hfin.2.2,HV.out⟩⟩
   · have HI:=hid (is_no g l [95,58] false w1 HS1.out.rd (.inr fun r hr=>h2 ⟨r,hr⟩));rw[show str [95,58]=(⟨#[95,58]⟩:ByteArray) from rfl]at HI;go_wp2_with fail
     refine HI.out.mono ?_;rintro v w2 ⟨rfl,hr2,hf2⟩;have HS2:=hid (HS1.out.call hf2 hr2 (by omega) (by omega) hgl);have HL2:=hid (HL1.out.at_ hg hf2);clear hf2 hr2;by_cases h3:∃r,l=34::r
     · obtain ⟨r,rfl⟩:=h3;have HI2:=hid (zgj g (34::r) [34] r w2 HS2.out.rd rfl);rw[show str [34]=(⟨#[34]⟩:ByteArray) from rfl]at HI2;go_wp2_with fail
       refine HI2.out.mono ?_;rintro v w3 ⟨rfl,hr3,hf3⟩;have HS3:=hid (HS2.out.call hf3 hr3 (by omega) (by omega) hgl);have HLT:=hid (zfn g r w3 hr3 (HL2.out.at_ hg hf3) (zaU (by decide) HV0.out) (by simp only[List.length_cons]at hl;omega));clear hf3 hr3;go_wp2_with fail
       refine HLT.out.mono ?_;rintro v w4 ⟨hf4,⟨⟨k,x,e⟩,q,hlt,rfl,hr4,hv4⟩ | ⟨hlt,k,s1,s2,q,rfl,hr4⟩⟩
       · have hlx:=zil hlt;have HS:=hid (HS3.out.call hf4 hr4 (by omega) (by omega) hgl);have HT:=hid ((zdp false r).trans hlt);have HV:=hid hv4;unfold encT;clear hf4 hr4 hv4 hlt;have kk:=HS.out.rd.c1;have kf:=HS.out.rd.f 1;have c30:=HS.out.t3.c0;have c31:=HS.out.t3.c1;have c32:=HS.out.t3.c2;have f30:=HS.out.t3.f 0;have f31:=HS.out.t3.f 1;have f32:=HS.out.t3.f 2;obtain ⟨x2,y2,z2,t2⟩:=HS.out.t2;have c20:=t2.c0;have c21:=t2.c1;have c22:=t2.c2;have f20:=t2.f 0;have f21:=t2.f 1;have f22:=t2.f 2;clear t2;have hsp:=(HS.out.put (b3:=w.heap.size+1) (by omega) hgl (by omega) (.int .i64 k) (.string (str x)) (.string (str e)));have HSP:=hid hsp;have hlay:=HL.out.fr HSP.out.fr (fun k hk h=>by rcases h with h | h<;>omega);have HIS:Hid (Calls prog 144 #[.agg #[.int .i64 k,.string (str x),.string (str e)]] _ _):=hid (zbU ⟨k,x,e⟩ ⟨by simp only[List.length_cons]at hlx hl ⊢;omega,by simp only[List.length_cons]at hlx hl ⊢;omega⟩ _ hlay);clear hsp hlay;cases hy:tmT ⟨k,x,e⟩
         · rw[hy]at HIS;go_wp2_with fail
           refine HIS.out.mono ?_;rintro v wz ⟨rfl,hbz⟩;have HZ:=hid (HSP.out.below hbz);clear kk kf c30 c31 c32 f30 f31 f32 c20 c21 c22 f20 f21 f22;have kk:=HZ.out.rd.c1;have kf:=HZ.out.rd.f 1;have c30:=HZ.out.t3.c0;have c31:=HZ.out.t3.c1;have c32:=HZ.out.t3.c2;have f30:=HZ.out.t3.f 0;have f31:=HZ.out.t3.f 1;have f32:=HZ.out.t3.f 2;obtain ⟨x2,y2,z2,t2⟩:=HZ.out.t2;have c20:=t2.c0;have c21:=t2.c1;have c22:=t2.c2;have f20:=t2.f 0;have f21:=t2.f 1;have f22:=t2.f 2;clear t2;go_wp2;have hts:=HZ.out.bad (by omega) (by omega) hgl
           (try simp only[Exit.inBlock,Exit.then])
           have hfin:=hts.fin (by omega) hgl;refine zai rfl rfl rfl hfin.1 ?_;exact ⟨hfin.2.1,.inr ⟨ze3 HT.out hy,_,_,_,_,rfl,hfin.2.2⟩⟩
         · rw[hy]at HIS;go_wp2_with fail
           refine HIS.out.mono ?_;rintro v wz ⟨rfl,hbz⟩;have HZ:=hid (HSP.out.below hbz);clear kk kf c30 c31 c32 f30 f31 f32 c20 c21 c22 f20 f21 f22;have kk:=HZ.out.rd.c1;have kf:=HZ.out.rd.f 1;have c30:=HZ.out.t3.c0;have c31:=HZ.out.t3.c1;have c32:=HZ.out.t3.c2;have f30:=HZ.out.t3.f 0;have f31:=HZ.out.t3.f 1;have f32:=HZ.out.t3.f 2;obtain ⟨x2,y2,z2,t2⟩:=HZ.out.t2;have c20:=t2.c0;have c21:=t2.c1;have c22:=t2.c2;have f20:=t2.f 0;have f21:=t2.f 1;have f22:=t2.f 2;clear t2;go_wp2
           (try simp only[Exit.inBlock,Exit.then])
           have hfin:=HZ.out.fin (by omega) hgl;refine zai rfl rfl rfl hfin.1 ?_;exact ⟨hfin.2.1,.inl ⟨_,_,zdk HT.out hy,rfl,hfin.2.2,HV.out⟩⟩
       · have HS:=hid (HS3.out.call hf4 hr4 (by omega) (by omega) hgl);have HT:=hid ((zdp false r).trans hlt);clear hf4 hr4 hlt;have kk:=HS.out.rd.c1;have kf:=HS.out.rd.f 1;have c30:=HS.out.t3.c0;have c31:=HS.out.t3.c1;have c32:=HS.out.t3.c2;have f30:=HS.out.t3.f 0;have f31:=HS.out.t3.f 1;have f32:=HS.out.t3.f 2;obtain ⟨x2,y2,z2,t2⟩:=HS.out.t2;have c20:=t2.c0;have c21:=t2.c1;have c22:=t2.c2;have f20:=t2.f 0;have f21:=t2.f 1;have f22:=t2.f 2;clear t2;go_wp2;have hts:=(HS.out.put (b3:=w.heap.size+1) (by omega) hgl (by omega) (.int .i64 k) (.string s1) (.string s2)).bad (by omega) (by omega) hgl
         (try simp only[Exit.inBlock,Exit.then])
         have hfin:=hts.fin (by omega) hgl;refine zai rfl rfl rfl hfin.1 ?_;exact ⟨hfin.2.1,.inr ⟨zcu HT.out,_,_,_,_,rfl,hfin.2.2⟩⟩
     · have HI2:=hid (is_no g l [34] false w2 HS2.out.rd (.inr fun r hr=>h3 ⟨r,hr⟩));rw[show str [34]=(⟨#[34]⟩:ByteArray) from rfl]at HI2;have HT:=hid (zbR false l h1 h2 h3);go_wp2_with fail
       refine HI2.out.mono ?_;rintro v w3 ⟨rfl,hr3,hf3⟩;have HS:=hid (HS2.out.call hf3 hr3 (by omega) (by omega) hgl);clear hf3 hr3;have kk:=HS.out.rd.c1;have kf:=HS.out.rd.f 1;have c30:=HS.out.t3.c0;have c31:=HS.out.t3.c1;have c32:=HS.out.t3.c2;have f30:=HS.out.t3.f 0;have f31:=HS.out.t3.f 1;have f32:=HS.out.t3.f 2;obtain ⟨x2,y2,z2,t2⟩:=HS.out.t2;have c20:=t2.c0;have c21:=t2.c1;have c22:=t2.c2;have f20:=t2.f 0;have f21:=t2.f 1;have f22:=t2.f 2;clear t2;have hlay:=HL.out.fr HS.out.fr (fun k hk h=>by rcases h with h | h<;>omega);have HIS:Hid (Calls prog 144 #[.agg #[.int .i64 0,.string ⟨#[]⟩,.string ⟨#[]⟩]] _ _):=hid (zbU ⟨0,[],[]⟩ ⟨by simp,by simp⟩ _ hlay);rw[show tmT ⟨0,[],[]⟩=false from rfl]at HIS;clear hlay;go_wp2_with fail
       refine HIS.out.mono ?_;rintro v wz ⟨rfl,hbz⟩;have HZ:=hid (HS.out.below hbz);clear kk kf c30 c31 c32 f30 f31 f32 c20 c21 c22 f20 f21 f22;have kk:=HZ.out.rd.c1;have kf:=HZ.out.rd.f 1;have c30:=HZ.out.t3.c0;have c31:=HZ.out.t3.c1;have c32:=HZ.out.t3.c2;have f30:=HZ.out.t3.f 0;have f31:=HZ.out.t3.f 1;have f32:=HZ.out.t3.f 2;obtain ⟨x2,y2,z2,t2⟩:=HZ.out.t2;have c20:=t2.c0;have c21:=t2.c1;have c22:=t2.c2;have f20:=t2.f 0;have f21:=t2.f 1;have f22:=t2.f 2;clear t2;go_wp2;have hts:=HZ.out.bad (by omega) (by omega) hgl
       (try simp only[Exit.inBlock,Exit.then])
       have hfin:=hts.fin (by omega) hgl;refine zai rfl rfl rfl hfin.1 ?_;exact ⟨hfin.2.1,.inr ⟨zcu HT.out,_,_,_,_,rfl,hfin.2.2⟩⟩
end Go.Proofs.YtaeiifngjglchaaGreatDoor
end
section
namespace Go.Proofs.YtaeiifngjglchaaGreatDoor
open Go.Proofs.Tryz
open Go.RowKit Go.Lib Tv
theorem ze1 (g:Nat) (l:Bs) (w:World) (h:Rdr w g l true) (ht:Lay w) :
    Calls prog 112 #[.pointer (some ⟨g,0,none⟩)] w fun v w'=>Fr w w' (fun k=>k=g)/\LitOut g none v w':=by
 have hg:=h.1;have hgl:=h.lt;obtain ⟨wa,hwa⟩:∃wa,w.alloc (.cells #[.int .i64 0,.string ⟨#[]⟩,.string ⟨#[]⟩] 62)=wa:=⟨_,rfl⟩;obtain ⟨w0,hw0⟩:∃w0,wa.alloc (.cells #[.int .i64 0,.string ⟨#[]⟩,.string ⟨#[]⟩] 62)=w0:=⟨_,rfl⟩;have hba:Below w.heap.size w wa:=(by rw[<-hwa];exact br.alloc nL _);have hbb:Below wa.heap.size wa w0:=(by rw[<-hw0];exact br.alloc nL _);have hna:wa.heap.size=w.heap.size+1:=(by rw[<-hwa];simp);have hb0:Below w.heap.size w w0:=hba.trans (hbb.mono hba.size);have hs0:Ts w w0 g w.heap.size (w.heap.size+1) l true (.int .i64 0) (.string ⟨#[]⟩) (.string ⟨#[]⟩):=by
  refine ⟨Fr.of_below hb0 _,h.below hb0,⟨_,_,_,(show T3 wa w.heap.size _ _ _ from by rw[<-hwa];exact T3.new _ _ _ _).fr (Fr.of_below hbb fun _=>False) fun h=>h⟩,?_⟩;rw[<-hna,<-hw0];exact T3.new _ _ _ _
 have HNX:=hid (zbG g l true w0 hs0.rd (ht.below hb0));rw[zkd l true (.inl rfl)]at HNX;have HS0:=hid hs0;clear h ht hba hbb hb0 hs0;go_enter func112,ntmps112
 go_wp2_with fail
 rw[hna]at *;refine HNX.out.mono ?_;rintro v w1 ⟨rfl,hb1⟩;have HS1:=hid (HS0.out.below hb1);clear hb1;have HI:=hid (is_no g l [95,58] true w1 HS1.out.rd (.inl rfl));rw[show str [95,58]=(⟨#[95,58]⟩:ByteArray) from rfl]at HI;go_wp2_with fail
 refine HI.out.mono ?_;rintro v w2 ⟨rfl,hr2,hf2⟩;have HS2:=hid (HS1.out.call hf2 hr2 (by omega) (by omega) hgl);clear hf2 hr2;have HI2:=hid (is_no g l [34] true w2 HS2.out.rd (.inl rfl));rw[show str [34]=(⟨#[34]⟩:ByteArray) from rfl]at HI2;go_wp2_with fail
 refine HI2.out.mono ?_;rintro v w3 ⟨rfl,hr3,hf3⟩;have HS:=hid (HS2.out.call hf3 hr3 (by omega) (by omega) hgl);clear hf3 hr3;have kk:=HS.out.rd.c1;have kf:=HS.out.rd.f 1;have c30:=HS.out.t3.c0;have c31:=HS.out.t3.c1;have c32:=HS.out.t3.c2;obtain ⟨x2,y2,z2,t2⟩:=HS.out.t2;have c20:=t2.c0;have c21:=t2.c1;have c22:=t2.c2;have f20:=t2.f 0;have f21:=t2.f 1;have f22:=t2.f 2;clear t2;go_wp2;have hts:=HS.out.bad (by omega) (by omega) hgl
 (try simp only[Exit.inBlock,Exit.then])
 have hfin:=hts.fin (by omega) hgl;refine zai rfl rfl rfl hfin.1 ?_;exact ⟨hfin.2.1,.inr ⟨rfl,_,_,_,_,rfl,hfin.2.2⟩⟩
def ovr (l:Bs):Bool:=decide (l=[]) || decide (l.head?=some 35)
theorem zbF (g:Nat) (l:Bs) (b:Bool) (w:World) (h:Rdr w g l b) :
    Calls prog 111 #[.pointer (some ⟨g,0,none⟩)] w fun v w'=>v=.returned (.bool (!b && ovr l))/\Below w.heap.size w w':=by
 have k0:=h.c0;have k1:=h.c1;have hs:=zdW l;have hz:=zab l;clear h;cases b
 · cases l with
   | nil=>
    rw[show str []=(⟨#[]⟩:ByteArray) from rfl]at k0;go_enter func111,ntmps111
    go_wp2;go_ret;exact ⟨rfl,br⟩
   | cons c r=>
    have hc:decide ((c::r:Bs)=[])=false:=(by simp);rw[hc]at hs;have hi:(str (c::r))[0]'(by rw[zab];simp)=c:=rfl;have hlt:0<(str (c::r)).size:=(by rw[zab];simp);have he:((c.toNat:Int) == 35)=decide (c=35):=by
     rw[Bool.eq_iff_iff];simp only[beq_iff_eq,decide_eq_true_eq];constructor
     · intro h
       exact UInt8.toNat_inj.1 (by have:c.toNat=35:=by omega
                                   exact this)
     · rintro rfl;rfl
    have ho:ovr (c::r)=decide (c=35):=(by unfold ovr;rw[hc];simp);rw[ho];generalize decide (c=35)=y at he ⊢;go_enter func111,ntmps111
    go_wp2;go_ret;exact ⟨by first | rfl | simp,br⟩
 · go_enter func111,ntmps111
   go_wp2;go_ret;exact ⟨rfl,br⟩
end Go.Proofs.YtaeiifngjglchaaGreatDoor
end
section
namespace Go.Proofs.YtaeiifngjglchaaGreatDoor
open Go.Proofs.Tryz
open Go.RowKit Go.Lib Tv
open Go.Proofs.YtaeiifngjglchaaGreatDoor.PTopFile Go.Proofs.YtaeiifngjglchaaGreatDoorW.PrintWords
theorem zfr:∀n:Fin 128,triviumref4_iriRune.f (n.val:Int)=some (iriR n.val):=by decide +kernel
theorem zkC (x:Nat):triviumref4_iriRune.f (x:Int)=some (iriR x):=by
 by_cases hx:x<128
 · exact zfr ⟨x,hx⟩
 · unfold triviumref4_iriRune.f iriR;have e1:decide (x<127)=false:=dF (by omega);have e2:decide ((x:Int)>=160)=decide (160<=x):=decide_eq_decide.2 ⟨fun h=>by omega,fun h=>by omega⟩;rw[if_neg (by omega),if_neg (by omega),if_neg (by omega),if_neg (by omega),if_neg (by omega),if_neg (by omega),if_neg (by omega),if_neg (by omega),if_neg (by omega),if_pos (by omega),if_neg (by omega),e1,e2];simp
theorem zfs (x:Nat) (w:World) :
    Calls prog 237 #[.int .i32 (x:Int)] w fun e w'=>e=.returned (.bool (iriR x))/\∃m,w'=w.drewN m:=
 (triviumref4_iriRune.calls (x:Int) _ w (zkC x)).mono fun _ _ h=>⟨h.1,h.2.out⟩
theorem zjY (w:World) (l:Bs) (hl:l.length<=1000000):∃(cap:Nat) (t:Array Value),(convert 9 310 (.string (str l))).run prog w =
    .ok (.slice (some ⟨w.heap.size,0,none⟩) (rns l).length cap) (w.drew.alloc (.cells (((rns l).map fun (c:Nat)=>Value.int .i32 (c:Int)).toArray++t) 21)):=by
 have h:=run_runes_of_string (P:=prog) w 9 310 21 (str l) underlying9 underlying310 underlying21;have e:Conv.runesFrom (str l) (str l).size 0 #[]=((rns l).map fun (c:Nat)=>Value.int .i32 (c:Int)).toArray:=(by rw[zab];exact zlU l);rw[e]at h;have hz:((rns l).map fun (c:Nat)=>Value.int .i32 (c:Int)).toArray.size=(rns l).length:=(by simp);rw[hz]at h;have:=zj3 l;exact ⟨_,_,h (by omega)⟩
theorem zeH (l:Bs) (w:World) (ht:Lay w) (hl:l.length<=1000000) :
    Calls prog 162 #[.string (str l)] w fun v w'=>v=.returned (.bool (iriT l))/\Below w.heap.size w w':=by
 have hz:=zab l;have HV:=hid (zat l w ht hl);have HIRI:Hid (iriT l=(decide (l≠[]) && decide (l.length<=60) && validD l && (rns l).all iriR)):=by
  show iriT l=_;unfold iriT;rw[znJ]
 obtain ⟨B,hB⟩:∃B,iriT l=B:=⟨_,rfl⟩;rw[hB]at HIRI ⊢;clear hB;by_cases hv:validD l=true
 · rw[hv]at HV;by_cases h0:l=[]
   · subst h0;have HB:Hid (B=false):=HIRI.out.trans (by simp);have hz0:((0:Nat):Int)<1:=(by omega);clear HIRI;go_enter func162,ntmps162
     go_wp2_with fail
     refine HV.out.mono ?_;rintro e w1 ⟨rfl,hb1⟩;go_wp2;go_ret;exact ⟨by rw[HB.out];rfl,hb1⟩
   · have hpos:=List.length_pos_iff.2 h0;have hz1:¬(l.length:Int)<1:=(by omega);by_cases h60:60<l.length
     · have HB:Hid (B=false):=HIRI.out.trans (by rw[dF (show ¬l.length<=60 by omega)];simp);have hz2:(60:Int)<(l.length:Int):=(by omega);clear HIRI h0 hpos h60;go_enter func162,ntmps162
       go_wp2_with fail
       refine HV.out.mono ?_;rintro e w1 ⟨rfl,hb1⟩;go_wp2;go_ret;exact ⟨by rw[HB.out];rfl,hb1⟩
     · have HB:Hid (B=(rns l).all iriR):=HIRI.out.trans (by rw[dT h0,dT (show l.length<=60 by omega),hv];rfl);have hz2:¬(60:Int)<(l.length:Int):=(by omega);have HRS:=hid fun W=>zjY W l hl;have hrs:(rns l).length<=60:=(by have:=zj3 l;omega);clear HIRI h0 hpos h60 hv;generalize rns l=rs at HB HRS hrs;go_enter func162,ntmps162
       go_wp2_with fail
       refine HV.out.mono ?_;rintro e w1 ⟨rfl,hb1⟩;obtain ⟨cap,t,hcv⟩:=HRS.out w1;have hc0:∀j (hj:j<rs.length),((w1.alloc (.cells ((rs.map fun (c:Nat)=>Value.int .i32 (c:Int)).toArray++t) 21)).drew).cell? ⟨w1.heap.size,j,none⟩=some (.int .i32 (rs[j]:Int)):=fun j hj=>by
        have:=World.cell?_alloc_mark w1.drew ((rs.map fun (c:Nat)=>Value.int .i32 (c:Int)).toArray++t) 21 (0,0) j;refine Eq.trans this ?_;rw[Array.getElem?_append_left (by simpa using hj)];simp[hj]
       have hb2:Below w.heap.size w ((w1.alloc (.cells ((rs.map fun (c:Nat)=>Value.int .i32 (c:Int)).toArray++t) 21)).drew):=(hb1.alloc hb1.size _).trans ((zaK _ 1).mono (hb1.alloc hb1.size _).size);go_wp2;clear hcv HV HRS;generalize (w1.alloc (.cells ((rs.map fun (c:Nat)=>Value.int .i32 (c:Int)).toArray++t) 21)).drew=w2 at hc0 hb2 ⊢;generalize w1.heap.size=g at hc0 ⊢;have HC0:=hid hc0;have HB2:=hid hb2;clear hc0 hb2;go_loopw [4] (fun v4 wr=>∃k:Nat,v4=.int .i64 k/\k<=rs.length/\Hid (B=(rs.drop k).all iriR)/\Below w2.heap.size w2 wr) (fun v4 _=>rs.length-(intOf v4).toNat)
       case atStart=>exact ⟨0,rfl,Nat.zero_le _,hid (by rw[List.drop_zero];exact HB.out),br⟩
       case round=>
        obtain ⟨k,rfl,hk,HG,hb⟩:=hrel;have HBR:=hid hb;have HBW:=hid (HB2.out.trans (hb.mono HB2.out.size));by_cases hlt:k<rs.length
        · have hc:=HC0.out k hlt;have hc':=(HBR.out.cell (World.block_lt_of_cell? w2 _ hc)).trans hc;have hdc:rs.drop k=rs[k]::rs.drop (k+1):=List.drop_eq_getElem_cons hlt;have hg:=HG.out;rw[hdc,List.all_cons]at hg;clear hc hdc hb HG;generalize rs[k]=x at hc' hg;have HX:=hid fun W=>zfs x W;generalize iriR x=y at HX hg;cases y with
          | true=>
           rw[Bool.true_and]at hg;have HG:=hid hg;clear hg;go_wp2_with fail
           refine (HX.out _).mono ?_;rintro v w3 ⟨rfl,m,rfl⟩;have HB3:=hid (HBR.out.trans ((zaK wr m).mono HBR.out.size));go_wp2;go_roundw
           case rel=>exact ⟨k+1,by go_num,by omega,HG,HB3.out⟩
           case measure=>simp[intOf];omega
          | false=>
           rw[Bool.false_and]at hg;have HG:=hid hg;clear hg;go_wp2_with fail
           refine (HX.out _).mono ?_;rintro v w3 ⟨rfl,m,rfl⟩;have HB3:=hid (HBW.out.trans ((zaK wr m).mono HBW.out.size));go_wp2;go_ret;exact ⟨by rw[HG.out];rfl,HB3.out⟩
        · obtain rfl:k=rs.length:=(by omega);have HG2:Hid (B=true):=HG.out.trans (by rw[List.drop_length];rfl);clear HG hb;go_wp2;go_ret;exact ⟨by rw[HG2.out];rfl,HBW.out⟩
 · have hvf:validD l=false:=(by simpa using hv);rw[hvf]at HV;have HB:Hid (B=false):=HIRI.out.trans (by rw[hvf];simp);clear HIRI hv hvf;go_enter func162,ntmps162
   go_wp2_with fail
   refine HV.out.mono ?_;rintro e w1 ⟨rfl,hb1⟩;go_wp2;go_ret;exact ⟨by rw[HB.out];rfl,hb1⟩
end Go.Proofs.YtaeiifngjglchaaGreatDoor
end
