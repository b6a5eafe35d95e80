/- Proved on the way: Package lines: One; What a shown term is: valid bytes; which; A text's lines read one by one: plain Le; A triple as a map's key. Each theorem states its own conditions. -/
import Derived.Test.YtaeiifngjglchaaGreatDoorM13
import Derived.Test.YtaeiifngjglchaaGreatDoorM9
import Derived.DeepKeys5
set_option maxHeartbeats 16000000
set_option maxRecDepth 1000000
section
namespace Go.Proofs.YtaeiifngjglchaaGreatDoor.Tv
open Go.Proofs.Tryz
open Go.Lib
def threeV (nl:Bool) (l:Bs):Option (Tri × Bs):=
 (termV nl l).bind fun s=>(termV nl (blk s.2)).bind fun p=>(termV nl (blk p.2)).map fun o=>(⟨s.1,p.1,o.1⟩,blk o.2)
def tailV (t:Tri):Bs->Option (Option Tri)
 | 46::r=>if ovr (blk r) && triT t then some (some t) else none
 | _=>none
def oneV (nl:Bool) (l:Bs):Option (Option Tri):=
 if validD l then if ovr (blk l) then some none else (threeV nl (blk l)).bind fun q=>tailV q.1 q.2 else none
theorem zlB {nl:Bool} {l:Bs} (h:termV nl l=none):threeV nl l=none:=by unfold threeV;rw[h];rfl
theorem zlA {nl:Bool} {l r:Bs} {s:Tm} (h:termV nl l=some (s,r)) (h2:termV nl (blk r)=none):threeV nl l=none:=by unfold threeV;rw[h,Option.bind_some,h2];rfl
theorem zlz {nl:Bool} {l r r':Bs} {s p:Tm} (h:termV nl l=some (s,r)) (h2:termV nl (blk r)=some (p,r')) (h3:termV nl (blk r')=none):threeV nl l=none:=by unfold threeV;rw[h,Option.bind_some,h2,Option.bind_some,h3];rfl
theorem zjJ {nl:Bool} {l r r' r'':Bs} {s p o:Tm} (h:termV nl l=some (s,r)) (h2:termV nl (blk r)=some (p,r')) (h3:termV nl (blk r')=some (o,r'')):threeV nl l=some (⟨s,p,o⟩,blk r''):=by unfold threeV;rw[h,Option.bind_some,h2,Option.bind_some,h3];rfl
theorem ziR (t:Tri) (r:Bs) (h:¬∃r2,r=46::r2):tailV t r=none:=by
 unfold tailV;split
 · rename_i r2;exact absurd ⟨r2,rfl⟩ h
 · rfl
theorem zkt {nl:Bool} {l r:Bs} {t:Tm} (h:litT nl l=some (t,r)):r.length<=l.length:=by
 unfold litT at h;cases hx:upTo true 34 true l with
 | none=>rw[hx]at h;cases h
 | some p=>
  rw[hx,Option.bind_some]at h;have h1:=zaE hx;obtain ⟨x,q⟩:=p;simp only at h h1;split at h
  · rename_i r';cases h
    have h3:=(List.dropWhile_sublist isTag (l:=r')).length_le;simp only[List.length_cons]at h1;omega
  · rename_i r';split at h
    · rename_i r'';cases hy:upTo nl 62 false r'' with
      | none=>rw[hy]at h;cases h
      | some q=>
       rw[hy,Option.map_some]at h;have h2:=zaE hy;cases h
       simp only[List.length_cons]at h1 ⊢;omega
    · cases h
  · cases h
    omega
theorem zfM {nl:Bool} {l r:Bs} {t:Tm} (h:termT nl l=some (t,r)):t.x.length<=4*l.length/\t.e.length<=16*l.length/\r.length<=l.length:=by
 by_cases h1:∃r,l=60::r
 · obtain ⟨r',rfl⟩:=h1;cases hy:upTo nl 62 false r' with
   | none=>rw[zbN hy]at h;cases h
   | some q=>
    rw[zfN (x:=q.1) (q:=q.2) hy]at h;have h2:=zaE hy;cases h
    simp only[List.length_cons,List.length_nil]at *;omega
 by_cases h2:∃r,l=95::58::r
 · obtain ⟨r',rfl⟩:=h2;rw[zbS]at h;cases h
   have h3:=(List.takeWhile_sublist isAl (l:=r')).length_le;have h4:=(List.dropWhile_sublist isAl (l:=r')).length_le;simp only[List.length_cons,List.length_nil]at *;omega
 by_cases h3:∃r,l=34::r
 · obtain ⟨r',rfl⟩:=h3;rw[zdp]at h;have h4:=zil h;have h5:=zkt h;simp only[List.length_cons]at *;omega
 rw[zbR nl l h1 h2 h3]at h;cases h
theorem zdl {nl:Bool} {l r:Bs} {t:Tm} (h:termV nl l=some (t,r)):termT nl l=some (t,r)/\tmT t=true:=by
 unfold termV at h;cases hx:termT nl l with
 | none=>rw[hx]at h;cases h
 | some p=>
  rw[hx,Option.bind_some]at h;split at h
  · cases h
    exact ⟨rfl,by assumption⟩
  · cases h
theorem zdn {nl:Bool} {l r:Bs} {t:Tm} (h:termV nl l=some (t,r)):r.length<=l.length:=(zfM (zdl h).1).2.2
theorem zkA (b:UInt8) (h:128<=b.toNat):isBl b=false:=by
 unfold isBl;cases h1:(b == 32) with
 | true=>rw[beq_iff_eq]at h1;subst h1;revert h;decide
 | false=>
  cases h2:(b == 9) with
  | true=>rw[beq_iff_eq]at h2;subst h2;revert h;decide
  | false=>rfl
theorem zcp (l:Bs) (h:validD l=true):validD (blk l)=true:=zcs zkA l h
theorem zb0 (l:Bs):(blk l).length<=l.length:=(List.dropWhile_sublist isBl).length_le
end Go.Proofs.YtaeiifngjglchaaGreatDoor.Tv
namespace Go.Proofs.YtaeiifngjglchaaGreatDoor
open Go.Proofs.Tryz
open Go.RowKit Go.Lib Tv
structure A9 (W:World) (b ty:Nat) (v0 v1 v2 v3 v4 v5 v6 v7 v8:Value):Prop where
 h:W.heap[b]?=some (.cells #[v0,v1,v2,v3,v4,v5,v6,v7,v8] ty (0,0))
section
variable {W W1:World} {b ty:Nat} {v0 v1 v2 v3 v4 v5 v6 v7 v8:Value} {S:Nat->Prop}
theorem A9.new (W:World) (ty:Nat) (v0 v1 v2 v3 v4 v5 v6 v7 v8:Value):A9 (W.alloc (.cells #[v0,v1,v2,v3,v4,v5,v6,v7,v8] ty)) W.heap.size ty v0 v1 v2 v3 v4 v5 v6 v7 v8:=⟨heap_alloc_new W _⟩
theorem A9.fr (h:A9 W b ty v0 v1 v2 v3 v4 v5 v6 v7 v8) (hf:Fr W W1 S) (hn:¬S b):A9 W1 b ty v0 v1 v2 v3 v4 v5 v6 v7 v8:=⟨hf.heap h.h hn⟩
theorem A9.c0 (h:A9 W b ty v0 v1 v2 v3 v4 v5 v6 v7 v8):W.cell? ⟨b,0,none⟩=some v0:=by rw[cell_of_heap h.h];rfl
theorem A9.c1 (h:A9 W b ty v0 v1 v2 v3 v4 v5 v6 v7 v8):W.cell? ⟨b,1,none⟩=some v1:=by rw[cell_of_heap h.h];rfl
theorem A9.c2 (h:A9 W b ty v0 v1 v2 v3 v4 v5 v6 v7 v8):W.cell? ⟨b,2,none⟩=some v2:=by rw[cell_of_heap h.h];rfl
theorem A9.c3 (h:A9 W b ty v0 v1 v2 v3 v4 v5 v6 v7 v8):W.cell? ⟨b,3,none⟩=some v3:=by rw[cell_of_heap h.h];rfl
theorem A9.c4 (h:A9 W b ty v0 v1 v2 v3 v4 v5 v6 v7 v8):W.cell? ⟨b,4,none⟩=some v4:=by rw[cell_of_heap h.h];rfl
theorem A9.c5 (h:A9 W b ty v0 v1 v2 v3 v4 v5 v6 v7 v8):W.cell? ⟨b,5,none⟩=some v5:=by rw[cell_of_heap h.h];rfl
theorem A9.c6 (h:A9 W b ty v0 v1 v2 v3 v4 v5 v6 v7 v8):W.cell? ⟨b,6,none⟩=some v6:=by rw[cell_of_heap h.h];rfl
theorem A9.c7 (h:A9 W b ty v0 v1 v2 v3 v4 v5 v6 v7 v8):W.cell? ⟨b,7,none⟩=some v7:=by rw[cell_of_heap h.h];rfl
theorem A9.c8 (h:A9 W b ty v0 v1 v2 v3 v4 v5 v6 v7 v8):W.cell? ⟨b,8,none⟩=some v8:=by rw[cell_of_heap h.h];rfl
theorem A9.f (h:A9 W b ty v0 v1 v2 v3 v4 v5 v6 v7 v8) (j:Nat):W.frozen? ⟨b,j,none⟩=false:=frozen_of_heap h.h j
theorem A9.lt (h:A9 W b ty v0 v1 v2 v3 v4 v5 v6 v7 v8):b<W.heap.size:=(Array.getElem?_eq_some_iff.1 h.h).1
theorem A9.put0 (h:A9 W b ty v0 v1 v2 v3 v4 v5 v6 v7 v8) (u0 u1 u2:Value):A9 (((W.setCell ⟨b,0,none⟩ u0).setCell ⟨b,1,none⟩ u1).setCell ⟨b,2,none⟩ u2) b ty u0 u1 u2 v3 v4 v5 v6 v7 v8:=⟨by simp[World.setCell,Array.getElem?_modify,h.h]⟩
theorem A9.put1 (h:A9 W b ty v0 v1 v2 v3 v4 v5 v6 v7 v8) (u0 u1 u2:Value):A9 (((W.setCell ⟨b,3,none⟩ u0).setCell ⟨b,4,none⟩ u1).setCell ⟨b,5,none⟩ u2) b ty v0 v1 v2 u0 u1 u2 v6 v7 v8:=⟨by simp[World.setCell,Array.getElem?_modify,h.h]⟩
theorem A9.put2 (h:A9 W b ty v0 v1 v2 v3 v4 v5 v6 v7 v8) (u0 u1 u2:Value):A9 (((W.setCell ⟨b,6,none⟩ u0).setCell ⟨b,7,none⟩ u1).setCell ⟨b,8,none⟩ u2) b ty v0 v1 v2 v3 v4 v5 u0 u1 u2:=⟨by simp[World.setCell,Array.getElem?_modify,h.h]⟩
theorem A9.put (h:A9 W b ty v0 v1 v2 v3 v4 v5 v6 v7 v8) (u0 u1 u2 u3 u4 u5 u6 u7 u8:Value):A9 (((((((((W.setCell ⟨b,0,none⟩ u0).setCell ⟨b,1,none⟩ u1).setCell ⟨b,2,none⟩ u2).setCell ⟨b,3,none⟩ u3).setCell ⟨b,4,none⟩ u4).setCell ⟨b,5,none⟩ u5).setCell ⟨b,6,none⟩ u6).setCell ⟨b,7,none⟩ u7).setCell ⟨b,8,none⟩ u8) b ty u0 u1 u2 u3 u4 u5 u6 u7 u8:=⟨by simp[World.setCell,Array.getElem?_modify,h.h]⟩
theorem ze9 (W:World) (b:Nat) (u0 u1 u2:Value):Fr W (((W.setCell ⟨b,0,none⟩ u0).setCell ⟨b,1,none⟩ u1).setCell ⟨b,2,none⟩ u2) (fun k=>k=b):=
 ((Fr.set1 W b 0 u0).then_ (Fr.set1 _ b 1 u1) fun _ h=>.inl h).then_ (Fr.set1 _ b 2 u2) fun _ h=>.inl h
theorem zb9 (W:World) (b:Nat) (u0 u1 u2:Value):Fr W (((W.setCell ⟨b,3,none⟩ u0).setCell ⟨b,4,none⟩ u1).setCell ⟨b,5,none⟩ u2) (fun k=>k=b):=
 ((Fr.set1 W b 3 u0).then_ (Fr.set1 _ b 4 u1) fun _ h=>.inl h).then_ (Fr.set1 _ b 5 u2) fun _ h=>.inl h
theorem zbB (W:World) (b:Nat) (u0 u1 u2:Value):Fr W (((W.setCell ⟨b,6,none⟩ u0).setCell ⟨b,7,none⟩ u1).setCell ⟨b,8,none⟩ u2) (fun k=>k=b):=
 ((Fr.set1 W b 6 u0).then_ (Fr.set1 _ b 7 u1) fun _ h=>.inl h).then_ (Fr.set1 _ b 8 u2) fun _ h=>.inl h
theorem sets9 (W:World) (b:Nat) (u0 u1 u2 u3 u4 u5 u6 u7 u8:Value):Fr W (((((((((W.setCell ⟨b,0,none⟩ u0).setCell ⟨b,1,none⟩ u1).setCell ⟨b,2,none⟩ u2).setCell ⟨b,3,none⟩ u3).setCell ⟨b,4,none⟩ u4).setCell ⟨b,5,none⟩ u5).setCell ⟨b,6,none⟩ u6).setCell ⟨b,7,none⟩ u7).setCell ⟨b,8,none⟩ u8) (fun k=>k=b):=
 ((((((((Fr.set1 W b 0 u0).then_ (Fr.set1 _ b 1 u1) fun _ h=>.inl h).then_ (Fr.set1 _ b 2 u2) fun _ h=>.inl h).then_ (Fr.set1 _ b 3 u3) fun _ h=>.inl h).then_ (Fr.set1 _ b 4 u4) fun _ h=>.inl h).then_ (Fr.set1 _ b 5 u5) fun _ h=>.inl h).then_ (Fr.set1 _ b 6 u6) fun _ h=>.inl h).then_ (Fr.set1 _ b 7 u7) fun _ h=>.inl h).then_ (Fr.set1 _ b 8 u8) fun _ h=>.inl h
end
theorem zf0 {P:Program} {fn:Func} {p u v:Tmp} {ty:TypeId} (h:fn.results=#[.cell p ty,.tmp u,.tmp v]) (tmps:Array Value) (w:World) (g:Nat) (t:TypeId) (cs:Array Value) (fr:Nat × Nat) (d:TypeDesc)
    (hp:tmps.getD p undef=.pointer (some ⟨g,0,none⟩)) (hg:w.heap[g]?=some (.cells cs t fr))
    (hu:P.underlying ty=some d) (hd:(match d with | .struct _ | .array _ _=>true | _=>false)=true) (hi:(P.info? ty).map (·.size)=some cs.size) :
    (results fn tmps).run P w=.ok (.tuple #[.agg cs,tmps.getD u undef,tmps.getD v undef]) w:=by
 have hp':tmps[p]?.getD undef=.pointer (some ⟨g,0,none⟩):=(by simpa using hp);simp[results,h,hp',asAddr,run_loadVar_row w g t ty cs fr d hg hu hd hi]
theorem zaO {fn:Func} {p u v:Tmp} (h:fn.results=#[.cell p 110,.tmp u,.tmp v]) {a:Act} {w:World} {R:Ending->World->Prop} (hd:a.defers=[]) {B:Nat} {v0 v1 v2 v3 v4 v5 v6 v7 v8:Value}
    (hp:a.tmps.getD p undef=.pointer (some ⟨B,0,none⟩)) (ht:A9 w B 110 v0 v1 v2 v3 v4 v5 v6 v7 v8) (hR:R (.returned (.tuple #[.agg #[v0,v1,v2,v3,v4,v5,v6,v7,v8],a.tmps.getD u undef,a.tmps.getD v undef])) w):bodyPost prog fn R .ret a w:=
 bodyPost_ret (zf0 h _ _ B 110 #[v0,v1,v2,v3,v4,v5,v6,v7,v8] (0,0) _ hp ht.h underlying110 rfl (by kernel_rfl)) hd hR
theorem zdm {nl:Bool} {l r:Bs} {t:Tm} (h:termV nl l=some (t,r)) (hl:l.length<=50000):Sml t:=by
 have:=zfM (zdl h).1;exact ⟨by omega,by omega⟩
def Nw (w:World):Nat->Prop:=fun k=>w.heap.size<=k
theorem Fr.nw {w w1 w2:World} {S:Nat->Prop} (h:Fr w w1 (Nw w)) (k:Fr w1 w2 S) (hs:∀k,S k->w.heap.size<=k):Fr w w2 (Nw w):=h.then_ k fun i hi=>.inl (hs i hi)
theorem Fr.nw_below {w w1:World} (h:Fr w w1 (Nw w)):Below w.heap.size w w1:=⟨h.os,h.tape,h.output,h.size,fun k hk=>h.keep k hk fun h=>by unfold Nw at h;omega⟩
def OneOut (o:Option (Option Tri)) (v:Ending):Prop:=
 v=.returned (match o with
  | none=>.tuple #[.agg #[.int .i64 0,.string ⟨#[]⟩,.string ⟨#[]⟩,.int .i64 0,.string ⟨#[]⟩,.string ⟨#[]⟩,.int .i64 0,.string ⟨#[]⟩,.string ⟨#[]⟩],.bool false,.bool false]
  | some none=>.tuple #[.agg #[.int .i64 0,.string ⟨#[]⟩,.string ⟨#[]⟩,.int .i64 0,.string ⟨#[]⟩,.string ⟨#[]⟩,.int .i64 0,.string ⟨#[]⟩,.string ⟨#[]⟩],.bool false,.bool true]
  | some (some t)=>.tuple #[.agg (encTri t).toArray,.bool true,.bool true])
def Good (wr:World) (l1:Bs) (g b6:Nat):Nat->Prop
 | 0=>Rdr wr g l1 false/\validD l1=true/\A9 wr b6 154 (.int .i64 0) (.string ⟨#[]⟩) (.string ⟨#[]⟩) (.int .i64 0) (.string ⟨#[]⟩) (.string ⟨#[]⟩) (.int .i64 0) (.string ⟨#[]⟩) (.string ⟨#[]⟩)
 | 1=>∃s r,termV false l1=some (s,r)/\r.length<=l1.length/\Rdr wr g (blk r) false/\validD (blk r)=true/\Sml s/\A9 wr b6 154 (.int .i64 s.k) (.string (str s.x)) (.string (str s.e)) (.int .i64 0) (.string ⟨#[]⟩) (.string ⟨#[]⟩) (.int .i64 0) (.string ⟨#[]⟩) (.string ⟨#[]⟩)
 | 2=>∃s p r r',termV false l1=some (s,r)/\termV false (blk r)=some (p,r')/\r'.length<=l1.length/\Rdr wr g (blk r') false/\validD (blk r')=true/\Sml s/\Sml p/\A9 wr b6 154 (.int .i64 s.k) (.string (str s.x)) (.string (str s.e)) (.int .i64 p.k) (.string (str p.x)) (.string (str p.e)) (.int .i64 0) (.string ⟨#[]⟩) (.string ⟨#[]⟩)
 | _=>∃s p o r,threeV false l1=some (⟨s,p,o⟩,r)/\Rdr wr g r false/\validD r=true/\SmlT ⟨s,p,o⟩/\A9 wr b6 154 (.int .i64 s.k) (.string (str s.x)) (.string (str s.e)) (.int .i64 p.k) (.string (str p.x)) (.string (str p.e)) (.int .i64 o.k) (.string (str o.x)) (.string (str o.e))
def Wrong (wr:World) (N:Prop) (g b6:Nat):Prop:=
 N/\∃q,Rdr wr g q true/\∃(v0:Int) (v1 v2:ByteArray) (v3:Int) (v4 v5:ByteArray) (v6:Int) (v7 v8:ByteArray),A9 wr b6 154 (.int .i64 v0) (.string v1) (.string v2) (.int .i64 v3) (.string v4) (.string v5) (.int .i64 v6) (.string v7) (.string v8)
structure OInv (w wr:World) (l1:Bs) (Y N:Prop) (g b6 k:Nat):Prop where
 fr:Fr w wr (Nw w)
 t2:A9 wr w.heap.size 110 (.int .i64 0) (.string ⟨#[]⟩) (.string ⟨#[]⟩) (.int .i64 0) (.string ⟨#[]⟩) (.string ⟨#[]⟩) (.int .i64 0) (.string ⟨#[]⟩) (.string ⟨#[]⟩)
 st:(threeV false l1=none->N)/\((Y/\Good wr l1 g b6 k)\/Wrong wr N g b6)
theorem zgb (l:Bs) (w:World) (h4:4<=w.heap.size) (ht:Lay w) (hl:l.length<=50000) :
    Calls prog 48 #[.string (str l)] w fun v w'=>Below w.heap.size w w'/\OneOut (oneV false l) v:=by
 obtain ⟨wa,hwa⟩:∃wa,w.alloc (.cells #[.int .i64 0,.string ⟨#[]⟩,.string ⟨#[]⟩,.int .i64 0,.string ⟨#[]⟩,.string ⟨#[]⟩,.int .i64 0,.string ⟨#[]⟩,.string ⟨#[]⟩] 110)=wa:=⟨_,rfl⟩;have hba:Below w.heap.size w wa:=(by rw[<-hwa];exact br.alloc nL _);have hna:wa.heap.size=w.heap.size+1:=(by rw[<-hwa];simp);have t2a:A9 wa w.heap.size 110 (.int .i64 0) (.string ⟨#[]⟩) (.string ⟨#[]⟩) (.int .i64 0) (.string ⟨#[]⟩) (.string ⟨#[]⟩) (.int .i64 0) (.string ⟨#[]⟩) (.string ⟨#[]⟩):=(by rw[<-hwa];exact A9.new _ _ _ _ _ _ _ _ _ _ _);have HVC:=hid (zat l wa (ht.below hba) (by omega));have HL:=hid ht;have HFA:=hid ((Fr.of_below hba (Nw w)));have HT2A:=hid t2a;clear ht hba t2a;obtain ⟨y,hy⟩:∃y,validD l=y:=⟨_,rfl⟩;rw[hy]at HVC;go_enter func48,ntmps48
 go_wp2_with fail
 refine HVC.out.mono ?_;rintro v w1 ⟨rfl,hb1⟩;obtain ⟨wb,hwb⟩:∃wb,w1.alloc (.cells #[.string (str l),.bool (!y)] 186)=wb:=⟨_,rfl⟩;have hn1:=hb1.size;have hbb:Below w1.heap.size w1 wb:=(by rw[<-hwb];exact br.alloc nL _);have hr:=Rdr.new w1 l (!y) (by omega);rw[hwb]at hr;have HB:=hid (zan w1.heap.size l (!y) wb hr);have HFB:=hid ((HFA.out.step hb1).step hbb);have HT2B:=hid ((HT2A.out.fr (Fr.of_below hb1 fun _=>False) fun h=>h).fr (Fr.of_below hbb fun _=>False) fun h=>h);clear hbb hr hb1;go_wp2_with fail
 refine HB.out.mono ?_;rintro v w2 ⟨rfl,hr2,hf2⟩;have HO:=hid (zbF _ _ _ _ hr2);have hn2:=hf2.size;have HF2:=hid (HFB.out.nw hf2 fun k h=>by omega);have HT2C:=hid (HT2B.out.fr hf2 (by omega));have HR2:=hid hr2;have HG:=hid hr2.lt;clear hf2 hr2;go_wp2_with fail
 refine HO.out.mono ?_;rintro v w3 ⟨rfl,hb3⟩;have hn3:=hb3.size;have HF3:=hid (HF2.out.step hb3);have HT2D:=hid (HT2C.out.fr (Fr.of_below hb3 fun _=>False) fun h=>h);have HR3:=hid (HR2.out.below hb3);have hgl:=HG.out;clear hb3 HG;obtain ⟨yo,hyo⟩:∃yo,(!!y && ovr (if (!y)=true then l else blk l))=yo:=⟨_,rfl⟩;rw[hyo];have HYO:=hid hyo;clear hyo;cases yo
 case true=>
  have hyy:y=true/\ovr (blk l)=true:=by
   have:=HYO.out;cases y<;>simp_all
  have hspec:oneV false l=some none:=by
   unfold oneV;rw[hy,if_pos hyy.1,if_pos hyy.2]
  have HSP:=hid hspec;clear hspec hyy;have c20:=HT2D.out.c0;have c21:=HT2D.out.c1;have c22:=HT2D.out.c2;have c23:=HT2D.out.c3;have c24:=HT2D.out.c4;have c25:=HT2D.out.c5;have c26:=HT2D.out.c6;have c27:=HT2D.out.c7;have c28:=HT2D.out.c8;have f20:=HT2D.out.f 0;have f21:=HT2D.out.f 1;have f22:=HT2D.out.f 2;have f23:=HT2D.out.f 3;have f24:=HT2D.out.f 4;have f25:=HT2D.out.f 5;have f26:=HT2D.out.f 6;have f27:=HT2D.out.f 7;have f28:=HT2D.out.f 8;go_wp2
  (try simp only[Exit.inBlock,Exit.then])
  refine zaO rfl rfl rfl (HT2D.out.put (.int .i64 0) (.string ⟨#[]⟩) (.string ⟨#[]⟩) (.int .i64 0) (.string ⟨#[]⟩) (.string ⟨#[]⟩) (.int .i64 0) (.string ⟨#[]⟩) (.string ⟨#[]⟩)) ?_;refine ⟨(HF3.out.nw (sets9 w3 w.heap.size (.int .i64 0) (.string ⟨#[]⟩) (.string ⟨#[]⟩) (.int .i64 0) (.string ⟨#[]⟩) (.string ⟨#[]⟩) (.int .i64 0) (.string ⟨#[]⟩) (.string ⟨#[]⟩)) fun k h=>by omega).nw_below,?_⟩;rw[HSP.out];rfl
 case false=>
  obtain ⟨l1,hl1⟩:∃l1,(if (!y)=true then l else blk l)=l1:=⟨_,rfl⟩;rw[hl1]at HR3 HYO;have hl1len:l1.length<=50000:=by
   have:=zb0 l;rw[<-hl1];split<;>omega
  obtain ⟨wc,hwc⟩:∃wc,w3.alloc (.cells #[.int .i64 0,.string ⟨#[]⟩,.string ⟨#[]⟩,.int .i64 0,.string ⟨#[]⟩,.string ⟨#[]⟩,.int .i64 0,.string ⟨#[]⟩,.string ⟨#[]⟩] 154)=wc:=⟨_,rfl⟩;have hbc:Below w3.heap.size w3 wc:=(by rw[<-hwc];exact br.alloc nL _);have t6:A9 wc w3.heap.size 154 (.int .i64 0) (.string ⟨#[]⟩) (.string ⟨#[]⟩) (.int .i64 0) (.string ⟨#[]⟩) (.string ⟨#[]⟩) (.int .i64 0) (.string ⟨#[]⟩) (.string ⟨#[]⟩):=(by rw[<-hwc];exact A9.new _ _ _ _ _ _ _ _ _ _ _);have hinv:OInv w wc l1 (y=true) (oneV false l=none) w1.heap.size w3.heap.size 0:=by
   refine ⟨HF3.out.step hbc,HT2D.out.fr (Fr.of_below hbc fun _=>False) fun h=>h,?_,?_⟩
   · intro hn;unfold oneV;cases y with
     | false=>rw[hy];rfl
     | true=>
      have hov:ovr l1=false:=(by simpa using HYO.out);rw[hy,if_pos rfl];have e:blk l=l1:=(by simpa using hl1);rw[e,hov,if_neg (by decide),hn];rfl
   · cases y with
     | false=>
      refine .inr ⟨?_,l1,HR3.out.below hbc,_,_,_,_,_,_,_,_,_,t6⟩;unfold oneV;rw[hy];rfl
     | true=>
      have e:blk l=l1:=(by simpa using hl1);exact .inl ⟨rfl,HR3.out.below hbc,by rw[<-e];exact zcp l hy,t6⟩
  have HY1:Hid (∀t r,threeV false l1=some (t,r)->y=true->oneV false l=tailV t r):=fun t r h3 hyt=>by
   subst hyt;unfold oneV;have hov:ovr l1=false:=(by simpa using HYO.out);have e:blk l=l1:=(by simpa using hl1);rw[hy,if_pos rfl,e,hov,if_neg (by decide),h3];rfl
  have HINV:=hid hinv;have HWC:=hid hwc;have hnc:wc.heap.size=w3.heap.size+1:=(by rw[<-hwc];simp);clear hinv hwc hbc t6 hl1 HR3 HR2 HT2D HT2C HT2B HT2A HF3 HF2 HFB HFA HB HO HVC hwb hwa;go_wp2;rw[HWC.out];go_loopw [20] (fun i wr=>∃(k:Nat) (z:Int),i=.int .i64 z/\z=k/\k<=3/\OInv w wr l1 (y=true) (oneV false l=none) w1.heap.size w3.heap.size k) (fun i _=>3-(RowKit.intOf i).toNat)
  case atStart=>exact ⟨0,0,rfl,rfl,by omega,HINV.out⟩
  case round=>
   obtain ⟨k,z,rfl,hzk,hk,hinv⟩:=hrel;have HFR:=hid hinv.fr;have HT2:=hid hinv.t2;have HN:=hid hinv.st.1;have hsz:=hinv.fr.size;have HLR:=hid (HL.out.fr hinv.fr fun k hk h=>by unfold Nw at h;omega);have hst:=hinv.st.2;clear hinv;have hk4:k=0\/k=1\/k=2\/k=3:=(by omega);rcases hk4 with rfl | hk4
   · obtain rfl:z=0:=(by omega);clear hzk hk;rcases hst with hst | hst
     · obtain ⟨hY,hr,hv,h6⟩:=hst;have h6lt:=h6.lt;have HYH:=hid hY;clear hY;have H6:=hid h6;have HTC:=hid (zct w1.heap.size l1 wr hr HLR.out hv (by omega));clear hr hv h6;go_wp2_with fail
       refine HTC.out.mono ?_;rintro v w5 ⟨hf5,⟨s,q,htv,rfl,hr5,hv5⟩ | ⟨htv,jk,js1,js2,q,rfl,hr5⟩⟩
       · unfold encT;have hn5:=hf5.size;have H65:=hid (H6.out.fr hf5 (by omega));have HF5:=hid (HFR.out.nw hf5 fun k h=>by omega);have HT25:=hid (HT2.out.fr hf5 (by omega));have HR5:=hid hr5;have HTV:=hid htv;have HSN:=hid (zdm htv (by omega));have hql:=zdn htv;have HV5:=hid (zcp q hv5);clear hf5 hr5 htv hv5;have c60:=H65.out.c0;have f60:=H65.out.f 0;have c61:=H65.out.c1;have f61:=H65.out.f 1;have c62:=H65.out.c2;have f62:=H65.out.f 2;have hs3:=ze9 w5 w3.heap.size (.int .i64 s.k) (.string (str s.x)) (.string (str s.e));have HR6:=hid (HR5.out.fr hs3 (by omega));have H66:=hid (H65.out.put0 (.int .i64 s.k) (.string (str s.x)) (.string (str s.e)));have HF6:=hid (HF5.out.nw hs3 fun k h=>by omega);have HT26:=hid (HT25.out.fr hs3 (by omega));have HBL:=hid (zan _ _ _ _ HR6.out);clear hs3;go_wp2_with fail
         refine HBL.out.mono ?_;rintro v w6 ⟨rfl,hr6,hf6⟩;have H67:=hid (H66.out.fr hf6 (by omega));have HF7:=hid (HF6.out.nw hf6 fun k h=>by omega);have HT27:=hid (HT26.out.fr hf6 (by omega));have HR7:=hid hr6;clear hf6 hr6;go_wp2;go_round
         case measure=>show 3-(1:Int).toNat<3-(0:Int).toNat;decide
         case rel=>exact ⟨1,1,rfl,rfl,by omega,HF7.out,HT27.out,HN.out,.inl ⟨HYH.out,s,q,HTV.out,hql,HR7.out,HV5.out,HSN.out,H67.out⟩⟩
       · skip
         have hn5:=hf5.size;have H65:=hid (H6.out.fr hf5 (by omega));have HF5:=hid (HFR.out.nw hf5 fun k h=>by omega);have HT25:=hid (HT2.out.fr hf5 (by omega));have HR5:=hid hr5;have HNO:=hid (HN.out (zlB htv));clear hf5 hr5 htv;have c60:=H65.out.c0;have f60:=H65.out.f 0;have c61:=H65.out.c1;have f61:=H65.out.f 1;have c62:=H65.out.c2;have f62:=H65.out.f 2;have hs3:=ze9 w5 w3.heap.size (.int .i64 jk) (.string js1) (.string js2);have HR6:=hid (HR5.out.fr hs3 (by omega));have H66:=hid (H65.out.put0 (.int .i64 jk) (.string js1) (.string js2));have HF6:=hid (HF5.out.nw hs3 fun k h=>by omega);have HT26:=hid (HT25.out.fr hs3 (by omega));have HBL:=hid (zan _ _ _ _ HR6.out);clear hs3;go_wp2_with fail
         refine HBL.out.mono ?_;rintro v w6 ⟨rfl,hr6,hf6⟩;have H67:=hid (H66.out.fr hf6 (by omega));have HF7:=hid (HF6.out.nw hf6 fun k h=>by omega);have HT27:=hid (HT26.out.fr hf6 (by omega));have HR7:=hid hr6;clear hf6 hr6;go_wp2;go_round
         case measure=>show 3-(1:Int).toNat<3-(0:Int).toNat;decide
         case rel=>exact ⟨1,1,rfl,rfl,by omega,HF7.out,HT27.out,HN.out,.inr ⟨HNO.out,q,HR7.out,_,_,_,_,_,_,_,_,_,H67.out⟩⟩
     · obtain ⟨hno,q0,hr,v0,v1,v2,v3,v4,v5,v6,v7,v8,h6⟩:=hst;have h6lt:=h6.lt;have H6:=hid h6;have HNO:=hid hno;have HTC:=hid (ze1 w1.heap.size q0 wr hr HLR.out);clear hr h6 hno;go_wp2_with fail
       refine HTC.out.mono ?_;rintro v w5 ⟨hf5,⟨_,_,htv,_⟩ | ⟨_,jk,js1,js2,q,rfl,hr5⟩⟩
       · cases htv
       · skip
         have hn5:=hf5.size;have H65:=hid (H6.out.fr hf5 (by omega));have HF5:=hid (HFR.out.nw hf5 fun k h=>by omega);have HT25:=hid (HT2.out.fr hf5 (by omega));have HR5:=hid hr5;clear hf5 hr5;have c60:=H65.out.c0;have f60:=H65.out.f 0;have c61:=H65.out.c1;have f61:=H65.out.f 1;have c62:=H65.out.c2;have f62:=H65.out.f 2;have hs3:=ze9 w5 w3.heap.size (.int .i64 jk) (.string js1) (.string js2);have HR6:=hid (HR5.out.fr hs3 (by omega));have H66:=hid (H65.out.put0 (.int .i64 jk) (.string js1) (.string js2));have HF6:=hid (HF5.out.nw hs3 fun k h=>by omega);have HT26:=hid (HT25.out.fr hs3 (by omega));have HBL:=hid (zan _ _ _ _ HR6.out);clear hs3;go_wp2_with fail
         refine HBL.out.mono ?_;rintro v w6 ⟨rfl,hr6,hf6⟩;have H67:=hid (H66.out.fr hf6 (by omega));have HF7:=hid (HF6.out.nw hf6 fun k h=>by omega);have HT27:=hid (HT26.out.fr hf6 (by omega));have HR7:=hid hr6;clear hf6 hr6;go_wp2;go_round
         case measure=>show 3-(1:Int).toNat<3-(0:Int).toNat;decide
         case rel=>exact ⟨1,1,rfl,rfl,by omega,HF7.out,HT27.out,HN.out,.inr ⟨HNO.out,q,HR7.out,_,_,_,_,_,_,_,_,_,H67.out⟩⟩
   rcases hk4 with rfl | hk4
   · obtain rfl:z=1:=(by omega);clear hzk hk;rcases hst with hst | hst
     · obtain ⟨hY,s,r1,hs,hlen,hr,hv,hsm,h6⟩:=hst;have hlb:=zb0 r1;have h6lt:=h6.lt;have HYH:=hid hY;clear hY;have H6:=hid h6;have HTC:=hid (zct w1.heap.size (blk r1) wr hr HLR.out hv (by omega));have HS1:=hid hs;have HSM:=hid hsm;clear hr hv h6 hs hsm;go_wp2_with fail
       refine HTC.out.mono ?_;rintro v w5 ⟨hf5,⟨p,q,htv,rfl,hr5,hv5⟩ | ⟨htv,jk,js1,js2,q,rfl,hr5⟩⟩
       · unfold encT;have hn5:=hf5.size;have H65:=hid (H6.out.fr hf5 (by omega));have HF5:=hid (HFR.out.nw hf5 fun k h=>by omega);have HT25:=hid (HT2.out.fr hf5 (by omega));have HR5:=hid hr5;have HTV:=hid htv;have HSN:=hid (zdm htv (by omega));have hql:=zdn htv;have HV5:=hid (zcp q hv5);clear hf5 hr5 htv hv5;have c60:=H65.out.c3;have f60:=H65.out.f 3;have c61:=H65.out.c4;have f61:=H65.out.f 4;have c62:=H65.out.c5;have f62:=H65.out.f 5;have hs3:=zb9 w5 w3.heap.size (.int .i64 p.k) (.string (str p.x)) (.string (str p.e));have HR6:=hid (HR5.out.fr hs3 (by omega));have H66:=hid (H65.out.put1 (.int .i64 p.k) (.string (str p.x)) (.string (str p.e)));have HF6:=hid (HF5.out.nw hs3 fun k h=>by omega);have HT26:=hid (HT25.out.fr hs3 (by omega));have HBL:=hid (zan _ _ _ _ HR6.out);clear hs3;go_wp2_with fail
         refine HBL.out.mono ?_;rintro v w6 ⟨rfl,hr6,hf6⟩;have H67:=hid (H66.out.fr hf6 (by omega));have HF7:=hid (HF6.out.nw hf6 fun k h=>by omega);have HT27:=hid (HT26.out.fr hf6 (by omega));have HR7:=hid hr6;clear hf6 hr6;go_wp2;go_round
         case measure=>show 3-(2:Int).toNat<3-(1:Int).toNat;decide
         case rel=>exact ⟨2,2,rfl,rfl,by omega,HF7.out,HT27.out,HN.out,.inl ⟨HYH.out,s,p,r1,q,HS1.out,HTV.out,by omega,HR7.out,HV5.out,HSM.out,HSN.out,H67.out⟩⟩
       · skip
         have hn5:=hf5.size;have H65:=hid (H6.out.fr hf5 (by omega));have HF5:=hid (HFR.out.nw hf5 fun k h=>by omega);have HT25:=hid (HT2.out.fr hf5 (by omega));have HR5:=hid hr5;have HNO:=hid (HN.out (zlA HS1.out htv));clear hf5 hr5 htv;have c60:=H65.out.c3;have f60:=H65.out.f 3;have c61:=H65.out.c4;have f61:=H65.out.f 4;have c62:=H65.out.c5;have f62:=H65.out.f 5;have hs3:=zb9 w5 w3.heap.size (.int .i64 jk) (.string js1) (.string js2);have HR6:=hid (HR5.out.fr hs3 (by omega));have H66:=hid (H65.out.put1 (.int .i64 jk) (.string js1) (.string js2));have HF6:=hid (HF5.out.nw hs3 fun k h=>by omega);have HT26:=hid (HT25.out.fr hs3 (by omega));have HBL:=hid (zan _ _ _ _ HR6.out);clear hs3;go_wp2_with fail
         refine HBL.out.mono ?_;rintro v w6 ⟨rfl,hr6,hf6⟩;have H67:=hid (H66.out.fr hf6 (by omega));have HF7:=hid (HF6.out.nw hf6 fun k h=>by omega);have HT27:=hid (HT26.out.fr hf6 (by omega));have HR7:=hid hr6;clear hf6 hr6;go_wp2;go_round
         case measure=>show 3-(2:Int).toNat<3-(1:Int).toNat;decide
         case rel=>exact ⟨2,2,rfl,rfl,by omega,HF7.out,HT27.out,HN.out,.inr ⟨HNO.out,q,HR7.out,_,_,_,_,_,_,_,_,_,H67.out⟩⟩
     · obtain ⟨hno,q0,hr,v0,v1,v2,v3,v4,v5,v6,v7,v8,h6⟩:=hst;have h6lt:=h6.lt;have H6:=hid h6;have HNO:=hid hno;have HTC:=hid (ze1 w1.heap.size q0 wr hr HLR.out);clear hr h6 hno;go_wp2_with fail
       refine HTC.out.mono ?_;rintro v w5 ⟨hf5,⟨_,_,htv,_⟩ | ⟨_,jk,js1,js2,q,rfl,hr5⟩⟩
       · cases htv
       · skip
         have hn5:=hf5.size;have H65:=hid (H6.out.fr hf5 (by omega));have HF5:=hid (HFR.out.nw hf5 fun k h=>by omega);have HT25:=hid (HT2.out.fr hf5 (by omega));have HR5:=hid hr5;clear hf5 hr5;have c60:=H65.out.c3;have f60:=H65.out.f 3;have c61:=H65.out.c4;have f61:=H65.out.f 4;have c62:=H65.out.c5;have f62:=H65.out.f 5;have hs3:=zb9 w5 w3.heap.size (.int .i64 jk) (.string js1) (.string js2);have HR6:=hid (HR5.out.fr hs3 (by omega));have H66:=hid (H65.out.put1 (.int .i64 jk) (.string js1) (.string js2));have HF6:=hid (HF5.out.nw hs3 fun k h=>by omega);have HT26:=hid (HT25.out.fr hs3 (by omega));have HBL:=hid (zan _ _ _ _ HR6.out);clear hs3;go_wp2_with fail
         refine HBL.out.mono ?_;rintro v w6 ⟨rfl,hr6,hf6⟩;have H67:=hid (H66.out.fr hf6 (by omega));have HF7:=hid (HF6.out.nw hf6 fun k h=>by omega);have HT27:=hid (HT26.out.fr hf6 (by omega));have HR7:=hid hr6;clear hf6 hr6;go_wp2;go_round
         case measure=>show 3-(2:Int).toNat<3-(1:Int).toNat;decide
         case rel=>exact ⟨2,2,rfl,rfl,by omega,HF7.out,HT27.out,HN.out,.inr ⟨HNO.out,q,HR7.out,_,_,_,_,_,_,_,_,_,H67.out⟩⟩
   rcases hk4 with rfl | rfl
   · obtain rfl:z=2:=(by omega);clear hzk hk;rcases hst with hst | hst
     · obtain ⟨hY,s,p,r1,r2,hs,hp,hlen,hr,hv,hsm,hpm,h6⟩:=hst;have hlb:=zb0 r2;have h6lt:=h6.lt;have HYH:=hid hY;clear hY;have H6:=hid h6;have HTC:=hid (zct w1.heap.size (blk r2) wr hr HLR.out hv (by omega));have HS1:=hid hs;have HS2:=hid hp;have HSM:=hid hsm;have HPM:=hid hpm;clear hr hv h6 hs hp hsm hpm;go_wp2_with fail
       refine HTC.out.mono ?_;rintro v w5 ⟨hf5,⟨o,q,htv,rfl,hr5,hv5⟩ | ⟨htv,jk,js1,js2,q,rfl,hr5⟩⟩
       · unfold encT;have hn5:=hf5.size;have H65:=hid (H6.out.fr hf5 (by omega));have HF5:=hid (HFR.out.nw hf5 fun k h=>by omega);have HT25:=hid (HT2.out.fr hf5 (by omega));have HR5:=hid hr5;have HTV:=hid htv;have HSN:=hid (zdm htv (by omega));have hql:=zdn htv;have HV5:=hid (zcp q hv5);clear hf5 hr5 htv hv5;have c60:=H65.out.c6;have f60:=H65.out.f 6;have c61:=H65.out.c7;have f61:=H65.out.f 7;have c62:=H65.out.c8;have f62:=H65.out.f 8;have hs3:=zbB w5 w3.heap.size (.int .i64 o.k) (.string (str o.x)) (.string (str o.e));have HR6:=hid (HR5.out.fr hs3 (by omega));have H66:=hid (H65.out.put2 (.int .i64 o.k) (.string (str o.x)) (.string (str o.e)));have HF6:=hid (HF5.out.nw hs3 fun k h=>by omega);have HT26:=hid (HT25.out.fr hs3 (by omega));have HBL:=hid (zan _ _ _ _ HR6.out);clear hs3;go_wp2_with fail
         refine HBL.out.mono ?_;rintro v w6 ⟨rfl,hr6,hf6⟩;have H67:=hid (H66.out.fr hf6 (by omega));have HF7:=hid (HF6.out.nw hf6 fun k h=>by omega);have HT27:=hid (HT26.out.fr hf6 (by omega));have HR7:=hid hr6;clear hf6 hr6;go_wp2;go_round
         case measure=>show 3-(3:Int).toNat<3-(2:Int).toNat;decide
         case rel=>exact ⟨3,3,rfl,rfl,by omega,HF7.out,HT27.out,HN.out,.inl ⟨HYH.out,s,p,o,blk q,zjJ HS1.out HS2.out HTV.out,HR7.out,HV5.out,⟨HSM.out,HPM.out,HSN.out⟩,H67.out⟩⟩
       · skip
         have hn5:=hf5.size;have H65:=hid (H6.out.fr hf5 (by omega));have HF5:=hid (HFR.out.nw hf5 fun k h=>by omega);have HT25:=hid (HT2.out.fr hf5 (by omega));have HR5:=hid hr5;have HNO:=hid (HN.out (zlz HS1.out HS2.out htv));clear hf5 hr5 htv;have c60:=H65.out.c6;have f60:=H65.out.f 6;have c61:=H65.out.c7;have f61:=H65.out.f 7;have c62:=H65.out.c8;have f62:=H65.out.f 8;have hs3:=zbB w5 w3.heap.size (.int .i64 jk) (.string js1) (.string js2);have HR6:=hid (HR5.out.fr hs3 (by omega));have H66:=hid (H65.out.put2 (.int .i64 jk) (.string js1) (.string js2));have HF6:=hid (HF5.out.nw hs3 fun k h=>by omega);have HT26:=hid (HT25.out.fr hs3 (by omega));have HBL:=hid (zan _ _ _ _ HR6.out);clear hs3;go_wp2_with fail
         refine HBL.out.mono ?_;rintro v w6 ⟨rfl,hr6,hf6⟩;have H67:=hid (H66.out.fr hf6 (by omega));have HF7:=hid (HF6.out.nw hf6 fun k h=>by omega);have HT27:=hid (HT26.out.fr hf6 (by omega));have HR7:=hid hr6;clear hf6 hr6;go_wp2;go_round
         case measure=>show 3-(3:Int).toNat<3-(2:Int).toNat;decide
         case rel=>exact ⟨3,3,rfl,rfl,by omega,HF7.out,HT27.out,HN.out,.inr ⟨HNO.out,q,HR7.out,_,_,_,_,_,_,_,_,_,H67.out⟩⟩
     · obtain ⟨hno,q0,hr,v0,v1,v2,v3,v4,v5,v6,v7,v8,h6⟩:=hst;have h6lt:=h6.lt;have H6:=hid h6;have HNO:=hid hno;have HTC:=hid (ze1 w1.heap.size q0 wr hr HLR.out);clear hr h6 hno;go_wp2_with fail
       refine HTC.out.mono ?_;rintro v w5 ⟨hf5,⟨_,_,htv,_⟩ | ⟨_,jk,js1,js2,q,rfl,hr5⟩⟩
       · cases htv
       · skip
         have hn5:=hf5.size;have H65:=hid (H6.out.fr hf5 (by omega));have HF5:=hid (HFR.out.nw hf5 fun k h=>by omega);have HT25:=hid (HT2.out.fr hf5 (by omega));have HR5:=hid hr5;clear hf5 hr5;have c60:=H65.out.c6;have f60:=H65.out.f 6;have c61:=H65.out.c7;have f61:=H65.out.f 7;have c62:=H65.out.c8;have f62:=H65.out.f 8;have hs3:=zbB w5 w3.heap.size (.int .i64 jk) (.string js1) (.string js2);have HR6:=hid (HR5.out.fr hs3 (by omega));have H66:=hid (H65.out.put2 (.int .i64 jk) (.string js1) (.string js2));have HF6:=hid (HF5.out.nw hs3 fun k h=>by omega);have HT26:=hid (HT25.out.fr hs3 (by omega));have HBL:=hid (zan _ _ _ _ HR6.out);clear hs3;go_wp2_with fail
         refine HBL.out.mono ?_;rintro v w6 ⟨rfl,hr6,hf6⟩;have H67:=hid (H66.out.fr hf6 (by omega));have HF7:=hid (HF6.out.nw hf6 fun k h=>by omega);have HT27:=hid (HT26.out.fr hf6 (by omega));have HR7:=hid hr6;clear hf6 hr6;go_wp2;go_round
         case measure=>show 3-(3:Int).toNat<3-(2:Int).toNat;decide
         case rel=>exact ⟨3,3,rfl,rfl,by omega,HF7.out,HT27.out,HN.out,.inr ⟨HNO.out,q,HR7.out,_,_,_,_,_,_,_,_,_,H67.out⟩⟩
   · obtain rfl:z=3:=(by omega);clear hzk hk;rcases hst with hst | hst
     · obtain ⟨hY,s,p,o,r,h3,hr,hv,hsm,h6⟩:=hst;have h6lt:=h6.lt;have H6:=hid h6;have HSM:=hid hsm;have HSP:=hid (HY1.out _ _ h3 hY);clear h3 hsm h6 hY;by_cases hdot:∃r2,r=46::r2
       · obtain ⟨r2,rfl⟩:=hdot;have HM:=hid (zij w1.heap.size (46::r2) [46] r2 wr hr rfl);rw[show str [46]=(⟨#[46]⟩:ByteArray) from rfl]at HM;clear hr;go_wp2_with fail
         refine HM.out.mono ?_;rintro v w5 ⟨rfl,hr5,hf5⟩;have hn5:=hf5.size;have H65:=hid (H6.out.fr hf5 (by omega));have HF5:=hid (HFR.out.nw hf5 fun k h=>by omega);have HT25:=hid (HT2.out.fr hf5 (by omega));have HR5:=hid hr5;clear hf5 hr5;have HBL:=hid (zan _ _ _ _ HR5.out);go_wp2_with fail
         refine HBL.out.mono ?_;rintro v w6 ⟨rfl,hr6,hf6⟩;have hn6:=hf6.size;have h66:=H65.out.fr hf6 (by omega);have c60:=h66.c0;have c61:=h66.c1;have c62:=h66.c2;have c63:=h66.c3;have c64:=h66.c4;have c65:=h66.c5;have c66:=h66.c6;have c67:=h66.c7;have c68:=h66.c8;have HF6:=hid (HF5.out.nw hf6 fun k h=>by omega);have HT26:=hid (HT25.out.fr hf6 (by omega));obtain ⟨wd,hwd⟩:∃wd,w6.alloc (.cells #[.int .i64 s.k,.string (str s.x),.string (str s.e),.int .i64 p.k,.string (str p.x),.string (str p.e),.int .i64 o.k,.string (str o.x),.string (str o.e)] 110)=wd:=⟨_,rfl⟩;have hbd:Below w6.heap.size w6 wd:=(by rw[<-hwd];exact br.alloc nL _);have hnd:wd.heap.size=w6.heap.size+1:=(by rw[<-hwd];simp);have H8:Hid (A9 wd w6.heap.size 110 (.int .i64 s.k) (.string (str s.x)) (.string (str s.e)) (.int .i64 p.k) (.string (str p.x)) (.string (str p.e)) (.int .i64 o.k) (.string (str o.x)) (.string (str o.e))):=(by rw[<-hwd];exact A9.new _ _ _ _ _ _ _ _ _ _ _);have HRD:=hid (hr6.below hbd);have HFD:=hid (HF6.out.step hbd);have HT2D:=hid (HT26.out.fr (Fr.of_below hbd fun _=>False) fun h=>h);have HOV:=hid (zbF _ _ _ _ HRD.out);have HWD:=hid hwd;clear hr6 hf6 h66 hbd hwd;go_wp2_with fail
         rw[HWD.out];refine HOV.out.mono ?_;rintro v w7 ⟨rfl,hb7⟩;have hn7:=hb7.size;have HF7:=hid (HFD.out.step hb7);have HT27:=hid (HT2D.out.fr (Fr.of_below hb7 fun _=>False) fun h=>h);have H87:=hid (H8.out.fr (Fr.of_below hb7 fun _=>False) fun h=>h);clear hb7;rw[show (!false && ovr (if false=true then r2 else blk r2))=ovr (blk r2) from rfl];have hsp2:oneV false l=if ovr (blk r2) && triT ⟨s,p,o⟩ then some (some ⟨s,p,o⟩) else none:=HSP.out
         have HSP2:=hid hsp2;clear hsp2;cases hov:ovr (blk r2)
         · have hsp:oneV false l=none:=(by rw[HSP2.out,hov];rfl);have HS3:=hid hsp;have HFZ:=HF7;have HT2Z:=HT27;clear hsp;have c20:=HT2Z.out.c0;have c21:=HT2Z.out.c1;have c22:=HT2Z.out.c2;have c23:=HT2Z.out.c3;have c24:=HT2Z.out.c4;have c25:=HT2Z.out.c5;have c26:=HT2Z.out.c6;have c27:=HT2Z.out.c7;have c28:=HT2Z.out.c8;have f20:=HT2Z.out.f 0;have f21:=HT2Z.out.f 1;have f22:=HT2Z.out.f 2;have f23:=HT2Z.out.f 3;have f24:=HT2Z.out.f 4;have f25:=HT2Z.out.f 5;have f26:=HT2Z.out.f 6;have f27:=HT2Z.out.f 7;have f28:=HT2Z.out.f 8;go_wp2
           (try simp only[Exit.inBlock,Exit.then])
           refine zaO rfl rfl rfl (HT2Z.out.put (.int .i64 0) (.string ⟨#[]⟩) (.string ⟨#[]⟩) (.int .i64 0) (.string ⟨#[]⟩) (.string ⟨#[]⟩) (.int .i64 0) (.string ⟨#[]⟩) (.string ⟨#[]⟩)) ?_;refine ⟨(HFZ.out.nw (sets9 w7 w.heap.size (.int .i64 0) (.string ⟨#[]⟩) (.string ⟨#[]⟩) (.int .i64 0) (.string ⟨#[]⟩) (.string ⟨#[]⟩) (.int .i64 0) (.string ⟨#[]⟩) (.string ⟨#[]⟩)) fun k h=>by omega).nw_below,?_⟩;rw[HS3.out];rfl
         · have HIT:=hid (zne ⟨s,p,o⟩ HSM.out w7 (HL.out.fr HF7.out fun k hk h=>by unfold Nw at h;omega));unfold encTri encT at HIT;simp only[List.cons_append,List.nil_append]at HIT;have c80:=H87.out.c0;have c81:=H87.out.c1;have c82:=H87.out.c2;have c83:=H87.out.c3;have c84:=H87.out.c4;have c85:=H87.out.c5;have c86:=H87.out.c6;have c87:=H87.out.c7;have c88:=H87.out.c8;go_wp2_with fail
           refine HIT.out.mono ?_;rintro v w8 ⟨rfl,hb8⟩;have hn8:=hb8.size;have HFZ:=hid (HF7.out.step hb8);have HT2Z:=hid (HT27.out.fr (Fr.of_below hb8 fun _=>False) fun h=>h);have H88:=hid (H87.out.fr (Fr.of_below hb8 fun _=>False) fun h=>h);clear c80 c81 c82 c83 c84 c85 c86 c87 c88;clear hb8;cases htri:triT ⟨s,p,o⟩
           · have hsp:oneV false l=none:=(by rw[HSP2.out,hov,htri];rfl);have HS3:=hid hsp;clear hsp;have c20:=HT2Z.out.c0;have c21:=HT2Z.out.c1;have c22:=HT2Z.out.c2;have c23:=HT2Z.out.c3;have c24:=HT2Z.out.c4;have c25:=HT2Z.out.c5;have c26:=HT2Z.out.c6;have c27:=HT2Z.out.c7;have c28:=HT2Z.out.c8;have f20:=HT2Z.out.f 0;have f21:=HT2Z.out.f 1;have f22:=HT2Z.out.f 2;have f23:=HT2Z.out.f 3;have f24:=HT2Z.out.f 4;have f25:=HT2Z.out.f 5;have f26:=HT2Z.out.f 6;have f27:=HT2Z.out.f 7;have f28:=HT2Z.out.f 8;go_wp2
             (try simp only[Exit.inBlock,Exit.then])
             refine zaO rfl rfl rfl (HT2Z.out.put (.int .i64 0) (.string ⟨#[]⟩) (.string ⟨#[]⟩) (.int .i64 0) (.string ⟨#[]⟩) (.string ⟨#[]⟩) (.int .i64 0) (.string ⟨#[]⟩) (.string ⟨#[]⟩)) ?_;refine ⟨(HFZ.out.nw (sets9 w8 w.heap.size (.int .i64 0) (.string ⟨#[]⟩) (.string ⟨#[]⟩) (.int .i64 0) (.string ⟨#[]⟩) (.string ⟨#[]⟩) (.int .i64 0) (.string ⟨#[]⟩) (.string ⟨#[]⟩)) fun k h=>by omega).nw_below,?_⟩;rw[HS3.out];rfl
           · have hsp:oneV false l=some (some ⟨s,p,o⟩):=(by rw[HSP2.out,hov,htri];rfl);have HS3:=hid hsp;clear hsp;have c20:=HT2Z.out.c0;have c21:=HT2Z.out.c1;have c22:=HT2Z.out.c2;have c23:=HT2Z.out.c3;have c24:=HT2Z.out.c4;have c25:=HT2Z.out.c5;have c26:=HT2Z.out.c6;have c27:=HT2Z.out.c7;have c28:=HT2Z.out.c8;have f20:=HT2Z.out.f 0;have f21:=HT2Z.out.f 1;have f22:=HT2Z.out.f 2;have f23:=HT2Z.out.f 3;have f24:=HT2Z.out.f 4;have f25:=HT2Z.out.f 5;have f26:=HT2Z.out.f 6;have f27:=HT2Z.out.f 7;have f28:=HT2Z.out.f 8;have c80:=H88.out.c0;have c81:=H88.out.c1;have c82:=H88.out.c2;have c83:=H88.out.c3;have c84:=H88.out.c4;have c85:=H88.out.c5;have c86:=H88.out.c6;have c87:=H88.out.c7;have c88:=H88.out.c8;go_wp2
             (try simp only[Exit.inBlock,Exit.then])
             refine zaO rfl rfl rfl (HT2Z.out.put (.int .i64 s.k) (.string (str s.x)) (.string (str s.e)) (.int .i64 p.k) (.string (str p.x)) (.string (str p.e)) (.int .i64 o.k) (.string (str o.x)) (.string (str o.e))) ?_;refine ⟨(HFZ.out.nw (sets9 w8 w.heap.size (.int .i64 s.k) (.string (str s.x)) (.string (str s.e)) (.int .i64 p.k) (.string (str p.x)) (.string (str p.e)) (.int .i64 o.k) (.string (str o.x)) (.string (str o.e))) fun k h=>by omega).nw_below,?_⟩;rw[HS3.out];rfl
       · have HM:=hid (zhs w1.heap.size r [46] false wr hr (.inr fun r2 h2=>hdot ⟨r2,h2⟩));rw[show str [46]=(⟨#[46]⟩:ByteArray) from rfl]at HM;have hsp:oneV false l=none:=by
          rw[HSP.out];exact ziR _ r hdot
         have HS3:=hid hsp;clear hr hsp hdot;go_wp2_with fail
         refine HM.out.mono ?_;rintro v w5 ⟨rfl,hr5,hf5⟩;have hn5:=hf5.size;have H65:=hid (H6.out.fr hf5 (by omega));have HF5:=hid (HFR.out.nw hf5 fun k h=>by omega);have HT25:=hid (HT2.out.fr hf5 (by omega));have HR5:=hid hr5;clear hf5 hr5;have HBL:=hid (zan _ _ _ _ HR5.out);go_wp2_with fail
         refine HBL.out.mono ?_;rintro v w6 ⟨rfl,hr6,hf6⟩;have hn6:=hf6.size;have h66:=H65.out.fr hf6 (by omega);have c60:=h66.c0;have c61:=h66.c1;have c62:=h66.c2;have c63:=h66.c3;have c64:=h66.c4;have c65:=h66.c5;have c66:=h66.c6;have c67:=h66.c7;have c68:=h66.c8;have HF6:=hid (HF5.out.nw hf6 fun k h=>by omega);have HT26:=hid (HT25.out.fr hf6 (by omega));obtain ⟨wd,hwd⟩:∃wd,w6.alloc (.cells #[.int .i64 s.k,.string (str s.x),.string (str s.e),.int .i64 p.k,.string (str p.x),.string (str p.e),.int .i64 o.k,.string (str o.x),.string (str o.e)] 110)=wd:=⟨_,rfl⟩;have hbd:Below w6.heap.size w6 wd:=(by rw[<-hwd];exact br.alloc nL _);have hnd:wd.heap.size=w6.heap.size+1:=(by rw[<-hwd];simp);have H8:Hid (A9 wd w6.heap.size 110 (.int .i64 s.k) (.string (str s.x)) (.string (str s.e)) (.int .i64 p.k) (.string (str p.x)) (.string (str p.e)) (.int .i64 o.k) (.string (str o.x)) (.string (str o.e))):=(by rw[<-hwd];exact A9.new _ _ _ _ _ _ _ _ _ _ _);have HRD:=hid (hr6.below hbd);have HFD:=hid (HF6.out.step hbd);have HT2D:=hid (HT26.out.fr (Fr.of_below hbd fun _=>False) fun h=>h);have HOV:=hid (zbF _ _ _ _ HRD.out);have HWD:=hid hwd;clear hr6 hf6 h66 hbd hwd;go_wp2_with fail
         rw[HWD.out];refine HOV.out.mono ?_;rintro v w7 ⟨rfl,hb7⟩;have hn7:=hb7.size;have HF7:=hid (HFD.out.step hb7);have HT27:=hid (HT2D.out.fr (Fr.of_below hb7 fun _=>False) fun h=>h);have H87:=hid (H8.out.fr (Fr.of_below hb7 fun _=>False) fun h=>h);clear hb7;have HFZ:=HF7;have HT2Z:=HT27;simp only[Bool.not_true,Bool.false_and];have c20:=HT2Z.out.c0;have c21:=HT2Z.out.c1;have c22:=HT2Z.out.c2;have c23:=HT2Z.out.c3;have c24:=HT2Z.out.c4;have c25:=HT2Z.out.c5;have c26:=HT2Z.out.c6;have c27:=HT2Z.out.c7;have c28:=HT2Z.out.c8;have f20:=HT2Z.out.f 0;have f21:=HT2Z.out.f 1;have f22:=HT2Z.out.f 2;have f23:=HT2Z.out.f 3;have f24:=HT2Z.out.f 4;have f25:=HT2Z.out.f 5;have f26:=HT2Z.out.f 6;have f27:=HT2Z.out.f 7;have f28:=HT2Z.out.f 8;go_wp2
         (try simp only[Exit.inBlock,Exit.then])
         refine zaO rfl rfl rfl (HT2Z.out.put (.int .i64 0) (.string ⟨#[]⟩) (.string ⟨#[]⟩) (.int .i64 0) (.string ⟨#[]⟩) (.string ⟨#[]⟩) (.int .i64 0) (.string ⟨#[]⟩) (.string ⟨#[]⟩)) ?_;refine ⟨(HFZ.out.nw (sets9 w7 w.heap.size (.int .i64 0) (.string ⟨#[]⟩) (.string ⟨#[]⟩) (.int .i64 0) (.string ⟨#[]⟩) (.string ⟨#[]⟩) (.int .i64 0) (.string ⟨#[]⟩) (.string ⟨#[]⟩)) fun k h=>by omega).nw_below,?_⟩;rw[HS3.out];rfl
     · obtain ⟨hno,q0,hr,v0,v1,v2,v3,v4,v5,v6,v7,v8,h6⟩:=hst;have h6lt:=h6.lt;have H6:=hid h6;have HS3:=hid hno;have HM:=hid (zhs w1.heap.size q0 [46] true wr hr (.inl rfl));rw[show str [46]=(⟨#[46]⟩:ByteArray) from rfl]at HM;clear hr h6 hno;go_wp2_with fail
       refine HM.out.mono ?_;rintro v w5 ⟨rfl,hr5,hf5⟩;have hn5:=hf5.size;have H65:=hid (H6.out.fr hf5 (by omega));have HF5:=hid (HFR.out.nw hf5 fun k h=>by omega);have HT25:=hid (HT2.out.fr hf5 (by omega));have HR5:=hid hr5;clear hf5 hr5;have HBL:=hid (zan _ _ _ _ HR5.out);go_wp2_with fail
       refine HBL.out.mono ?_;rintro v w6 ⟨rfl,hr6,hf6⟩;have hn6:=hf6.size;have h66:=H65.out.fr hf6 (by omega);have c60:=h66.c0;have c61:=h66.c1;have c62:=h66.c2;have c63:=h66.c3;have c64:=h66.c4;have c65:=h66.c5;have c66:=h66.c6;have c67:=h66.c7;have c68:=h66.c8;have HF6:=hid (HF5.out.nw hf6 fun k h=>by omega);have HT26:=hid (HT25.out.fr hf6 (by omega));obtain ⟨wd,hwd⟩:∃wd,w6.alloc (.cells #[.int .i64 v0,.string v1,.string v2,.int .i64 v3,.string v4,.string v5,.int .i64 v6,.string v7,.string v8] 110)=wd:=⟨_,rfl⟩;have hbd:Below w6.heap.size w6 wd:=(by rw[<-hwd];exact br.alloc nL _);have hnd:wd.heap.size=w6.heap.size+1:=(by rw[<-hwd];simp);have H8:Hid (A9 wd w6.heap.size 110 (.int .i64 v0) (.string v1) (.string v2) (.int .i64 v3) (.string v4) (.string v5) (.int .i64 v6) (.string v7) (.string v8)):=(by rw[<-hwd];exact A9.new _ _ _ _ _ _ _ _ _ _ _);have HRD:=hid (hr6.below hbd);have HFD:=hid (HF6.out.step hbd);have HT2D:=hid (HT26.out.fr (Fr.of_below hbd fun _=>False) fun h=>h);have HOV:=hid (zbF _ _ _ _ HRD.out);have HWD:=hid hwd;clear hr6 hf6 h66 hbd hwd;go_wp2_with fail
       rw[HWD.out];refine HOV.out.mono ?_;rintro v w7 ⟨rfl,hb7⟩;have hn7:=hb7.size;have HF7:=hid (HFD.out.step hb7);have HT27:=hid (HT2D.out.fr (Fr.of_below hb7 fun _=>False) fun h=>h);have H87:=hid (H8.out.fr (Fr.of_below hb7 fun _=>False) fun h=>h);clear hb7;have HFZ:=HF7;have HT2Z:=HT27;simp only[Bool.not_true,Bool.false_and];have c20:=HT2Z.out.c0;have c21:=HT2Z.out.c1;have c22:=HT2Z.out.c2;have c23:=HT2Z.out.c3;have c24:=HT2Z.out.c4;have c25:=HT2Z.out.c5;have c26:=HT2Z.out.c6;have c27:=HT2Z.out.c7;have c28:=HT2Z.out.c8;have f20:=HT2Z.out.f 0;have f21:=HT2Z.out.f 1;have f22:=HT2Z.out.f 2;have f23:=HT2Z.out.f 3;have f24:=HT2Z.out.f 4;have f25:=HT2Z.out.f 5;have f26:=HT2Z.out.f 6;have f27:=HT2Z.out.f 7;have f28:=HT2Z.out.f 8;go_wp2
       (try simp only[Exit.inBlock,Exit.then])
       refine zaO rfl rfl rfl (HT2Z.out.put (.int .i64 0) (.string ⟨#[]⟩) (.string ⟨#[]⟩) (.int .i64 0) (.string ⟨#[]⟩) (.string ⟨#[]⟩) (.int .i64 0) (.string ⟨#[]⟩) (.string ⟨#[]⟩)) ?_;refine ⟨(HFZ.out.nw (sets9 w7 w.heap.size (.int .i64 0) (.string ⟨#[]⟩) (.string ⟨#[]⟩) (.int .i64 0) (.string ⟨#[]⟩) (.string ⟨#[]⟩) (.int .i64 0) (.string ⟨#[]⟩) (.string ⟨#[]⟩)) fun k h=>by omega).nw_below,?_⟩;rw[HS3.out];rfl
end Go.Proofs.YtaeiifngjglchaaGreatDoor
end
section
namespace Go.Proofs.YtaeiifngjglchaaGreatDoor.Tv
open Go.Proofs.Tryz
open Go.Lib
theorem decodeN_more (n m a b c d b' c' d' x k:Nat) (h:decodeN n a b c d=(x,k)) (hne:¬(x=65533/\k=1)) (h1:1<k->b'=b/\1<m) (h2:2<k->c'=c/\2<m) (h3:3<k->d'=d/\3<m):decodeN m a b' c' d'=(x,k):=by
 unfold decodeN at h;split at h
 · cases h
   unfold decodeN;rw[if_pos (by assumption)]
 · split at h
   · split at h
     · cases h
       obtain ⟨rfl,hm⟩:=h1 (by omega);rename_i q1 q2 q3;unfold decodeN;rw[if_neg q1,if_pos ⟨q2.1,hm,q2.2.2⟩,if_pos q3]
     · cases h;exact absurd ⟨rfl,rfl⟩ hne
   · split at h
     · split at h
       · cases h
         obtain ⟨rfl,hm⟩:=h1 (by omega);obtain ⟨rfl,hm2⟩:=h2 (by omega);rename_i q1 q2 q3 q4;unfold decodeN;rw[if_neg q1,if_neg (by omega),if_pos ⟨q3.1,⟨hm,q3.2.1.2⟩,hm2,q3.2.2.2⟩,if_pos q4]
       · cases h;exact absurd ⟨rfl,rfl⟩ hne
     · split at h
       · split at h
         · cases h
           obtain ⟨rfl,hm⟩:=h1 (by omega);obtain ⟨rfl,hm2⟩:=h2 (by omega);obtain ⟨rfl,hm3⟩:=h3 (by omega);rename_i q1 q2 q3 q4 q5;unfold decodeN;rw[if_neg q1,if_neg (by omega),if_neg (by omega),if_pos ⟨q4.1,⟨hm,q4.2.1.2⟩,⟨hm2,q4.2.2.1.2⟩,hm3,q4.2.2.2.2⟩,if_pos q5]
         · cases h;exact absurd ⟨rfl,rfl⟩ hne
       · cases h;exact absurd ⟨rfl,rfl⟩ hne
theorem zhI (l m:Bs) (hne:l≠[]) (hb:¬((decodeL l).1=65533/\(decodeL l).2=1)):decodeL (l.take (decodeL l).2++m)=decodeL l:=by
 have hle:=decodeL_le l hne;have hw:=decodeL_width l;obtain ⟨x,k,hx⟩:∃x k,decodeL l=(x,k):=⟨_,_,rfl⟩;rw[hx]at hb hle hw;rw[hx];simp only at hb hle hw ⊢;have hlen:(l.take k++m).length=k+m.length:=(by rw[List.length_append,List.length_take];omega);have hg:∀i,i<k->(l.take k++m).getD i 0=l.getD i 0:=by
  intro i hi;rw[List.getD_eq_getElem?_getD,List.getD_eq_getElem?_getD,List.getElem?_append_left (by rw[List.length_take];omega),List.getElem?_take,if_pos hi]
 rw[decodeL_N]at hx ⊢;rw[hg 0 (by omega)];exact decodeN_more _ _ _ _ _ _ _ _ _ _ _ hx hb (fun h=>⟨by rw[hg 1 h],by omega⟩) (fun h=>⟨by rw[hg 2 h],by omega⟩) (fun h=>⟨by rw[hg 3 h],by omega⟩)
theorem zer (l m:Bs) (hne:l≠[]) (hb:¬((decodeL l).1=65533/\(decodeL l).2=1)):validD (l.take (decodeL l).2++m)=validD m:=by
 have hle:=decodeL_le l hne;have hw:=decodeL_width l;have h1:(l.take (decodeL l).2).length=(decodeL l).2:=(by rw[List.length_take];omega);have h0:l.take (decodeL l).2++m≠[]:=by
  intro h;have:=congrArg List.length h;rw[List.length_append,h1]at this;simp at this;omega
 rw[validD_step _ h0,zhI l m hne hb,if_neg hb]
 congr 1
 conv=>lhs;arg 1;rw[<-h1]
 rw[List.drop_left]
theorem zgS:∀(n:Nat) (l m:Bs),l.length<=n->validD l=true->validD (l++m)=validD m:=by
 intro n;induction n with
 | zero=>
  intro l m hl _;obtain rfl:l=[]:=(by cases l;rfl;simp at hl);rfl
 | succ n ih=>
  intro l m hl hv;by_cases hne:l=[]
  · subst hne;rfl
  rw[validD_step l hne]at hv;split at hv
  · cases hv
  · rename_i hb;have hw:=decodeL_width l;have e:l++m=l.take (decodeL l).2++(l.drop (decodeL l).2++m):=(by rw[<-List.append_assoc,List.take_append_drop]);rw[e,zer l _ hne hb];exact ih _ m (by rw[List.length_drop];omega) hv
theorem zaF (l m:Bs) (h:validD l=true):validD (l++m)=validD m:=zgS _ l m nL h
theorem zda (l:Bs) (h:∀b∈l,b.toNat<128):validD l=true:=by
 induction l with
 | nil=>rfl
 | cons b l ih=>rw[validD_cons b l (h b List.mem_cons_self)];exact ih fun c hc=>h c (List.mem_cons_of_mem _ hc)
theorem zk2 (b:UInt8) (h:128<=b):escB b=[b]:=by
 have hn:128<=b.toNat:=h;have k:∀c:UInt8,c.toNat<128->b≠c:=fun c hc e=>(by subst e;omega);unfold escB;rw[if_neg (k 34 (by decide)),if_neg (k 92 (by decide)),if_neg (k 10 (by decide)),if_neg (k 13 (by decide)),if_neg (k 9 (by decide)),if_neg (k 8 (by decide)),if_neg (k 12 (by decide)),if_neg];rintro (h2 | h2)
 · have:b.toNat<32:=h2;omega
 · exact k 127 (by decide) h2
theorem zkX (l:Bs) (h:∀b∈l,(128:UInt8)<=b):escS l=l:=by
 induction l with
 | nil=>rfl
 | cons b l ih=>
  show escB b++escS l=_;rw[zk2 b (h b List.mem_cons_self),ih fun c hc=>h c (List.mem_cons_of_mem _ hc)];rfl
theorem zmG:∀n:Fin 128,∀b∈escB (UInt8.ofNat n.val),b.toNat<128:=by decide
theorem zmD (l m:Bs):escS (l++m)=escS l++escS m:=List.flatMap_append
theorem zgQ:∀(n:Nat) (l:Bs),l.length<=n->validD l=true->validD (escS l)=true:=by
 intro n;induction n with
 | zero=>
  intro l hl _;obtain rfl:l=[]:=(by cases l;rfl;simp at hl);rfl
 | succ n ih=>
  intro l hl hv;by_cases hne:l=[]
  · subst hne;rfl
  obtain ⟨c,k,h⟩:=Hd.of l hne hv;have hk:=h.pos;have hle:=h.le;have e:escS l=escS (l.take k)++escS (l.drop k):=(by rw[<-zmD,List.take_append_drop]);have hr:=ih (l.drop k) (by rw[List.length_drop];omega) h.rest;by_cases hc:c<128
  · obtain ⟨rfl,ht⟩:=h.asc hc;rw[e,ht,zaF _ _ (zda _ ?_)]
    · exact hr
    · show ∀b∈escB (UInt8.ofNat c)++[],_;rw[List.append_nil];exact zmG ⟨c,hc⟩
  · rw[e,zkX _ (h.high (by omega))];have hb:¬((decodeL l).1=65533/\(decodeL l).2=1):=by
     intro hb;rw[validD_step l hne,if_pos hb]at hv;cases hv
    have:=zer l (escS (l.drop k)) hne hb;rw[h.dec]at this;rw[this];exact hr
theorem zjx (l:Bs) (h:validD l=true):validD (escS l)=true:=zgQ _ l nL h
theorem zfR:∀b:UInt8,isTag b=true->b.toNat<128:=by
 intro b;exact zas b (fun b=>isTag b=true->b.toNat<128) (by decide)
theorem zb5 (t:Tm) (h:tmT t=true):validD (shw t)=true:=by
 obtain ⟨k,x,e⟩:=t;have hk:=(za8 _ h).kind;simp only at hk;have hq:validD x=true->validD (qt x)=true:=by
  intro hx;unfold qt;rw[validD_cons 34 _ (by decide),zaF _ _ (zjx x hx)];decide
 rcases hk with rfl | rfl | rfl | rfl | rfl
 · have hi:(iriT x && decide (e=[]))=true:=h;simp only[Bool.and_eq_true,decide_eq_true_eq]at hi;have hv:validD x=true:=by
    have:=hi.1;unfold iriT at this
    simp only[Bool.and_eq_true,decide_eq_true_eq]at this;exact this.1.2
   show validD (60::(x++[62]))=true;rw[validD_cons 60 _ (by decide),zaF _ _ hv];decide
 · show validD (95::58::x)=true;rw[validD_cons 95 _ (by decide),validD_cons 58 _ (by decide)];refine zda x fun b hb=>zfR b ?_;unfold isTag;rw[(za8 _ h).label rfl b hb];rfl
 · have hi:(decide (x.length<=30) && validD x && decide (e=[]))=true:=h;simp only[Bool.and_eq_true,decide_eq_true_eq]at hi;exact hq hi.1.2
 · have hi:(decide (x.length<=30) && validD x && langT e)=true:=h;simp only[Bool.and_eq_true,decide_eq_true_eq]at hi;show validD (qt x++64::e)=true;rw[zaF _ _ (hq hi.1.2),validD_cons 64 _ (by decide)];exact zda e fun b hb=>zfR b ((za8 _ h).lang rfl b hb).1
 · have hi:(decide (x.length<=30) && validD x && iriT e)=true:=h;simp only[Bool.and_eq_true,decide_eq_true_eq]at hi;have hv:validD e=true:=by
    have:=hi.2;unfold iriT at this
    simp only[Bool.and_eq_true,decide_eq_true_eq]at this;exact this.1.2
   show validD (qt x++94::94::60::(e++[62]))=true;rw[zaF _ _ (hq hi.1.2),validD_cons 94 _ (by decide),validD_cons 94 _ (by decide),validD_cons 60 _ (by decide),zaF _ _ hv];decide
def shLine (s:Bs):Bs:=[60,97,62,32,60,97,62,32]++s++[32,46]
def shownV (s:Bs):Option Tm:=
 match oneV false (shLine s) with
 | some (some t)=>if shw t.o=s then some t.o else none
 | _=>none
theorem zbh (nl:Bool) (t:Tm) (h:tmT t=true) (r:Bs) (hr:∀c,r.head?=some c->isTag c=false/\c≠64/\c≠94):termV nl (shw t++r)=some (t,r):=by
 unfold termV;rw[zdo nl t (za8 t h) r hr,Option.bind_some];simp only[h,if_true]
theorem zbY {c:UInt8} {l:Bs} (h:isBl c=false):blk (c::l)=c::l:=by
 unfold blk;rw[List.dropWhile_cons,if_neg (by rw[h];decide)]
theorem ziE (l:Bs):blk (32::l)=blk l:=by
 unfold blk;rw[List.dropWhile_cons,if_pos (by decide)]
theorem zdB (t:Tm) (r:Bs):blk (shw t++r)=shw t++r:=by
 unfold shw qt;split
 · exact zbY (by decide)
 · split
   · exact zbY (by decide)
   · split
     · exact zbY (by decide)
     · split
       · exact zbY (by decide)
       · exact zbY (by decide)
theorem zaZ {nl:Bool} {l:Bs} {t:Tri} (h:oneV nl l=some (some t)):triT t=true:=by
 unfold oneV at h;split at h
 · split at h
   · cases h
   · cases hq:threeV nl (blk l) with
     | none=>rw[hq]at h;cases h
     | some q=>
      rw[hq,Option.bind_some]at h;unfold tailV at h;split at h
      · split at h
        · rename_i hc;cases h
          rw[Bool.and_eq_true]at hc;exact hc.2
        · cases h
      · cases h
 · cases h
theorem triT_o {t:Tri} (h:triT t=true):tmT t.o=true:=by
 unfold triT at h;simp only[Bool.and_eq_true]at h;exact h.1.1.2
theorem zew (s:Bs) (t:Tm):shownV s=some t↔tmT t=true/\shw t=s:=by
 constructor
 · intro h;unfold shownV at h;split at h
   · rename_i t' ht;split at h
     · rename_i hs;cases h
       exact ⟨triT_o (zaZ ht),hs⟩
     · cases h
   · cases h
 · rintro ⟨ht,rfl⟩;have hv:validD (shLine (shw t))=true:=by
    unfold shLine;rw[List.append_assoc,zaF _ _ (by decide),zaF _ _ (zb5 t ht)];decide
   have ha:shw aTm=[60,97,62]:=(by decide);have e1:shLine (shw t)=shw aTm++(32::(shw aTm++(32::(shw t++[32,46])))):=(by rw[ha];unfold shLine;simp);have hp:∀(r:Bs) c,(32::r).head?=some c->isTag c=false/\c≠64/\c≠94:=by
    intro r c hc;cases hc
    decide
   have h1:=zbh false aTm zgN (32::(shw aTm++(32::(shw t++[32,46])))) (hp _);have h2:=zbh false aTm zgN (32::(shw t++[32,46])) (hp _);have h3:=zbh false t ht [32,46] (hp _);have hthree:threeV false (shLine (shw t))=some (⟨aTm,aTm,t⟩,blk [32,46]):=by
    rw[e1];refine zjJ h1 (r':=32::(shw t++[32,46])) ?_ (r'':=[32,46]) ?_
    · rw[ziE,zdB];exact h2
    · rw[ziE,zdB];exact h3
   have hb:blk (shLine (shw t))=shLine (shw t):=(by unfold shLine;exact zbY (by decide));have hov:ovr (shLine (shw t))=false:=(by unfold shLine ovr;simp);have hone:oneV false (shLine (shw t))=some (some ⟨aTm,aTm,t⟩):=by
    unfold oneV;rw[hv,hb,hov,hthree];simp only[if_true,Option.bind_some];rw[if_neg (by decide)];show tailV _ [46]=_;unfold tailV;simp only;rw[if_pos];unfold triT;rw[zgN,ht];rfl
   unfold shownV;rw[hone];exact if_pos rfl
def lnA (s:Bs):Bs:=s.takeWhile fun c=>c != 10
def lnB (s:Bs):Bs:=(s.dropWhile fun c=>c != 10).tail
def lnE (s:Bs):Bool:=s.any fun c=>c == 10
def cr (l:Bs):Bs:=if l.getLast?=some 13 then l.dropLast else l
def ln (s:Bs):Bs:=if lnE s then cr (lnA s) else lnA s
def parGo (nl:Bool):Nat->Bs->List Tri->Nat->Except (Nat × Nat) (List Tri × Nat)
 | 0,_,acc,n=>.ok (acc,n)
 | f+1,s,acc,n=>
  if s=[] then .ok (acc,n)
  else if 200<n+1 then .error (n+1,3)
  else match oneV nl (ln s) with
   | none=>.error (n+1,2)
   | some none=>parGo nl f (lnB s) acc (n+1)
   | some (some t)=>
    if t∈acc then parGo nl f (lnB s) acc (n+1)
    else if 100<acc.length+1 then .error (n+1,3)
    else parGo nl f (lnB s) (acc++[t]) (n+1)
def parV (nl:Bool) (s:Bs):Except (Nat × Nat) (List Tri × Nat):=
 if 20000<s.length then .error (0,4) else parGo nl (s.length+1) s [] 0
theorem zfm (s:Bs) (h:s≠[]):(lnB s).length<s.length:=by
 have h1:=(List.dropWhile_sublist (fun c:UInt8=>c != 10) (l:=s)).length_le;unfold lnB;rw[List.length_tail];have:0<s.length:=List.length_pos_iff.2 h;omega
theorem zks (s:Bs):(lnA s).length<=s.length:=(List.takeWhile_sublist _).length_le
theorem cr_len (l:Bs):(cr l).length<=l.length:=by
 unfold cr;split
 · rw[List.length_dropLast];omega
 · exact nL
theorem ln_len (s:Bs):(ln s).length<=s.length:=by
 unfold ln;split
 · exact Nat.le_trans (cr_len _) (zks s)
 · exact zks s
def knownS:Bs:=[60,97,62,32,60,98,62,32,60,99,62,32,46,10]
def knownT:Tri:=⟨⟨1,[97],[]⟩,⟨1,[98],[]⟩,⟨1,[99],[]⟩⟩
theorem zky:(match parV false knownS with | .ok (l,m)=>decide (l=[knownT]/\m=1) | _=>false)=true:=by decide +kernel
end Go.Proofs.YtaeiifngjglchaaGreatDoor.Tv
end
section
namespace Go.Proofs.YtaeiifngjglchaaGreatDoor
open Go.Proofs.Tryz
open Go.RowKit Go.Lib Tv Go.Maps
theorem zde:Keyed prog 110:=Keyed.of_law (deep_law_gate (P:=prog) (by kernel_rfl) (oT (by kernel_rfl)) (oT (by kernel_rfl)) (by kernel_rfl) (by kernel_rfl))
theorem zmg (D:Nat) (k:Int) (h:(Lit.int .i64 k).wf=true):prog.keyLits (D+1) 3 [.int .i64 k]=some [.int .i64 k]:=by
 unfold Program.keyLits;rw[underlying3];exact if_pos ⟨rfl,h⟩
theorem zik (D:Nat) (x:Bs) (h:x.length<=1000000):prog.keyLits (D+1) 9 [.string (str x)]=some [.string x]:=by
 unfold Program.keyLits;rw[underlying9];show (if (str x).size<=maxLen then some [Lit.string (str x).data.toList] else none)=_;rw[if_pos (by rw[zab];unfold maxLen;omega),zad]
theorem zdO (D:Nat) (t:Tm) (h:Sml t) (hk:(Lit.int .i64 t.k).wf=true):prog.keyLits (D+2) 62 (encT t)=some [.int .i64 t.k,.string t.x,.string t.e]:=by
 obtain ⟨k,x,e⟩:=t;have e1:=zmg D k hk;have e2:=zik D x h.1;have e3:=zik D e h.2;have c1:prog.cellsOf 3=1:=(by kernel_rfl);have c2:prog.cellsOf 9=1:=(by kernel_rfl);have c3:prog.cellsOf 62=3:=(by kernel_rfl);unfold Program.keyLits;rw[underlying62];simp[encT,c1,c2,c3,e1,e2,e3]
theorem znr (t:Tri) (h:SmlT t) (h1:(Lit.int .i64 t.s.k).wf=true) (h2:(Lit.int .i64 t.p.k).wf=true) (h3:(Lit.int .i64 t.o.k).wf=true):∃l,keyOf prog 110 (.agg (encTri t).toArray)=some l:=by
 obtain ⟨s,p,o⟩:=t;obtain ⟨D,hD⟩:∃D,prog.types.size+1=D+3:=⟨prog.types.size-2,by have:2<=prog.types.size:=oT (by kernel_rfl);omega⟩;have e1:=zdO D s h.1 h1;have e2:=zdO D p h.2.1 h2;have e3:=zdO D o h.2.2 h3;have c3:prog.cellsOf 62=3:=(by kernel_rfl);have c9:prog.cellsOf 110=9:=(by kernel_rfl);have hk:prog.keyType 110=true:=(by kernel_rfl);have hf:(Value.agg (encTri ⟨s,p,o⟩).toArray).formed prog 110=true:=by
  unfold Value.formed;rw[underlying110,c9];rfl
 have hl:prog.keyLits (D+3) 110 (encTri ⟨s,p,o⟩)=some ([.int .i64 s.k,.string s.x,.string s.e]++[.int .i64 p.k,.string p.x,.string p.e]++[.int .i64 o.k,.string o.x,.string o.e]):=by
  unfold encT at e1 e2 e3;unfold Program.keyLits;rw[underlying110];simp[encTri,encT,c3,c9,e1,e2,e3]
 unfold keyOf;rw[underlying110];simp only[hk,hf,hD,Bool.and_self,if_true];rw[show (Value.agg (encTri ⟨s,p,o⟩).toArray).cells.toList=encTri ⟨s,p,o⟩ from rfl,hl];exact ⟨_,rfl⟩
end Go.Proofs.YtaeiifngjglchaaGreatDoor
end
