/- Proved on the way: The reader of package lines: next, take,; The reader of package lines: blanks, dig; WriteRune; the reader of package lines: ; The reader of package lines: escape; The reader of package lines: until. Each theorem states its own conditions. -/
import Derived.Test.YtaeiifngjglchaaGreatDoorM4
import Derived.Shelf.Strings.SlTrimAscii
set_option maxHeartbeats 16000000
set_option maxRecDepth 1000000
section
namespace Go.Proofs.YtaeiifngjglchaaGreatDoor
open Go.Proofs.Tryz
open Go.RowKit Go.Lib Tv
def Rdr (w:World) (g:Nat) (l:Bs) (b:Bool):Prop:=4<=g/\w.heap[g]?=some (.cells #[.string (str l),.bool b] 186 (0,0))
theorem Rdr.fr {w w1:World} {g:Nat} {l:Bs} {b:Bool} {S:Nat->Prop} (h:Rdr w g l b) (hf:Fr w w1 S) (hn:¬S g):Rdr w1 g l b:=⟨h.1,hf.heap h.2 hn⟩
theorem Rdr.below {w w1:World} {g:Nat} {l:Bs} {b:Bool} (h:Rdr w g l b) (hb:Below w.heap.size w w1):Rdr w1 g l b:=h.fr (Fr.of_below hb fun _=>False) fun h=>h
theorem Rdr.lt {w:World} {g:Nat} {l:Bs} {b:Bool} (h:Rdr w g l b):g<w.heap.size:=(Array.getElem?_eq_some_iff.1 h.2).1
theorem Rdr.c0 {w:World} {g:Nat} {l:Bs} {b:Bool} (h:Rdr w g l b):w.cell? ⟨g,0,none⟩=some (.string (str l)):=by rw[cell_of_heap h.2];rfl
theorem Rdr.c1 {w:World} {g:Nat} {l:Bs} {b:Bool} (h:Rdr w g l b):w.cell? ⟨g,1,none⟩=some (.bool b):=by rw[cell_of_heap h.2];rfl
theorem Rdr.f (j:Nat) {w:World} {g:Nat} {l:Bs} {b:Bool} (h:Rdr w g l b):w.frozen? ⟨g,j,none⟩=false:=frozen_of_heap h.2 j
theorem Rdr.set0 {w:World} {g:Nat} {l:Bs} {b:Bool} (h:Rdr w g l b) (r:Bs):Rdr (w.setCell ⟨g,0,none⟩ (.string (str r))) g r b:=⟨h.1,by simp[World.setCell,Array.getElem?_modify,h.2]⟩
theorem Rdr.set1 {w:World} {g:Nat} {l:Bs} {b:Bool} (h:Rdr w g l b) (c:Bool):Rdr (w.setCell ⟨g,1,none⟩ (.bool c)) g l c:=⟨h.1,by simp[World.setCell,Array.getElem?_modify,h.2]⟩
theorem Rdr.new (w:World) (l:Bs) (b:Bool) (hw:4<=w.heap.size):Rdr (w.alloc (.cells #[.string (str l),.bool b] 186)) w.heap.size l b:=⟨hw,heap_alloc_new w _⟩
structure Lay (w:World):Prop where
 tabs:Lib.Utf8Tabs 0 1 w
 most:∃m,w.cell? ⟨2,0,none⟩=some (.int .i64 m)
theorem Lay.fr {w w1:World} {S:Nat->Prop} (h:Lay w) (hf:Fr w w1 S) (hn:∀k,k<4->¬S k):Lay w1:=by
 refine ⟨⟨fun c hc=>hf.cell (h.tabs.1 c hc) (hn 0 (by decide)),fun i hi=>⟨hf.cell (h.tabs.2 i hi).1 (hn 1 (by decide)),hf.cell (h.tabs.2 i hi).2 (hn 1 (by decide))⟩⟩,?_⟩;obtain ⟨m,hm⟩:=h.most;exact ⟨m,hf.cell hm (hn 2 (by decide))⟩
theorem Lay.below {w w1:World} (h:Lay w) (hb:Below w.heap.size w w1):Lay w1:=h.fr (Fr.of_below hb fun _=>False) fun _ _ h=>h
theorem Lay.at_ {w w1:World} {g:Nat} (h:Lay w) (hg:4<=g) (hf:Fr w w1 (fun k=>k=g)):Lay w1:=h.fr hf fun k hk e=>by omega
theorem zjq (l:Bs) (hne:l≠[]):Lib.decodeGo (str l)=decodeL l:=by
 unfold Lib.decodeGo;rw[if_neg (by rw[zab];exact fun h=>hne (List.eq_nil_of_length_eq_zero h))];rfl
def nx (l:Bs) (b:Bool):Int:=if b then -1 else if l=[] then -1 else ((decodeL l).1:Int)
theorem zbG (g:Nat) (l:Bs) (b:Bool) (w:World) (h:Rdr w g l b) (ht:Lay w) :
    Calls prog 156 #[.pointer (some ⟨g,0,none⟩)] w fun e w'=>e=.returned (.int .i32 (nx l b))/\Below w.heap.size w w':=by
 have k0:=h.c0;have k1:=h.c1;have HT:=hid ht.tabs;clear ht;cases b with
 | true=>
  rw[show nx l true = -1 from rfl];go_enter func156,ntmps156
  go_wp2;go_ret;exact ⟨rfl,br⟩
 | false=>
  by_cases hl:l=[]
  · subst hl;rw[show str []=(⟨#[]⟩:ByteArray) from rfl]at k0;rw[show nx [] false = -1 from rfl];go_enter func156,ntmps156
    go_wp2;go_ret;exact ⟨rfl,br⟩
  · have hs:((str l).toList == [])=false:=by
     rw[Lib.toList_data,zad];simp[hl]
    have HD:=hid (Tryz.utf8_DecodeRuneInString (str l) w HT.out);rw[zjq l hl]at HD;rw[show nx l false=((decodeL l).1:Int) from by simp[nx,hl]];clear hl;go_enter func156,ntmps156
    go_wp2_with fail
    refine HD.out.mono ?_;rintro e w1 ⟨rfl,hb1⟩;go_wp2;go_ret;exact ⟨rfl,hb1⟩
theorem zkd (l:Bs) (b:Bool) (h:b=true\/l=[]):nx l b = -1:=by
 unfold nx;rcases h with rfl | rfl
 · rfl
 · split<;>rfl
theorem znT {l:Bs} {c n:Nat} (hne:l≠[]) (h:Hd l c n):nx l false=(c:Int):=by
 unfold nx;rw[if_neg (by decide),if_neg hne,h.dec]
theorem zdr (g:Nat) (l:Bs) (b:Bool) (w:World) (h:Rdr w g l b) (ht:Lay w) (hn:b=true\/l=[]) :
    Calls prog 295 #[.pointer (some ⟨g,0,none⟩)] w fun e w'=>e=.returned (.int .i32 (-1))/\Rdr w' g l true/\Fr w w' (fun k=>k=g):=by
 have HN:=hid (zbG g l b w h ht);rw[zkd l b hn]at HN;clear hn ht;have HR:=hid h;clear h;go_enter func295,ntmps295
 go_wp2_with fail
 refine HN.out.mono ?_;rintro e w1 ⟨rfl,hb1⟩;have h1:=HR.out.below hb1;have k1:=h1.c1;have f1:=h1.f 1;have H1:=hid h1;clear h1;go_wp2;go_ret;exact ⟨rfl,H1.out.set1 true,((Fr.refl w (fun k=>k=g)).step hb1).set_ (p:=⟨g,1,none⟩) (.inl rfl) _⟩
theorem zlI (l:Bs) (n:Nat):(str l).extract n l.length=str (l.drop n):=by
 apply ByteArray.ext;rw[ByteArray.data_extract];apply Array.toList_inj.1;rw[Array.toList_extract];simp only[str,List.extract_eq_take_drop];rw[List.take_of_length_le (by simp)]
theorem zdq (g:Nat) (l:Bs) (c n:Nat) (w:World) (h:Rdr w g l false) (ht:Lay w) (hne:l≠[]) (hd:Hd l c n) :
    Calls prog 295 #[.pointer (some ⟨g,0,none⟩)] w fun e w'=>e=.returned (.int .i32 (c:Int))/\Rdr w' g (l.drop n) false/\Fr w w' (fun k=>k=g):=by
 have HN:=hid (zbG g l false w h ht);rw[znT hne hd]at HN;have hlen:=hd.le;have hsz:=zab l;have HS:=hid (zlI l n);have hrl:=hd.len;have hb:((c:Int) == -1)=false:=(by simp);clear hd ht hne;have HR:=hid h;clear h;go_enter func295,ntmps295
 go_wp2_with fail
 refine HN.out.mono ?_;rintro e w1 ⟨rfl,hb1⟩;have h1:=HR.out.below hb1;have k0:=h1.c0;have f0:=h1.f 0;have H1:=hid h1;clear h1;have HL:=hid (Tryz.utf8_RuneLen (c:Int));rw[hrl]at HL;go_wp2;go_region_with (go_at_call 335;refine (HL.out _).mono ?_;rintro e w' ⟨rfl,rfl⟩)
 all_goals
  rw[HS.out];go_wp2;go_ret;have hr:=H1.out.set0 (l.drop n);exact ⟨rfl,⟨hr.1,hr.2⟩,(((Fr.refl w (fun k=>k=g)).step hb1).set_ (p:=⟨g,0,none⟩) (.inl rfl) _).drew⟩
theorem zk8 (p r:Bs):Lib.trimPrefix (p++r) p=r/\Lib.hasPrefix (p++r) p=true:=by
 have h:Lib.hasPrefix (p++r) p=true:=by
  unfold Lib.hasPrefix;rw[List.isPrefixOf_iff_prefix];exact ⟨r,rfl⟩
 refine ⟨?_,h⟩;unfold Lib.trimPrefix;rw[if_pos h,List.drop_left]
theorem cut_no (p l:Bs) (h:∀r,l≠p++r):Lib.hasPrefix l p=false:=by
 cases hp:Lib.hasPrefix l p with
 | false=>rfl
 | true=>
  unfold Lib.hasPrefix at hp;rw[List.isPrefixOf_iff_prefix]at hp;obtain ⟨r,hr⟩:=hp;exact absurd hr.symm (h r)
theorem zio (g:Nat) (l p:Bs) (b:Bool) (w:World) (h:Rdr w g l b) :
    Calls prog 158 #[.pointer (some ⟨g,0,none⟩),.string (str p)] w fun e w'=>e=.returned (.bool (Lib.hasPrefix l p && !b))/\Rdr w' g (if Lib.hasPrefix l p && !b then Lib.trimPrefix l p else l) b/\Fr w w' (fun k=>k=g):=by
 have k0:=h.c0;have k1:=h.c1;have f0:=h.f 0;have HR:=hid h;clear h;have HC:=hid (Tryz.strings_CutPrefix (str l) (str p) w);rw[zad,zad]at HC;have HC':Hid (Calls prog 233 #[.string (str l),.string (str p)] w fun e w'=>e=.returned (.tuple #[.string (str (Lib.trimPrefix l p)),.bool (Lib.hasPrefix l p)])/\w'=w):=HC;clear HC;generalize Lib.trimPrefix l p=r at HC' ⊢;generalize Lib.hasPrefix l p=y at HC' ⊢;cases y with
 | true=>
  cases b with
  | true=>
   rw[show (true && !true)=false from rfl];simp only[Bool.false_eq_true,if_false];go_enter func158,ntmps158
   go_wp2_with fail
   refine HC'.out.mono ?_;rintro e w1 ⟨rfl,rfl⟩;go_wp2;go_ret;exact ⟨rfl,HR.out,Fr.refl _ _⟩
  | false=>
   rw[show (true && !false)=true from rfl];simp only[if_true];go_enter func158,ntmps158
   go_wp2_with fail
   refine HC'.out.mono ?_;rintro e w1 ⟨rfl,rfl⟩;go_wp2;go_ret;exact ⟨rfl,HR.out.set0 r,(Fr.refl _ (fun k=>k=g)).set_ (p:=⟨g,0,none⟩) (.inl rfl) _⟩
 | false=>
  rw[show (false && !b)=false from rfl];simp only[Bool.false_eq_true,if_false];go_enter func158,ntmps158
  go_wp2_with fail
  refine HC'.out.mono ?_;rintro e w1 ⟨rfl,rfl⟩;go_wp2;go_ret;exact ⟨rfl,HR.out,Fr.refl _ _⟩
theorem zgj (g:Nat) (l p r:Bs) (w:World) (h:Rdr w g l false) (hp:l=p++r) :
    Calls prog 158 #[.pointer (some ⟨g,0,none⟩),.string (str p)] w fun e w'=>e=.returned (.bool true)/\Rdr w' g r false/\Fr w w' (fun k=>k=g):=by
 have:=zio g l p false w h;subst hp;rw[(zk8 p r).1,(zk8 p r).2]at this;exact this
theorem is_no (g:Nat) (l p:Bs) (b:Bool) (w:World) (h:Rdr w g l b) (hp:b=true\/∀r,l≠p++r) :
    Calls prog 158 #[.pointer (some ⟨g,0,none⟩),.string (str p)] w fun e w'=>e=.returned (.bool false)/\Rdr w' g l b/\Fr w w' (fun k=>k=g):=by
 have:=zio g l p b w h;have e:(Lib.hasPrefix l p && !b)=false:=by
  rcases hp with rfl | hp
  · simp
  · rw[cut_no p l hp];rfl
 rw[e]at this;exact this
theorem zij (g:Nat) (l p r:Bs) (w:World) (h:Rdr w g l false) (hp:l=p++r) :
    Calls prog 113 #[.pointer (some ⟨g,0,none⟩),.string (str p)] w fun e w'=>e=.returned (.tuple #[])/\Rdr w' g r false/\Fr w w' (fun k=>k=g):=by
 have HI:=hid (zgj g l p r w h hp);clear h hp;go_enter func113,ntmps113
 go_wp2_with fail
 refine HI.out.mono ?_;rintro e w1 ⟨rfl,h1,hf⟩;go_wp2;go_end0
 exact ⟨rfl,h1,hf⟩
theorem zhs (g:Nat) (l p:Bs) (b:Bool) (w:World) (h:Rdr w g l b) (hp:b=true\/∀r,l≠p++r) :
    Calls prog 113 #[.pointer (some ⟨g,0,none⟩),.string (str p)] w fun e w'=>e=.returned (.tuple #[])/\Rdr w' g l true/\Fr w w' (fun k=>k=g):=by
 have HI:=hid (is_no g l p b w h hp);clear h hp;go_enter func113,ntmps113
 go_wp2_with fail
 refine HI.out.mono ?_;rintro e w1 ⟨rfl,h1,hf⟩;have k1:=h1.c1;have f1:=h1.f 1;have H1:=hid h1;clear h1;go_wp2;go_end0
 exact ⟨rfl,H1.out.set1 true,hf.set_ (p:=⟨g,1,none⟩) (.inl rfl) _⟩
theorem ziM (l:Bs) (w:World) :
    Calls prog 155 #[.string (str l),.string ⟨#[32,9]⟩] w fun e w'=>e=.returned (.string (str (blk l)))/\Below w.heap.size w w':=by
 have h:=Any.strings_TrimLeft_laid Tryz.lays161 (by kernel_rfl) (str l) ⟨#[32,9]⟩ w (by decide) (fun j b hb=>by
  match j,hb with
  | 0,hb=>simp at hb;subst hb;decide
  | 1,hb=>simp at hb;subst hb;decide)
 rw[zad]at h;have e:Lib.trimLeftS l [32,9]=blk l:=by
  unfold Lib.trimLeftS blk
  congr 1
  funext c
  simp[isBl];rfl
 have h':Calls prog 155 #[.string (str l),.string ⟨#[32,9]⟩] w fun e w'=>e=.returned (.string (str (Lib.trimLeftS l [32,9])))/\Below w.heap.size w w':=h;rw[e]at h';exact h'
theorem zan (g:Nat) (l:Bs) (b:Bool) (w:World) (h:Rdr w g l b) :
    Calls prog 110 #[.pointer (some ⟨g,0,none⟩)] w fun e w'=>e=.returned (.tuple #[])/\Rdr w' g (if b then l else blk l) b/\Fr w w' (fun k=>k=g):=by
 have k0:=h.c0;have k1:=h.c1;have HR:=hid h;clear h;have HT:=hid (ziM l w);cases b with
 | true=>
  rw[if_pos rfl];go_enter func110,ntmps110
  go_wp2;go_end0
  exact ⟨rfl,HR.out,Fr.refl _ _⟩
 | false=>
  rw[if_neg (by decide)];go_enter func110,ntmps110
  go_wp2_with fail
  refine HT.out.mono ?_;rintro e w1 ⟨rfl,hb1⟩;have h1:=HR.out.below hb1;have f0:=h1.f 0;have k0':=h1.c0;have H1:=hid h1;clear h1;go_wp2;go_end0
  exact ⟨rfl,H1.out.set0 _,((Fr.refl w (fun k=>k=g)).step hb1).set_ (p:=⟨g,0,none⟩) (.inl rfl) _⟩
def digZ (z:Int):Int:=if 48<=z/\z<=57 then z-48 else if 97<=z/\z<=102 then z-87 else if 65<=z/\z<=70 then z-55 else -1
theorem zd2 (z:Int) (h0 : -1<=z) (h1:z<=1114111) (w:World) :
    Calls prog 369 #[.int .i32 z] w fun e w'=>e=.returned (.int .i32 (digZ z))/\Below w.heap.size w w':=by
 have hv:digZ z=if 48<=z then (if z<=57 then z-48 else if 65<=z then (if z<=70 then z-55 else if 97<=z then (if z<=102 then z-87 else -1) else -1) else -1) else -1:=by
  unfold digZ;repeat' split
  all_goals omega
 rw[hv];clear hv;repeat' split
 all_goals
  (try simp only[Int.not_le]at *)
  go_enter func369,ntmps369
  go_wp2;go_ret;exact ⟨by first | rfl | (simp[*];done) | (simp[*];omega) | (simp only[IntKind.wrap_i32];congr 2;omega),⟨rfl,rfl,rfl,nL,fun _ _=>rfl⟩⟩
theorem zgB (c:UInt8):digZ (c.toNat:Int)=match dig c with | some d=>(d:Int) | none=>-1:=by
 refine zas c (fun c=>digZ (c.toNat:Int)=match dig c with | some d=>(d:Int) | none=>-1) ?_;decide +kernel
theorem zk7 (z:Int) (h:128<=z\/z<0):digZ z = -1:=by
 unfold digZ;rw[if_neg (by omega),if_neg (by omega),if_neg (by omega)]
def escs:Bs:=[116,98,110,114,102,34,39,92]
def escd:Bs:=[9,8,10,13,12,34,39,92]
theorem zhB (z:Int) (h0:0<=z) (h1:z<128) (w:World) :
    Calls prog 334 #[.string (str escs),.int .i32 z] w fun e w'=>e=.returned (.int .i64 (Lib.indexByte escs z.toNat.toUInt8))/\Below w.heap.size w w':=by
 have:=Tryz.strings_IndexRune_ascii (str escs) z w h0 h1;rw[zad]at this;exact this.mono fun e w' h=>⟨h.1,by rw[h.2];exact br⟩
theorem index_none (w:World) :
    Calls prog 334 #[.string (str escs),.int .i32 (-1)] w fun e w'=>e=.returned (.int .i64 (-1))/\Below w.heap.size w w':=by
 have HV:∀w:World,Calls prog 368 #[.int .i32 (-1)] w fun e w'=>e=.returned (.bool false)/\w'=w:=fun w=>Tryz.utf8_ValidRune (-1) w;go_enter func334,ntmps334
 go_wp2_with (go_at_call 368;refine (HV _).mono ?_;rintro e w' ⟨rfl,rfl⟩)
 go_ret;exact ⟨rfl,br⟩
theorem zkD (w:World) :
    Calls prog 334 #[.string (str escs),.int .i32 65533] w fun e w'=>e=.returned (.int .i64 (-1))/\Below w.heap.size w w':=by
 have hsz:(str escs).size=8:=rfl;have hlt:∀(j:Nat) (h:j<(str escs).size),((str escs)[j]'h).toNat<128:=(by decide);generalize str escs=s at hsz hlt ⊢;have HL:=hid hlt;clear hlt;go_enter func334,ntmps334
 go_wp2;go_loopw [] (fun wr=>∃pos:Nat,pos<=8/\wr=w.iter s pos) (fun wr=>8-wr.iterPos w.heap.size)
 case atStart=>exact ⟨0,by omega,rfl⟩
 case round=>
  obtain ⟨pos,hp,rfl⟩:=hrel;by_cases hlt:pos<s.size
  · have hnx:∀ty,(Instr.next (.pointer (some ⟨w.heap.size,0,none⟩)) true ty).run prog (w.iter s pos)=_:=fun ty=>run_next_ascii w s pos ty hlt (HL.out pos hlt);have hb:(((s[pos]'hlt).toNat:Int) == 65533)=false:=(by have:=HL.out pos hlt;simp;omega);generalize (s[pos]'hlt).toNat=z at hnx hb;go_wp2;go_roundw
    case rel=>exact ⟨pos+1,by omega,rfl⟩
    case measure=>rw[World.iterPos_iter,World.iterPos_iter];omega
  · have hnx:∀ty,(Instr.next (.pointer (some ⟨w.heap.size,0,none⟩)) true ty).run prog (w.iter s pos)=_:=fun ty=>run_next_end w s pos ty hlt;go_wp2;go_ret;exact ⟨rfl,(Below.refl _ w).alloc nL _⟩
theorem zmM (z:Int) (h0:128<=z) (hv:Lib.validRune z=true):∃n:Nat,(Utf8.encode z).size=n+1/\(n=1\/n=2\/n=3)/\∀h:n<(Utf8.encode z).size,128<=((Utf8.encode z)[n]'h).toNat:=by
 have hv':Utf8.valid z=true:=by
  unfold Lib.validRune at hv;rw[decide_eq_true_eq]at hv;unfold Utf8.valid;simp;omega
 simp only[Utf8.encode,hv',if_true];have h1:z.toNat<1114112:=by
  unfold Lib.validRune at hv;rw[decide_eq_true_eq]at hv;omega
 have key:∀x:Nat,128<=(UInt8.ofNat (0x80+x % 64)).toNat:=fun x=>by
  rw[UInt8.toNat_ofNat'];omega
 split
 · omega
 · split
   · exact ⟨1,rfl,by omega,fun _=>key _⟩
   · split
     · exact ⟨2,rfl,by omega,fun _=>key _⟩
     · exact ⟨3,rfl,by omega,fun _=>key _⟩
theorem indexByte_none (b:UInt8):∀l:Bs,(∀c∈l,c≠b)->Lib.indexByte l b = -1
 | [],_=>rfl
 | c::l,h=>by
  unfold Lib.indexByte;rw[if_neg (by simp[h c List.mem_cons_self]),indexByte_none b l fun c hc=>h c (List.mem_cons_of_mem _ hc)];rfl
theorem zje (z:Int) (h0:128<=z) (h1:z<=1114111) (hv:Lib.validRune z=true) (hne:z≠65533) (w:World) :
    Calls prog 334 #[.string (str escs),.int .i32 z] w fun e w'=>e=.returned (.int .i64 (-1))/\Below w.heap.size w w':=by
 have HV:∀w:World,Calls prog 368 #[.int .i32 z] w fun e w'=>e=.returned (.bool true)/\w'=w:=fun w=>by
  have:=Tryz.utf8_ValidRune z w;rw[show Lib.validRune z=true from hv]at this;exact this
 obtain ⟨n,hn,hn3,hb⟩:=zmM z h0 hv;generalize hE:Utf8.encode z=rs at hn hb;have nr:n<rs.size:=(by omega);have hb:=hb nr;have e1:¬(z<128):=(by omega);have e2:(z == 65533)=false:=(by simp[hne]);have hsz:(str escs).size=8:=rfl;have hlt:∀(j:Nat) (h:j<(str escs).size),((str escs)[j]'h).toNat<128:=(by decide);have hix:∀k:Nat,∀b:UInt8,128<=b.toNat->Lib.indexByte ((str escs).extract k 8).data.toList b = -1:=fun k b hb=>by
  refine indexByte_none b _ fun c hc e=>?_;have:c∈(str escs).data.toList:=by
   rw[ByteArray.data_extract,Array.toList_extract]at hc;exact List.mem_of_mem_drop (List.mem_of_mem_take hc)
  have h2:∀c∈(str escs).data.toList,c.toNat<128:=(by decide);have:=h2 c this;rw[e]at this;omega
 generalize str escs=s at hsz hlt hix ⊢;have n8':n<s.size:=(by omega);have hne2:(((s[n]'n8').toNat:Int) != ((rs[n]'nr).toNat:Int))=true:=by
  have:=hlt n n8';simp;omega
 have HI:=hid fun w:World=>Tryz.strings_IndexByte (s.extract (n+1) 8) ((rs[n]'nr).toNat:Int) w;have hix':=hix (n+1) (rs[n]'nr) hb;have HX:=hid hix';clear hlt hix hb hix';go_enter func334,ntmps334
 go_wp2_with (go_at_call 368;refine (HV _).mono ?_;rintro e w' ⟨rfl,rfl⟩)
 refine wp_scope_straight ?_;have hcv:∀w,(convert 21 9 (.int .i32 z)).run prog w=.ok (.string rs) w:=fun w=>by
  rw[<-hE];simp[convert,run_underlying underlying21,run_underlying underlying9];rfl
 go_wp2;go_loopw [9] (fun i wr=>i=.int .i64 n/\wr=w') (fun _ _=>0)
 case atStart=>exact ⟨rfl,rfl⟩
 case round=>
  obtain ⟨rfl,rfl⟩:=hrel;have n8:(n:Int)<8:=(by omega);have nn:(n:Int)<(n:Int)+1:=(by omega);go_wp2;refine wp_scope_straight ?_;go_wp2;go_region
  go_wp2;have hbw:Below wr.heap.size wr wr.drew:=br.drew;generalize wr.drew=w2 at hbw ⊢
  have HQ:∀m:Nat,Calls prog 367 #[.string (s.extract (n+1) 8),.int .u8 ((rs[n]'nr).toNat:Int)] (w2.drewN m) fun e w''=>e=.returned (.int .i64 (-1))/\∃x,w''=w2.drewN x:=fun m=>
   (HI.out (w2.drewN m)).mono fun e w'' h=>⟨by
    rw[h.1];have e:(((rs[n]'nr).toNat:Int)).toNat.toUInt8=rs[n]'nr:=(by simp);rw[e,HX.out],m,h.2⟩
  have HQ':=hid HQ;clear HQ;have e3:IntKind.i64.wrap ((n:Int)+1)=(n:Int)+1:=(wI (by omega));have e4:(n:Int)+1<=8:=(by omega);have e5:(0:Int)<=(n:Int)+1:=(by omega);have e6:((n:Int)+1).toNat=n+1:=(by omega);go_quiet (first | (go_at_call 367;with_reducible exact HQ'.out _))
  go_wp2;rw[Exit.noGoto_ret];go_wp2;rw[Exit.noGoto_ret];go_wp2;go_ret;exact ⟨rfl,⟨hbw.os,hbw.tape,hbw.output,hbw.size,hbw.block⟩⟩
theorem zbx (b B:Nat) (l:List UInt8) (z:Int) (w:World) (h:Bd w b B l) (h0:0<=z) (h1:z<=1114111) (hlen:l.length+4<=140737488355328) (hBw:B<=w.heap.size) :
    Calls prog 297 #[.pointer (some ⟨b,0,none⟩),.int .i32 z] w fun e w'=>(∃u,e=.returned (.tuple #[.int .i64 u,.nilIface]))/\Bd w' b B (l++encodeRune z)/\Fr w w' (Wr b B):=by
 have hlt:=h.lt;have HC:=hid (zba b B l w h);have HE:Hid (byteCells l++runeCells z=byteCells (l++encodeRune z)):=by
  show byteCells l++runeCells z=byteCells (l++encodeRune z);rw[<-byteCells_encodeRune];unfold byteCells;rw[List.map_append]
 have HL:Hid ((l++encodeRune z).length=l.length+(runeCells z).length):=by
  show (l++encodeRune z).length=l.length+(runeCells z).length;rw[List.length_append,runeCells_length]
 clear h;go_enter func297,ntmps297
 go_wp2_with fail
 refine HC.out.mono ?_;rintro e w1 ⟨rfl,hf1,v,hb,ho⟩;have hs1:=hf1.size;have c1:w1.cell? ⟨b,1,none⟩=some v:=(by rw[cell_of_heap hb];rfl);obtain ⟨ao,cap,rfl⟩:∃ao cap,v=.slice ao l.length cap:=by
  rcases ho.2 with ⟨hv,h0⟩ | ⟨g,cap,cur,hv,_⟩
  · exact ⟨none,0,by rw[hv,h0]⟩
  · exact ⟨_,_,hv⟩
 have HF:=hid hf1;have HA:=hid (Tryz.utf8_AppendRune_plain B (.slice ao l.length cap) l.length (byteCells l) z (by omega) (by omega) w1 ho hlen (by omega));have hob:∀k,(Value.slice ao l.length cap).ownBlock=some k->B<=k:=fun k hk=>(ho.lt k hk).1;have HH:=hid hb;clear hf1 ho hb;go_wp2_with fail
 refine HA.out.mono ?_;rintro e w2 ⟨v',rfl,hown',o,hg⟩;have hblt:b<w1.heap.size:=(by omega);have hb1:(w1.alloc o).heap[b]?=_:=(Lib.alloc_old w1 o b hblt).trans HH.out;have HP:=hid (Bd.put (l:=l++encodeRune z) (v':=v') hlt ((HF.out.mono (S':=Wr b B) fun k _ hk=>.inl hk).alloc o) hb1 (.inr rfl) (by simp;omega) hob hg (by rw[HL.out,<-HE.out];exact hown'));have hb2:w2.heap[b]?=some (.cells #[.pointer (some ⟨b,0,none⟩),.slice ao l.length cap] 179 (0,0)):=(hg.block b (by simp;omega) (fun e=>by have:=hob b e.symm;omega)).trans hb1;have d1:w2.cell? ⟨b,1,none⟩=some (.slice ao l.length cap):=(by rw[cell_of_heap hb2];rfl);have f1:w2.frozen? ⟨b,1,none⟩=false:=frozen_of_heap hb2 1;obtain ⟨ao',n',cap',rfl⟩:∃ao n' cap,v'=.slice ao n' cap:=by
  rcases hown'.2 with ⟨hv,_⟩ | ⟨g,cap,cur,hv,_⟩
  · exact ⟨_,_,_,hv⟩
  · exact ⟨_,_,_,hv⟩
 clear hb2 hb1 hg hob hown';go_wp2;go_ret2;exact ⟨⟨_,rfl⟩,HP.out.1,HP.out.2⟩
theorem zkL {b:UInt8} {r:Bs} {c m:Nat} (hd:Hd (b::r) c m) (hc:128<=c):dig b=none:=by
 have:=hd.high hc b (by
  obtain ⟨m',hm⟩:∃m',m=m'+1:=⟨m-1,by have:=hd.pos;omega⟩;rw[hm];simp)
 cases hz:dig b with
 | none=>rfl
 | some d=>
  have h2:=(znh b d hz).2;rw[UInt8.le_iff_toNat_le]at this;rw[UInt8.lt_iff_toNat_lt]at h2;exact absurd h2 (Nat.not_lt.2 this)
theorem zbt {b:UInt8} {r:Bs} {c m:Nat} (hd:Hd (b::r) c m) (hc:c<128):b.toNat=c/\(b::r).drop m=r:=by
 obtain ⟨r',he,hr,hm⟩:=hd.one hc;have h1:=List.cons.inj he;refine ⟨?_,?_⟩
 · rw[h1.1,UInt8.toNat_ofNat',Nat.mod_eq_of_lt (by omega)]
 · rw[hr,h1.2]
theorem zkK {b:UInt8} {r:Bs} {c m:Nat} (hd:Hd (b::r) c m) (h:digZ (c:Int) = -1):dig b=none:=by
 by_cases hc:c<128
 · have:=zgB b;rw[(zbt hd hc).1,h]at this;cases hz:dig b with
   | none=>rfl
   | some d=>
    rw[hz]at this;simp only at this;omega
 · exact zkL hd (by omega)
theorem zkJ {b:UInt8} {r:Bs} {c m:Nat} (hd:Hd (b::r) c m) (h:digZ (c:Int)≠-1):∃d:Nat,dig b=some d/\digZ (c:Int)=(d:Int)/\d<16/\(b::r).drop m=r:=by
 by_cases hc:c<128
 · have:=zgB b;rw[(zbt hd hc).1]at this;cases hz:dig b with
   | none=>
    rw[hz]at this;exact absurd this h
   | some d=>
    rw[hz]at this;exact ⟨d,rfl,this,(znh b d hz).1,(zbt hd hc).2⟩
 · exact absurd (zk7 (c:Int) (by omega)) h
structure NSt (w wr:World) (g n:Nat) (l:Bs) (k v:Nat) (r:Bs):Prop where
 rd:Rdr wr g r false
 fr:Fr w wr (fun k=>k=g)
 val:validD r=true
 eq:hexN (n-k) v r=hexN n 0 l
 le:v<=17825807
theorem zmx (n v:Nat) (h:0<n):hexN n v []=none:=by
 obtain ⟨m,rfl⟩:∃m,n=m+1:=⟨n-1,by omega⟩;rfl
theorem zl9 (n:Nat) (l:Bs) (h:∀v r,hexN n 0 l=some (v,r)->Lib.validRune (v:Int)=false):num n l=none:=by
 unfold num;cases hx:hexN n 0 l with
 | none=>rfl
 | some p=>
  rw[Option.bind_some,h p.1 p.2 hx];rfl
theorem zop (v:Nat) (h:1114111<v):Lib.validRune (v:Int)=false:=by
 unfold Lib.validRune;exact dF (by omega)
theorem zfH (z:Int) (h0 : -2147483648<=z) (h1:z<=2147483647):IntKind.i32.wrap z=z:=by
 rw[IntKind.wrap_i32];omega
theorem zcL (g n:Nat) (hn:n<=8) (l:Bs) (w:World) (h:Rdr w g l false) (ht:Lay w) (hv:validD l=true) :
    Calls prog 336 #[.pointer (some ⟨g,0,none⟩),.int .i64 n] w fun e w'=>Fr w w' (fun k=>k=g)/\
     ((∃(v:Nat) (r:Bs),num n l=some (encodeRune (v:Int),r)/\Lib.validRune (v:Int)=true/\e=.returned (.int .i32 (v:Int))/\Rdr w' g r false/\validD r=true)\/
      (∃(z:Int) (r:Bs),num n l=none/\e=.returned (.int .i32 z)/\Rdr w' g r true)):=by
 have hst0:NSt w w g n l 0 0 l:=⟨h,Fr.refl _ _,hv,rfl,by decide⟩;have HT:=hid ht;have hg:=h.1;clear h ht hv;go_enter func336,ntmps336
 go_wp2;go_loopw [5,8] (fun x i wr=>∃(k v:Nat) (r:Bs),k<=n/\x=.int .i32 (v:Int)/\i=.int .i64 k/\NSt w wr g n l k v r) (fun _ i _=>n-(RowKit.intOf i).toNat)
 case atStart=>exact ⟨0,0,l,Nat.zero_le _,rfl,rfl,hst0⟩
 case round=>
  clear hst0;obtain ⟨k,v,r,hk,rfl,rfl,hst⟩:=hrel;have HST:=hid hst;have hv0:=hst.le;clear hst;have hLay:Lay wr:=HT.out.at_ hg HST.out.fr;by_cases hlt:k<n
  · have fail_:∀w1,hexN (n-k) v r=none\/1114111<v->Fr wr w1 (fun k=>k=g)->num n l=none/\Fr w w1 (fun k=>k=g):=fun w1 hn hf=>by
     refine ⟨zl9 n l fun v' r' he=>?_,HST.out.fr.then_ hf fun _ h=>.inl h⟩;rw[<-HST.out.eq]at he;rcases hn with hn | hn
     · rw[hn]at he;cases he
     · exact zop v' (by have:=(zc0 _ _ _ _ _ he).2;omega)
    have FAIL:=hid fail_;clear fail_;by_cases hr:r=[]
    · subst hr;have HN:hexN (n-k) v []=none:=zmx _ _ (by omega);have FN:=hid fun w1 hf=>FAIL.out w1 (.inl HN) hf;clear HN;go_wp2_with fail
      refine (zdr g [] false wr HST.out.rd hLay (.inr rfl)).mono ?_;rintro e w1 ⟨rfl,h1,hf1⟩;have HD:=hid (zd2 (-1) (by decide) (by decide) w1);rw[show digZ (-1) = -1 from rfl]at HD;have H1:=hid h1;have F1:=hid hf1;clear h1 hf1;go_wp2_with fail
      refine HD.out.mono ?_;rintro e w2 ⟨rfl,hb2⟩;have h2:=H1.out.below hb2;have k1:=h2.c1;have f1:=h2.f 1;have H2:=hid h2;have F2:=hid (F1.out.step hb2);clear h2;go_wp2;go_ret;have F3:=F2.out.set_ (p:=⟨g,1,none⟩) (.inl rfl) (.bool true);exact ⟨(FN.out _ F3).2,.inr ⟨_,_,(FN.out _ F3).1,rfl,H2.out.set1 true⟩⟩
    · obtain ⟨c,m,hd⟩:=Hd.of r hr HST.out.val;have hval:=hd.val;have hcm:(c:Int)<=1114111:=by
       unfold Lib.validRune at hval;rw[decide_eq_true_eq]at hval;omega
      have HTK:=hid (zdq g r c m wr HST.out.rd hLay hr hd);have HD:=hid fun w1=>zd2 (c:Int) (by omega) hcm w1;by_cases hdig:digZ (c:Int) = -1\/1114111<v
      · have hx:hexN (n-k) v r=none\/1114111<v:=by
         rcases hdig with hdig | hdig
         · left
           obtain ⟨j,hj⟩:∃j,n-k=j+1:=⟨n-k-1,by omega⟩;rw[hj];cases r with
           | nil=>rfl
           | cons b r=>
            have hb:dig b=none:=zkK hd hdig;simp[hexN,hb]
         · exact .inr hdig
        have FN:=hid fun w1 hf=>FAIL.out w1 hx hf;clear hx hd hr;have hq:(digZ (c:Int) == -1)=true\/((digZ (c:Int) == -1)=false/\decide (1114111<(v:Int))=true):=by
         by_cases h1:digZ (c:Int) = -1
         · exact .inl (by simp[h1])
         · refine .inr ⟨by simp[h1],?_⟩;rcases hdig with h2 | h2
           · exact absurd h2 h1
           · exact dT (by omega)
        clear hdig;generalize digZ (c:Int)=z at HD hq;go_wp2_with fail
        refine HTK.out.mono ?_;rintro e w1 ⟨rfl,h1,hf1⟩;have H1:=hid h1;have F1:=hid hf1;clear h1 hf1;go_wp2_with fail
        refine (HD.out w1).mono ?_;rintro e w2 ⟨rfl,hb2⟩;have h2:=H1.out.below hb2;have k1:=h2.c1;have f1:=h2.f 1;have H2:=hid h2;have F2:=hid (F1.out.step hb2);clear h2;rcases hq with hq | ⟨hq,hq2⟩
        all_goals
         go_wp2;go_ret;have F3:=F2.out.set_ (p:=⟨g,1,none⟩) (.inl rfl) (.bool true);exact ⟨(FN.out _ F3).2,.inr ⟨_,_,(FN.out _ F3).1,rfl,H2.out.set1 true⟩⟩
      · have hne:digZ (c:Int)≠-1:=fun h=>hdig (.inl h);have hvl:¬(1114111<v):=fun h=>hdig (.inr h);clear hdig;cases r with
        | nil=>exact absurd rfl hr
        | cons b r=>
         obtain ⟨d,hb,hz,hd16,hdr⟩:=zkJ hd hne;have hrest:=hd.rest;rw[hdr]at hrest HTK;rw[hz]at HD;have b1:((d:Int) == -1)=false:=(by simp);have b2:decide ((1114111:Int)<(v:Int))=false:=dF (by omega);have hw:IntKind.i32.wrap (IntKind.i32.wrap ((v:Int)*16)+(d:Int))=((v*16+d:Nat):Int):=by
          rw[zfH ((v:Int)*16) (by omega) (by omega),zfH _ (by omega) (by omega)];omega
         have hnext:∀w3,Rdr w3 g r false->Fr wr w3 (fun k=>k=g)->NSt w w3 g n l (k+1) (v*16+d) r:=fun w3 h1 h2=>by
          refine ⟨h1,HST.out.fr.then_ h2 fun _ h=>.inl h,hrest,?_,by omega⟩;rw[<-HST.out.eq];obtain ⟨j,hj⟩:∃j,n-k=j+1:=⟨n-k-1,by omega⟩;rw[hj,show n-(k+1)=j from by omega];simp only[hexN,hb,Option.bind_some]
         have HNX:=hid hnext;clear hnext hd hr hne hvl hrest hdr hz hb FAIL;go_wp2_with fail
         refine HTK.out.mono ?_;rintro e w1 ⟨rfl,h1,hf1⟩;have H1:=hid h1;have F1:=hid hf1;clear h1 hf1;go_wp2_with fail
         refine (HD.out w1).mono ?_;rintro e w2 ⟨rfl,hb2⟩;have HN:=hid (HNX.out w2 (H1.out.below hb2) (F1.out.step hb2));have HW:=hid hw;clear hw;go_wp2;go_round
         case measure=>show n-((k:Int)+1).toNat<n-(k:Int).toNat;omega
         case rel=>exact ⟨k+1,v*16+d,r,by omega,by rw[Int.natCast_add,Int.natCast_mul];rfl,by simp,HN.out⟩
  · obtain rfl:k=n:=(by omega);have hx:hexN k 0 l=some (v,r):=by
     rw[<-HST.out.eq,Nat.sub_self];rfl
    have HV:=hid fun w1=>Tryz.utf8_ValidRune (v:Int) w1;have hnum:num k l=if Lib.validRune (v:Int)=true then some (encodeRune (v:Int),r) else none:=by
     unfold num;rw[hx,Option.bind_some]
    have HX:=hid hnum;clear hx hnum;cases hq:Lib.validRune (v:Int) with
    | true=>
     rw[hq]at HV HX;go_wp2_with fail
     refine (HV.out _).mono ?_;rintro e w2 ⟨rfl,rfl⟩;go_wp2;go_ret;exact ⟨HST.out.fr,.inl ⟨v,r,HX.out.trans (by simp),hq,rfl,HST.out.rd,HST.out.val⟩⟩
    | false=>
     rw[hq]at HV HX;have k1:=HST.out.rd.c1;have f1:=HST.out.rd.f 1;go_wp2_with fail
     refine (HV.out _).mono ?_;rintro e w2 ⟨rfl,rfl⟩;go_wp2;go_ret;exact ⟨HST.out.fr.set_ (p:=⟨g,1,none⟩) (.inl rfl) _,.inr ⟨_,r,HX.out.trans (by simp),rfl,HST.out.rd.set1 true⟩⟩
def idxZ (z:Int):Int:=if 0<=z/\z<128 then Lib.indexByte escs z.toNat.toUInt8 else -1
theorem zbr (z:Int) (h:z = -1\/(Lib.validRune z=true)) (w:World) :
    Calls prog 334 #[.string (str escs),.int .i32 z] w fun e w'=>e=.returned (.int .i64 (idxZ z))/\Below w.heap.size w w':=by
 unfold idxZ;rcases h with rfl | hv
 · rw[if_neg (by decide)];exact index_none w
 · have hv':=hv;unfold Lib.validRune at hv';rw[decide_eq_true_eq]at hv';by_cases hz:z<128
   · rw[if_pos ⟨by omega,hz⟩];exact zhB z (by omega) hz w
   · rw[if_neg (by omega)];by_cases h3:z=65533
     · subst h3;exact zkD w
     · exact zje z (by omega) (by omega) hv h3 w
def chkE (c:UInt8):Bool:=match unesc c with
 | some d=>decide (0<=Lib.indexByte escs c) && decide (Lib.indexByte escs c<8) && (escd.getD (Lib.indexByte escs c).toNat 0 == d) && decide (d<128)
 | none=>decide (Lib.indexByte escs c = -1)
theorem ziB (c:UInt8):chkE c=true:=by
 refine zas c (fun c=>chkE c=true) ?_;decide +kernel
theorem ziJ {c d:UInt8} (h:unesc c=some d):0<=Lib.indexByte escs c/\Lib.indexByte escs c<8/\escd.getD (Lib.indexByte escs c).toNat 0=d/\d<128:=by
 have:=ziB c;unfold chkE at this;rw[h]at this;simp only[Bool.and_eq_true,decide_eq_true_eq,beq_iff_eq]at this;exact ⟨this.1.1.1,this.1.1.2,this.1.2,this.2⟩
theorem ziK {c:UInt8} (h:unesc c=none):Lib.indexByte escs c = -1:=by
 have:=ziB c;unfold chkE at this;rw[h]at this;simpa using this
theorem ziL {c:UInt8} (h:128<=c.toNat):unesc c=none:=by
 cases hu:unesc c with
 | none=>rfl
 | some d=>
  have ne:∀e:UInt8,e.toNat<128->c≠e:=fun e he h2=>(by rw[h2]at h;omega);unfold unesc at hu;rw[if_neg (ne 116 (by decide)),if_neg (ne 98 (by decide)),if_neg (ne 110 (by decide)),if_neg (ne 114 (by decide)),if_neg (ne 102 (by decide)),if_neg (ne 34 (by decide)),if_neg (ne 39 (by decide)),if_neg (ne 92 (by decide))]at hu;cases hu
theorem zeM (g:Nat) (lit:Bool) (z:Int) (w:World) (hz:z = -1\/Lib.validRune z=true)
    (hT:Calls prog 295 #[.pointer (some ⟨g,0,none⟩)] w fun e w'=>e=.returned (.int .i32 z)/\(∃r b,Rdr w' g r b)/\Fr w w' (fun k=>k=g))
    (h1:z≠117) (h2:z≠85) (h3:lit=false\/idxZ z<0) :
    Calls prog 296 #[.pointer (some ⟨g,0,none⟩),.bool lit] w fun e w'=>Fr w w' (fun k=>k=g)/\∃(z:Int) (r:Bs),e=.returned (.int .i32 z)/\Rdr w' g r true:=by
 have HT:=hid hT;have HI:=hid fun w=>zbr z hz w;have b1:(z == 117)=false:=(by simp[h1]);have b2:(z == 85)=false:=(by simp[h2]);have h3':lit=false\/(lit=true/\decide (0<=idxZ z)=false):=by
  rcases h3 with h3 | h3
  · exact .inl h3
  · cases lit
    · exact .inl rfl
    · exact .inr ⟨rfl,dF (by omega)⟩
 generalize idxZ z=i at HI h3';clear hT hz h1 h2 h3;have HE:Hid (str escs=⟨#[116,98,110,114,102,34,39,92]⟩):=rfl;rw[HE.out]at HI;rcases h3' with rfl | ⟨rfl,hb⟩
 all_goals
  go_enter func296,ntmps296
  go_wp2_with fail
  refine HT.out.mono ?_;rintro e w1 ⟨rfl,⟨r,b,hr1⟩,hf1⟩;have H1:=hid hr1;have F1:=hid hf1;clear hr1 hf1;go_wp2_with fail
  refine (HI.out _).mono ?_;rintro e w2 ⟨rfl,hb2⟩;have h2:=H1.out.below hb2;have k1:=h2.c1;have f1:=h2.f 1;have H2:=hid h2;have F2:=hid (F1.out.step hb2);clear h2;go_wp2;go_ret;exact ⟨F2.out.set_ (p:=⟨g,1,none⟩) (.inl rfl) _,_,r,rfl,H2.out.set1 true⟩
theorem zeL (g n:Nat) (lit:Bool) (z:Int) (r:Bs) (w:World) (ht:Lay w) (hz:(z=117/\n=4)\/(z=85/\n=8)) (hv:validD r=true)
    (hT:Calls prog 295 #[.pointer (some ⟨g,0,none⟩)] w fun e w'=>e=.returned (.int .i32 z)/\Rdr w' g r false/\Fr w w' (fun k=>k=g)) :
    Calls prog 296 #[.pointer (some ⟨g,0,none⟩),.bool lit] w fun e w'=>Fr w w' (fun k=>k=g)/\
     ((∃(v:Nat) (q:Bs),num n r=some (encodeRune (v:Int),q)/\Lib.validRune (v:Int)=true/\e=.returned (.int .i32 (v:Int))/\Rdr w' g q false/\validD q=true)\/
      (∃(z:Int) (q:Bs),num n r=none/\e=.returned (.int .i32 z)/\Rdr w' g q true)):=by
 have HT:=hid hT;have HL:=hid ht;have HE:Hid (str escs=⟨#[116,98,110,114,102,34,39,92]⟩):=rfl;have HV:=hid hv;clear hT ht hv;rcases hz with ⟨rfl,rfl⟩ | ⟨rfl,rfl⟩
 · have HI:=hid fun w=>zbr 117 (.inr (by decide)) w;rw[HE.out]at HI;go_enter func296,ntmps296
   go_wp2_with fail
   refine HT.out.mono ?_;rintro e w1 ⟨rfl,hr1,hf1⟩;have H1:=hid hr1;have F1:=hid hf1;clear hr1 hf1;go_wp2_with fail
   refine (HI.out _).mono ?_;rintro e w2 ⟨rfl,hb2⟩;have HN:=hid (zcL g 4 (by decide) r w2 (H1.out.below hb2) ((HL.out.at_ H1.out.1 F1.out).below hb2) HV.out);have F2:=hid (F1.out.step hb2);go_wp2_with fail
   refine HN.out.mono ?_;rintro e w3 ⟨hf3,⟨v,q,hn,hvr,rfl,hq,hvq⟩ | ⟨z,q,hn,rfl,hq⟩⟩
   · go_wp2;go_ret;exact ⟨F2.out.then_ hf3 fun _ h=>.inl h,.inl ⟨v,q,hn,hvr,rfl,hq,hvq⟩⟩
   · go_wp2;go_ret;exact ⟨F2.out.then_ hf3 fun _ h=>.inl h,.inr ⟨z,q,hn,rfl,hq⟩⟩
 · have HI:=hid fun w=>zbr 85 (.inr (by decide)) w;rw[HE.out]at HI;go_enter func296,ntmps296
   go_wp2_with fail
   refine HT.out.mono ?_;rintro e w1 ⟨rfl,hr1,hf1⟩;have H1:=hid hr1;have F1:=hid hf1;clear hr1 hf1;go_wp2_with fail
   refine (HI.out _).mono ?_;rintro e w2 ⟨rfl,hb2⟩;have HN:=hid (zcL g 8 (by decide) r w2 (H1.out.below hb2) ((HL.out.at_ H1.out.1 F1.out).below hb2) HV.out);have F2:=hid (F1.out.step hb2);go_wp2_with fail
   refine HN.out.mono ?_;rintro e w3 ⟨hf3,⟨v,q,hn,hvr,rfl,hq,hvq⟩ | ⟨z,q,hn,rfl,hq⟩⟩
   · go_wp2;go_ret;exact ⟨F2.out.then_ hf3 fun _ h=>.inl h,.inl ⟨v,q,hn,hvr,rfl,hq,hvq⟩⟩
   · go_wp2;go_ret;exact ⟨F2.out.then_ hf3 fun _ h=>.inl h,.inr ⟨z,q,hn,rfl,hq⟩⟩
theorem zjl (g:Nat) (z:Int) (i:Nat) (d:UInt8) (r:Bs) (w:World) (hz:Lib.validRune z=true) (h1:z≠117) (h2:z≠85) (hi:idxZ z=(i:Int)) (h8:i<8) (hd:escd.getD i 0=d)
    (hT:Calls prog 295 #[.pointer (some ⟨g,0,none⟩)] w fun e w'=>e=.returned (.int .i32 z)/\Rdr w' g r false/\Fr w w' (fun k=>k=g)) :
    Calls prog 296 #[.pointer (some ⟨g,0,none⟩),.bool true] w fun e w'=>Fr w w' (fun k=>k=g)/\e=.returned (.int .i32 (d.toNat:Int))/\Rdr w' g r false:=by
 have HT:=hid hT;have HE:Hid (str escs=⟨#[116,98,110,114,102,34,39,92]⟩):=rfl;have HI:=hid fun w=>zbr z (.inr hz) w;rw[hi,HE.out]at HI;have b1:(z == 117)=false:=(by simp[h1]);have b2:(z == 85)=false:=(by simp[h2]);have hs:i<(⟨#[9,8,10,13,12,34,39,92]⟩:ByteArray).size:=h8;have hg:((⟨#[9,8,10,13,12,34,39,92]⟩:ByteArray)[i]'hs).toNat=d.toNat:=by
  rw[<-hd,List.getD_eq_getElem?_getD,List.getElem?_eq_getElem (show i<escd.length from h8)];rfl
 clear hT hz h1 h2 hi hd;go_enter func296,ntmps296
 go_wp2_with fail
 refine HT.out.mono ?_;rintro e w1 ⟨rfl,hr1,hf1⟩;have H1:=hid hr1;have F1:=hid hf1;clear hr1 hf1;go_wp2_with fail
 refine (HI.out _).mono ?_;rintro e w2 ⟨rfl,hb2⟩;have i8:(i:Int)<8:=(by omega);have i0:decide ((0:Int)<=(i:Int))=true:=dT (by omega);go_wp2;go_ret;exact ⟨F1.out.step hb2,by have:=d.toNat_lt;simp;unfold Go.RowKit.wrap32;omega,H1.out.below hb2⟩
theorem esc_u (lit:Bool) (r:Bs):esc lit (117::r)=num 4 r:=by simp[esc]
theorem esc_U (lit:Bool) (r:Bs):esc lit (85::r)=num 8 r:=by simp[esc]
theorem zgw (lit:Bool) (b:UInt8) (r:Bs) (h1:b≠117) (h2:b≠85):esc lit (b::r)=if lit then (unesc b).map fun d=>([d],r) else none:=by simp[esc,h1,h2]
theorem zmN (d:UInt8) (h:d<128):encodeRune (d.toNat:Int)=[d]:=by
 rw[zd0 d.toNat (by rw[UInt8.lt_iff_toNat_lt]at h;exact h)];simp
theorem zgv (g:Nat) (l:Bs) (lit:Bool) (w:World) (h:Rdr w g l false) (ht:Lay w) (hv:validD l=true) :
    Calls prog 296 #[.pointer (some ⟨g,0,none⟩),.bool lit] w fun e w'=>Fr w w' (fun k=>k=g)/\
     ((∃(z:Int) (t r:Bs),esc lit l=some (t,r)/\t=encodeRune z/\0<=z/\z<=1114111/\e=.returned (.int .i32 z)/\Rdr w' g r false/\validD r=true)\/
      (∃(z:Int) (r:Bs),esc lit l=none/\e=.returned (.int .i32 z)/\Rdr w' g r true)):=by
 by_cases hl:l=[]
 · subst hl;refine (zeM g lit (-1) w (.inl rfl) ((zdr g [] false w h ht (.inr rfl)).mono fun e w' h=>⟨h.1,⟨_,_,h.2.1⟩,h.2.2⟩) (by decide) (by decide) (.inr (by decide))).mono ?_;rintro e w' ⟨hf,z,r,he,hr⟩;exact ⟨hf,.inr ⟨z,r,rfl,he,hr⟩⟩
 · obtain ⟨c,m,hd⟩:=Hd.of l hl hv;have hT:=zdq g l c m w h ht hl hd;have hval:=hd.val;cases l with
   | nil=>exact absurd rfl hl
   | cons b r=>
    have bad:esc lit (b::r)=none->(c:Int)≠117->(c:Int)≠85->(lit=false\/idxZ (c:Int)<0)->Calls prog 296 #[.pointer (some ⟨g,0,none⟩),.bool lit] w fun e w'=>Fr w w' (fun k=>k=g)/\
    ((∃(z:Int) (t q:Bs),esc lit (b::r)=some (t,q)/\t=encodeRune z/\0<=z/\z<=1114111/\e=.returned (.int .i32 z)/\Rdr w' g q false/\validD q=true)\/
     (∃(z:Int) (q:Bs),esc lit (b::r)=none/\e=.returned (.int .i32 z)/\Rdr w' g q true)):=fun he h1 h2 h3=>by
      refine (zeM g lit (c:Int) w (.inr hval) (hT.mono fun e w' h=>⟨h.1,⟨_,_,h.2.1⟩,h.2.2⟩) h1 h2 h3).mono ?_;rintro e w' ⟨hf,z,r,hz,hr⟩;exact ⟨hf,.inr ⟨z,r,he,hz,hr⟩⟩
    by_cases hc:c<128
    · obtain ⟨hb,hdr⟩:=zbt hd hc;have hrest:=hd.rest;rw[hdr]at hT hrest;have hbz:(c:Int)=(b.toNat:Int):=(by rw[hb]);by_cases h1:b=117
      · subst h1;refine (zeL g 4 lit (c:Int) r w ht (.inl ⟨hbz,rfl⟩) hrest hT).mono ?_;rintro e w' ⟨hf,⟨v,q,hn,hvr,rfl,hq,hvq⟩ | ⟨z,q,hn,rfl,hq⟩⟩
        · have hvr':=hvr;unfold Lib.validRune at hvr';rw[decide_eq_true_eq]at hvr';exact ⟨hf,.inl ⟨(v:Int),_,q,(esc_u lit r).trans hn,rfl,by omega,by omega,rfl,hq,hvq⟩⟩
        · exact ⟨hf,.inr ⟨z,q,(esc_u lit r).trans hn,rfl,hq⟩⟩
      · by_cases h2:b=85
        · subst h2;refine (zeL g 8 lit (c:Int) r w ht (.inr ⟨hbz,rfl⟩) hrest hT).mono ?_;rintro e w' ⟨hf,⟨v,q,hn,hvr,rfl,hq,hvq⟩ | ⟨z,q,hn,rfl,hq⟩⟩
          · have hvr':=hvr;unfold Lib.validRune at hvr';rw[decide_eq_true_eq]at hvr';exact ⟨hf,.inl ⟨(v:Int),_,q,(esc_U lit r).trans hn,rfl,by omega,by omega,rfl,hq,hvq⟩⟩
          · exact ⟨hf,.inr ⟨z,q,(esc_U lit r).trans hn,rfl,hq⟩⟩
        · have n1:(c:Int)≠117:=fun h=>h1 (UInt8.toNat_inj.1 (by rw[hb];exact Int.ofNat.inj h));have n2:(c:Int)≠85:=fun h=>h2 (UInt8.toNat_inj.1 (by rw[hb];exact Int.ofNat.inj h));have hix:idxZ (c:Int)=Lib.indexByte escs b:=by
           unfold idxZ;rw[if_pos ⟨by omega,by omega⟩,<-hb];simp
          have ho:=zgw lit b r h1 h2;cases lit with
          | false=>exact bad (by rw[ho];rfl) n1 n2 (.inl rfl)
          | true=>
           cases hu:unesc b with
           | none=>exact bad (by rw[ho,hu];rfl) n1 n2 (.inr (by rw[hix,ziK hu];decide))
           | some d=>
            obtain ⟨i0,i8,hd',d128⟩:=ziJ hu;obtain ⟨i,hi⟩:=Int.eq_ofNat_of_zero_le i0;rw[hi]at i8 hd' hix;refine (zjl g (c:Int) i d r w hval n1 n2 hix (by omega) hd' hT).mono ?_;rintro e w' ⟨hf,rfl,hr⟩;refine ⟨hf,.inl ⟨(d.toNat:Int),[d],r,by rw[ho,hu];rfl,(zmN d d128).symm,by omega,?_,rfl,hr,hrest⟩⟩;rw[UInt8.lt_iff_toNat_lt]at d128;have:d.toNat<128:=d128;omega
    · have hb:=hd.high (by omega) b (by
       obtain ⟨m',hm⟩:∃m',m=m'+1:=⟨m-1,by have:=hd.pos;omega⟩;rw[hm];simp)
      have hb':128<=b.toNat:=(by rw[UInt8.le_iff_toNat_le]at hb;exact hb);have h1:b≠117:=fun e=>(by rw[e]at hb';exact absurd hb' (by decide));have h2:b≠85:=fun e=>(by rw[e]at hb';exact absurd hb' (by decide));refine bad ?_ (by omega) (by omega) (.inr ?_)
      · rw[zgw lit b r h1 h2,ziL hb'];cases lit<;>rfl
      · unfold idxZ;rw[if_neg (by omega)];decide
def rlen (w:World) (g:Nat):Nat:=match w.cell? ⟨g,0,none⟩ with | some (.string s)=>s.size | _=>0
theorem zhb {w:World} {g:Nat} {l:Bs} {b:Bool} (h:Rdr w g l b):rlen w g=l.length:=by
 unfold rlen;rw[h.c0];exact zab l
def Un (g b:Nat):Nat->Prop:=fun k=>k=g\/Wr b (b+1) k
structure USt (w2 wr:World) (g b:Nat) (e:UInt8) (lit:Bool) (l acc r:Bs):Prop where
 rd:Rdr wr g r false
 bd:Bd wr b (b+1) acc
 fr:Fr w2 wr (Un g b)
 val:validD r=true
 eq:upTo lit e lit l=(upTo lit e lit r).map fun q=>(acc++q.1,q.2)
 le:acc.length+4*r.length<=4*l.length
theorem zgd (o:Option (Bs × Bs)) (a t:Bs):(o.map fun q=>(t++q.1,q.2)).map (fun q=>(a++q.1,q.2))=o.map fun q=>((a++t)++q.1,q.2):=by
 cases o with
 | none=>rfl
 | some q=>simp
theorem USt.step {w2 wr w3:World} {g b:Nat} {e:UInt8} {lit:Bool} {l acc r t q:Bs} (h:USt w2 wr g b e lit l acc r) (hs:upTo lit e lit r=(upTo lit e lit q).map fun p=>(t++p.1,p.2))
    (hlen:t.length<=4) (hq:q.length<r.length) (hv:validD q=true) (hr:Rdr w3 g q false) (hb:Bd w3 b (b+1) (acc++t)) (hf:Fr wr w3 (Un g b)):USt w2 w3 g b e lit l (acc++t) q:=
 ⟨hr,hb,h.fr.then_ hf fun _ h=>.inl h,hv,by rw[h.eq,hs,zgd],by have:=h.le;rw[List.length_append];omega⟩
theorem Fr.of_belowB {B:Nat} {w w1:World} (h:Below B w w1):Fr w w1 (fun k=>B<=k):=⟨h.os,h.tape,h.output,h.size,fun k _ hn=>h.block k (by omega)⟩
theorem Rdr.belowB {B:Nat} {w w1:World} {g:Nat} {l:Bs} {b:Bool} (h:Rdr w g l b) (hb:Below B w w1) (hg:g<B):Rdr w1 g l b:=h.fr (Fr.of_belowB hb) (by omega)
theorem zhX {w w2 wr w3 w4:World} {g:Nat} (h0:Below w.heap.size w w2) (h1:Fr w2 wr (Un g w.heap.size)) (h2:Fr wr w3 (Un g w.heap.size)) (h3:Below w.heap.size w3 w4):Fr w w4 (fun k=>k=g):=by
 have key:∀k,Un g w.heap.size k->k=g\/w.heap.size<=k:=fun k h=>(by rcases h with h | h | h<;>omega);exact (((Fr.of_below h0 (fun k=>k=g)).then_ h1 key).then_ h2 key).then_ (Fr.of_belowB h3) fun k h=>.inr h
theorem piece {e:UInt8} {lit:Bool} {r:Bs} {c m:Nat} (hd:Hd r c m) (he:e<128) (h1:c≠e.toNat) (h2:c≠92) (h3:¬(lit=true/\(c=10\/c=13))):upTo lit e lit r=(upTo lit e lit (r.drop m)).map fun q=>(encodeRune (c:Int)++q.1,q.2):=by
 rw[hd.enc];by_cases hc:c<128
 · cases r with
   | nil=>have h4:=hd.le;have h5:=hd.pos;simp at h4;omega
   | cons b r=>
    obtain ⟨hb,hdr⟩:=zbt hd hc;have hm:=(hd.asc hc).1;subst hm;rw[hdr];have ne:∀d:UInt8,c≠d.toNat->b≠d:=fun d h e=>h (by rw[<-hb,e]);rw[zdb lit e lit b r (ne e h1) (ne 92 h2) (fun h=>h3 ⟨h.1,by rcases h.2 with h | h;exact .inl (by rw[<-hb,h];rfl);exact .inr (by rw[<-hb,h];rfl)⟩)];rfl
 · conv=>lhs;rw[<-List.take_append_drop m r]
   exact zfJ lit e lit he _ _ (hd.high (by omega))
theorem zk6 (z:Int):(encodeRune z).length<=4:=by
 rw[<-runeCells_length];have:=(encodeRuneZ_length z).2;simpa [runeCells] using this
theorem zdd (g:Nat) (l:Bs) (e:UInt8) (lit:Bool) (w:World) (h:Rdr w g l false) (ht:Lay w) (hv:validD l=true) (hl:l.length<=1000000) (he:e<128) (he2:e≠92) (he3:e≠10/\e≠13) :
    Calls prog 232 #[.pointer (some ⟨g,0,none⟩),.int .i32 (e.toNat:Int),.bool lit] w fun v w'=>Fr w w' (fun k=>k=g)/\
     ((∃x r,upTo lit e lit l=some (x,r)/\v=.returned (.string (str x))/\Rdr w' g r false/\validD r=true)\/
      (∃s r,upTo lit e lit l=none/\v=.returned (.string s)/\Rdr w' g r true)):=by
 have hg:=h.1;have hgl:=h.lt
 have hst0:USt (w.alloc (.cells #[.pointer none,.slice none 0 0] 179)) (w.alloc (.cells #[.pointer none,.slice none 0 0] 179)) g w.heap.size e lit l [] l:=
  ⟨h.below (br.alloc nL _),Bd.new w _ (by omega),Fr.refl _ _,hv,by cases upTo lit e lit l<;>rfl,by simp⟩
 have HT0:=hid (ht.below ((Below.refl w.heap.size w).alloc nL (.cells #[.pointer none,.slice none 0 0] 179)));have hb0:Below w.heap.size w (w.alloc (.cells #[.pointer none,.slice none 0 0] 179)):=br.alloc nL _;have hw2:(w.alloc (.cells #[.pointer none,.slice none 0 0] 179)).heap.size=w.heap.size+1:=(by simp);obtain ⟨ez,hez⟩:∃z:Int,(e.toNat:Int)=z:=⟨_,rfl⟩;have HEZ:=hid hez;have HE:=hid (And.intro he (And.intro he2 he3));rw[hez];clear h ht hv hez he he2 he3;go_enter func232,ntmps232
 go_wp2;go_step3
 go_wp2;go_step3
 go_wp2;generalize w.alloc (.cells #[.pointer none,.slice none 0 0] 179)=w2 at hst0 HT0 hb0 hw2 ⊢;have HB:=hid hb0;clear hb0;go_loopw [] (fun wr=>∃(acc r:Bs),USt w2 wr g w.heap.size e lit l acc r) (fun wr=>rlen wr g)
 case atStart=>exact ⟨[],l,hst0⟩
 case round=>
  clear hst0;obtain ⟨acc,r,hst⟩:=hrel;have HST:=hid hst;have k1:=hst.rd.c1;have hle:=hst.le;have hwr:=hst.fr.size;have hLay:Lay wr:=HT0.out.fr hst.fr fun k hk h=>(by rcases h with h | h | h<;>omega);have hrl:=zhb hst.rd;clear hst;have hE1:=HE.out.2.1
  have fin:∀w3 v w4,(∃r',Rdr w3 g r' true)->Fr wr w3 (Un g w.heap.size)->upTo lit e lit r=none->Below w.heap.size w3 w4->(∃s,v=Ending.returned (.string s))->
      Fr w w4 (fun k=>k=g)/\((∃x r,upTo lit e lit l=some (x,r)/\v=.returned (.string (str x))/\Rdr w4 g r false/\validD r=true)\/(∃s r,upTo lit e lit l=none/\v=.returned (.string s)/\Rdr w4 g r true)):=by
   rintro w3 v w4 ⟨r',hr'⟩ hf hn hb ⟨s,hs⟩;refine ⟨zhX HB.out HST.out.fr hf hb,.inr ⟨s,r',?_,hs,hr'.belowB hb hgl⟩⟩;rw[HST.out.eq,hn];rfl
  have FIN:=hid fin;clear fin;have hbdr:∀w3,Fr wr w3 (fun k=>k=g)->Bd w3 w.heap.size (w.heap.size+1) acc:=fun w3 hf=>HST.out.bd.fr hf (by omega) (fun k hk=>by omega);have HBD:=hid hbdr;clear hbdr;have hun:∀w3,Fr wr w3 (fun k=>k=g)->Fr wr w3 (Un g w.heap.size):=fun w3 hf=>hf.mono fun k _ h=>.inl h;have HUN:=hid hun;clear hun;by_cases hr:r=[]
  · subst hr;have q1:((-1:Int) == ez)=false:=(by simp;have:=HEZ.out;omega);have HTK:=hid (zdr g [] false wr HST.out.rd hLay (.inr rfl));go_wp2_with fail
    refine HTK.out.mono ?_;rintro v w3 ⟨rfl,h3,hf3⟩;have k3:=h3.c1;have hs3:=hf3.size;have H3:=hid h3;have F3:=hid hf3;clear h3 hf3;cases lit
    all_goals
     go_wp2_with fail
     refine (zaG _ _ _ _ (HBD.out _ F3.out) (by omega)).mono ?_;rintro v w4 ⟨rfl,hb4⟩;go_wp2
     (try rw[Exit.noGoto_ret])
     go_ret;exact FIN.out _ _ _ ⟨_,H3.out⟩ (HUN.out _ F3.out) rfl hb4 ⟨_,rfl⟩
  · obtain ⟨c,m,hd⟩:=Hd.of r hr HST.out.val;have HTK:=hid (zdq g r c m wr HST.out.rd hLay hr hd);have hval:=hd.val;unfold Lib.validRune at hval;rw[decide_eq_true_eq]at hval;have hcz:(c:Int)<=1114111:=(by omega);clear hval;have HD:=hid hd;clear hd;by_cases h1:c=e.toNat
    · have hend:upTo lit e lit r=some ([],r.drop m):=by
       have he:=HE.out.1;rw[UInt8.lt_iff_toNat_lt]at he;have hc:c<128:=(by rw[h1];exact he);cases r with
       | nil=>exact absurd rfl hr
       | cons b r=>
        obtain ⟨hb,hdr⟩:=zbt HD.out hc;have hbe:b=e:=UInt8.toNat_inj.1 (hb.trans h1);rw[hdr,hbe];exact zhW lit e lit r
      have q1:((c:Int) == ez)=true:=(by simp;rw[h1];exact HEZ.out);have hall:upTo lit e lit l=some (acc,r.drop m):=by
       rw[HST.out.eq,hend];simp
      have HA:=hid hall;clear hend hall h1 FIN;go_wp2_with fail
      refine HTK.out.mono ?_;rintro v w3 ⟨rfl,h3,hf3⟩;have hs3:=hf3.size;have H3:=hid h3;have F3:=hid hf3;clear h3 hf3;go_wp2_with fail
      refine (zaG _ _ _ _ (HBD.out _ F3.out) (by omega)).mono ?_;rintro v w4 ⟨rfl,hb4⟩;go_wp2
      (try rw[Exit.noGoto_ret])
      go_ret;exact ⟨zhX HB.out HST.out.fr (HUN.out _ F3.out) hb4,.inl ⟨acc,r.drop m,HA.out,rfl,H3.out.belowB hb4 hgl,HD.out.rest⟩⟩
    · have q1:((c:Int) == ez)=false:=(by simp;have:=HEZ.out;omega);by_cases h2:c=92
      · subst h2;have hq:∃q,r=92::q/\r.drop m=q:=by
         obtain ⟨q,h4,h5,_⟩:=HD.out.one (by decide);exact ⟨q,h4,h5⟩
        obtain ⟨q,rfl,hdr⟩:=hq;rw[hdr]at HTK;have hvq:=HD.out.rest;rw[hdr]at hvq;have hup:=zhV lit e lit q HE.out.2.1;have HU:=hid hup;have q2:((92:Int) == ez)=false:=q1;clear hup hdr q1;go_wp2_with fail
        refine HTK.out.mono ?_;rintro v w3 ⟨rfl,h3,hf3⟩;have hs3:=hf3.size;have HX:=hid (zgv g q lit w3 h3 (hLay.at_ hg hf3) hvq);have H3:=hid h3;have F3:=hid hf3;clear h3 hf3 hvq;go_wp2_with fail
        refine HX.out.mono ?_;rintro v w5 ⟨hf5,⟨z,t,q',hes,htz,hz0,hz1,rfl,hr5,hv5⟩ | ⟨z,q',hes,rfl,hr5⟩⟩
        · have hlen:=zcD lit q t q' hes;have hs5:=hf5.size;have k5:=hr5.c1;have F5:=hid (F3.out.then_ hf5 fun _ h=>.inl h);have hp:upTo lit e lit (92::q)=(upTo lit e lit q').map fun p=>(encodeRune z++p.1,p.2):=by
           rw[HU.out,hes,htz];rfl
          have hstep:∀w4,Rdr w4 g q' false->Bd w4 w.heap.size (w.heap.size+1) (acc++encodeRune z)->Fr wr w4 (Un g w.heap.size)->USt w2 w4 g w.heap.size e lit l (acc++encodeRune z) q':=fun w4 x1 x2 x3=>
           HST.out.step hp (zk6 _) (by simp only[List.length_cons];omega) hv5 x1 x2 x3
          have HS:=hid hstep;have hdl:q'.length<(92::q:Bs).length:=(by simp only[List.length_cons];omega);have H5:=hid hr5;clear hp hstep FIN hes htz hlen hf5 hr5;go_wp2_with fail
          refine (zbx _ _ _ _ _ (HBD.out _ F5.out) hz0 hz1 (by omega) (by omega)).mono ?_;rintro v w4 ⟨⟨u,rfl⟩,hb4,hf4⟩;have hr4:Rdr w4 g q' false:=H5.out.fr hf4 (fun h=>by rcases h with h | h<;>omega);have HN:=hid (HS.out w4 hr4 hb4 ((HUN.out _ F5.out).then_ hf4 fun _ h=>.inl (.inr h)));have hrl4:=zhb hr4;clear hb4 hf4 hr4;go_wp2;go_roundw
          case rel=>exact ⟨_,_,HN.out⟩
          case measure=>rw[hrl,hrl4];exact hdl
        · have hs5:=hf5.size;have k5:=hr5.c1;have F5:=hid (F3.out.then_ hf5 fun _ h=>.inl h);have hp:upTo lit e lit (92::q)=none:=by
           rw[HU.out,hes];rfl
          have HP:=hid hp;have H5:=hid hr5;clear hp hes hf5 hr5;go_wp2_with fail
          refine (zaG _ _ _ _ (HBD.out _ F5.out) (by omega)).mono ?_;rintro v w4 ⟨rfl,hb4⟩;go_wp2
          (try rw[Exit.noGoto_ret])
          go_ret;exact FIN.out _ _ _ ⟨_,H5.out⟩ (HUN.out _ F5.out) HP.out hb4 ⟨_,rfl⟩
      · have q2:((c:Int) == 92)=false:=(by simp;omega);by_cases h3:lit=true/\(c=10\/c=13)
        · obtain ⟨rfl,h3⟩:=h3;have hn:upTo true e true r=none:=by
           cases r with
           | nil=>rfl
           | cons b r=>
            obtain ⟨hb,_⟩:=zbt HD.out (by omega);refine zjz e true b r (fun h=>h1 (by rw[<-hb,h])) (fun h=>h2 (by rw[<-hb,h];rfl)) ?_;rcases h3 with h3 | h3
            · exact .inl (UInt8.toNat_inj.1 (hb.trans h3))
            · exact .inr (UInt8.toNat_inj.1 (hb.trans h3))
          have HN:=hid hn;have q3:((c:Int) == 10)=true\/(((c:Int) == 10)=false/\((c:Int) == 13)=true):=by
           rcases h3 with h3 | h3
           · exact .inl (by simp;omega)
           · exact .inr ⟨by simp;omega,by simp;omega⟩
          clear hn h1 h2 h3;go_wp2_with fail
          refine HTK.out.mono ?_;rintro v w3 ⟨rfl,h3,hf3⟩;have k3:=h3.c1;have f3:=h3.f 1;have hs3:=hf3.size;have H3:=hid h3;have F3:=hid hf3;clear h3 hf3;have F4:=hid (F3.out.set_ (p:=⟨g,1,none⟩) (.inl rfl) (.bool true));have H4:=hid (H3.out.set1 true);rcases q3 with q3 | ⟨q3,q4⟩
          all_goals
           go_wp2_with fail
           refine (zaG _ _ _ _ (HBD.out _ F4.out) (by simp;omega)).mono ?_;rintro v w4 ⟨rfl,hb4⟩;go_wp2
           (try rw[Exit.noGoto_ret])
           go_ret;exact FIN.out _ _ _ ⟨_,H4.out⟩ (HUN.out _ F4.out) HN.out hb4 ⟨_,rfl⟩
        · have hp:=piece HD.out HE.out.1 h1 h2 h3
          have hstep:∀w4,Rdr w4 g (r.drop m) false->Bd w4 w.heap.size (w.heap.size+1) (acc++encodeRune (c:Int))->Fr wr w4 (Un g w.heap.size)->USt w2 w4 g w.heap.size e lit l (acc++encodeRune (c:Int)) (r.drop m):=fun w4 x1 x2 x3=>
           HST.out.step hp (zk6 _) (by rw[List.length_drop];have:=HD.out.pos;have:=HD.out.le;omega) HD.out.rest x1 x2 x3
          have HS:=hid hstep;have hdl:(r.drop m).length<r.length:=(by rw[List.length_drop];have:=HD.out.pos;have:=HD.out.le;omega);clear hp hstep FIN;have q3:lit=false\/(lit=true/\((c:Int) == 10)=false/\((c:Int) == 13)=false):=by
           cases lit
           · exact .inl rfl
           · refine .inr ⟨rfl,?_,?_⟩<;>(simp at h3 ⊢;omega)
          clear h1 h2 h3;go_wp2_with fail
          refine HTK.out.mono ?_;rintro v w3 ⟨rfl,h3,hf3⟩;have k3:=h3.c1;have hs3:=hf3.size;have H3:=hid h3;have F3:=hid hf3;clear h3 hf3;rcases q3 with rfl | ⟨rfl,q4,q5⟩
          all_goals
           go_wp2_with fail
           refine (zbx _ _ _ _ _ (HBD.out _ F3.out) (by omega) hcz (by omega) (by omega)).mono ?_;rintro v w4 ⟨⟨u,rfl⟩,hb4,hf4⟩;have hr4:Rdr w4 g (r.drop m) false:=H3.out.fr hf4 (fun h=>by rcases h with h | h<;>omega);have HN:=hid (HS.out w4 hr4 hb4 ((HUN.out _ F3.out).then_ hf4 fun _ h=>.inl (.inr h)));have hrl4:=zhb hr4;clear hb4 hf4 hr4;go_wp2;go_roundw
           case rel=>exact ⟨_,_,HN.out⟩
           case measure=>rw[hrl,hrl4];exact hdl
end Go.Proofs.YtaeiifngjglchaaGreatDoor
end
