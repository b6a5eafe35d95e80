/- Proved on the way: Merging in place: exchanges of stretches; slices.swapRangeCmpFunc at triples; slices.rotateCmpFunc at triples; slices.symMergeCmpFunc at triples: one o; slices.symMergeCmpFunc at triples: one o. Each theorem states its own conditions. -/
import Derived.Test.YtaeiifngjglchaaGreatDoorM6
set_option maxHeartbeats 16000000
set_option maxRecDepth 1000000
section
namespace Go.Proofs.YtaeiifngjglchaaGreatDoor.Mg
open Go.Proofs.Tryz
open Go.Sort
section
variable {α:Type} [Inhabited α]
def swI (a b n k:Nat):Nat:=if a<=k/\k<a+n then k-a+b else if b<=k/\k<b+n then k-b+a else k
def roI (a m b k:Nat):Nat:=if k<a\/b<=k then k else if k<a+(b-m) then k+(m-a) else k-(b-m)
def IsMap (d r:Array α) (f:Nat->Nat):Prop:=r.size=d.size/\∀k,r[k]! = d[f k]!
theorem IsMap.refl (d:Array α):IsMap d d id:=⟨rfl,fun _=>rfl⟩
theorem IsMap.congr {d r:Array α} {f g:Nat->Nat} (h:IsMap d r f) (hfg:∀k,f k=g k):IsMap d r g:=⟨h.1,fun k=>by rw[h.2,hfg]⟩
theorem IsMap.trans {d c r:Array α} {f g:Nat->Nat} (h:IsMap d c f) (h2:IsMap c r g):IsMap d r (fun k=>f (g k)):=⟨h2.1.trans h.1,fun k=>by rw[h2.2,h.2]⟩
theorem zg1 (d:Array α) {i j:Nat} (hi:i<d.size) (hj:j<d.size):IsMap d (swp d i j) (fun k=>if k=j then i else if k=i then j else k):=by
 refine ⟨size_swp d i j,fun k=>?_⟩;dsimp only;by_cases h1:k=j
 · rw[if_pos h1,h1];exact swp_right d i j hj
 · rw[if_neg h1];by_cases h2:k=i
   · rw[if_pos h2,h2];exact swp_left d i j hi (fun e=>h1 (h2.trans e))
   · rw[if_neg h2];exact swp_other d i j k h2 h1
structure Swapped (d r:Array α) (a b n:Nat):Prop where
 map:IsMap d r (swI a b n)
 perm:∀lo hi,lo<=a->b+n<=hi->hi<=d.size->PermIn lo hi d r
theorem Swapped.start (d:Array α) (a b:Nat):Swapped d d a b 0:=by
 refine ⟨(IsMap.refl d).congr fun k=>?_,fun lo hi _ _ _=>permIn_refl d lo hi⟩;unfold swI;rw[if_neg (by omega),if_neg (by omega)];rfl
theorem Swapped.step {d r:Array α} {a b i:Nat} (h:Swapped d r a b i) (hab:a+i<b) (hb:b+i<d.size):Swapped d (swp r (a+i) (b+i)) a b (i+1):=by
 have hs:=h.map.1;refine ⟨(h.map.trans (zg1 r (i:=a+i) (j:=b+i) (by omega) (by omega))).congr fun k=>?_,fun lo hi h1 h2 h3=>?_⟩
 · unfold swI;repeat' split
   all_goals omega
 · exact permIn_trans d r _ lo hi (h.perm lo hi h1 (by omega) h3) (swp_permIn r lo hi (a+i) (b+i) (by omega) (by omega) (by omega) (by omega) (by omega))
structure Rotated (d r:Array α) (a m b:Nat):Prop where
 map:IsMap d r (roI a m b)
 perm:∀lo hi,lo<=a->b<=hi->hi<=d.size->PermIn lo hi d r
theorem Rotated.none_left (d:Array α) (m b:Nat):Rotated d d m m b:=by
 refine ⟨(IsMap.refl d).congr fun k=>?_,fun lo hi _ _ _=>permIn_refl d lo hi⟩;unfold roI;repeat' split
 all_goals first | rfl | (simp only[id];omega)
theorem Rotated.none_right (d:Array α) (a m:Nat):Rotated d d a m m:=by
 refine ⟨(IsMap.refl d).congr fun k=>?_,fun lo hi _ _ _=>permIn_refl d lo hi⟩;unfold roI;repeat' split
 all_goals first | rfl | (simp only[id];omega)
structure RoSt (d c:Array α) (a m b i j:Nat):Prop where
 size:c.size=d.size
 ia:a<=m-i
 jb:m+j<=b
 im:i<=m
 go:∀r,IsMap c r (roI (m-i) m (m+j))->IsMap d r (roI a m b)
 perm:∀lo hi,lo<=a->b<=hi->hi<=d.size->PermIn lo hi d c
theorem RoSt.start (d:Array α) (a m b:Nat) (h1:a<=m) (h2:m<=b):RoSt d d a m b (m-a) (b-m):=
 ⟨rfl,by omega,by omega,by omega,fun r h=>by rw[show m-(m-a)=a from by omega,show m+(b-m)=b from by omega]at h;exact h,fun lo hi _ _ _=>permIn_refl d lo hi⟩
theorem RoSt.left {d c r:Array α} {a m b i j:Nat} (h:RoSt d c a m b i j) (hij:j<i) (hs:Swapped c r (m-i) m j):RoSt d r a m b (i-j) j:=by
 have h0:=h.ia;have h1:=h.jb;have h2:=h.im;have h3:=h.size
 refine ⟨hs.map.1.trans h.size,by omega,h.jb,by omega,fun x hx=>h.go x ((hs.map.trans hx).congr fun k=>?_),fun lo hi g1 g2 g3=>permIn_trans d c r lo hi (h.perm lo hi g1 g2 g3) (hs.perm lo hi (by omega) (by omega) (by omega))⟩;unfold swI roI;repeat' split
 all_goals omega
theorem RoSt.right {d c r:Array α} {a m b i j:Nat} (h:RoSt d c a m b i j) (hij:i<j) (hs:Swapped c r (m-i) (m+j-i) i):RoSt d r a m b i (j-i):=by
 have h0:=h.ia;have h1:=h.jb;have h2:=h.im;have h3:=h.size
 refine ⟨hs.map.1.trans h.size,h.ia,by omega,h.im,fun x hx=>h.go x ((hs.map.trans hx).congr fun k=>?_),fun lo hi g1 g2 g3=>permIn_trans d c r lo hi (h.perm lo hi g1 g2 g3) (hs.perm lo hi (by omega) (by omega) (by omega))⟩;unfold swI roI;repeat' split
 all_goals omega
theorem RoSt.done {d c r:Array α} {a m b i:Nat} (h:RoSt d c a m b i i) (hs:Swapped c r (m-i) m i):Rotated d r a m b:=by
 have h0:=h.ia;have h1:=h.jb;have h2:=h.im;have h3:=h.size
 refine ⟨h.go r (hs.map.congr fun k=>?_),fun lo hi g1 g2 g3=>permIn_trans d c r lo hi (h.perm lo hi g1 g2 g3) (hs.perm lo hi (by omega) (by omega) (by omega))⟩;unfold swI roI;repeat' split
 all_goals omega
theorem Rotated.up {d r:Array α} {a k:Nat} (h:Rotated d r a (a+1) (k+1)) (hak:a<=k) (hk:k+1<d.size):Rotated d (swp r k (k+1)) a (a+1) (k+2):=by
 have hs:=h.map.1;refine ⟨(h.map.trans (zg1 r (i:=k) (j:=k+1) (by omega) (by omega))).congr fun x=>?_,fun lo hi g1 g2 g3=>permIn_trans d r _ lo hi (h.perm lo hi g1 (by omega) g3) (swp_permIn r lo hi k (k+1) (by omega) (by omega) (by omega) (by omega) (by omega))⟩;unfold roI;repeat' split
 all_goals omega
theorem Rotated.down {d r:Array α} {m k:Nat} (h:Rotated d r (k+1) m (m+1)) (hkm:k+1<=m) (hm:m<d.size):Rotated d (swp r (k+1) k) k m (m+1):=by
 have hs:=h.map.1;refine ⟨(h.map.trans (zg1 r (i:=k+1) (j:=k) (by omega) (by omega))).congr fun x=>?_,fun lo hi g1 g2 g3=>permIn_trans d r _ lo hi (h.perm lo hi (by omega) g2 g3) (swp_permIn r lo hi (k+1) k (by omega) (by omega) (by omega) (by omega) (by omega))⟩;unfold roI;repeat' split
 all_goals omega
variable {lt:α->α->Bool}
variable {d r r' r2 r3:Array α} {a m b s e:Nat}
def Merged (lt:α->α->Bool) (d r:Array α) (a b:Nat):Prop:=r.size=d.size/\PermIn a b d r/\SortedIn lt a b r
omit [Inhabited α] in
theorem zdN (hO:SWO lt) {x y z:α} (h1:lt y x=false) (h2:lt y z=true):lt x z=true:=by
 cases h:lt x z with
 | true=>rfl
 | false=>
  have:=hO.ntrans y x z h1 h;rw[h2]at this;cases this
omit [Inhabited α] in
theorem zcg (hO:SWO lt) {x y z:α} (h1:lt y x=false) (h2:lt z y=false):lt z x=false:=hO.ntrans z y x h2 h1
omit [Inhabited α] in
theorem zdM (hO:SWO lt) {x y z:α} (h1:lt x y=true) (h2:lt z y=false):lt x z=true:=by
 cases h:lt x z with
 | true=>rfl
 | false=>
  have:=hO.ntrans x z y h h2;rw[h1]at this;cases this
omit [Inhabited α] in
theorem zfp (hO:SWO lt) {x y:α} (h:lt x y=true):lt y x=false:=hO.asymmA h
theorem SortedIn.le {a b:Nat} {d:Array α} (hO:SWO lt) (h:SortedIn lt a b d) {i j:Nat} (h1:a<=i) (h2:i<=j) (h3:j<b):lt d[j]! d[i]! = false:=by
 rcases Nat.lt_or_eq_of_le h2 with h4 | h4
 · exact h i j h1 h4 h3
 · rw[h4];exact hO.irrefl _
theorem zeg (hO:SWO lt) {d r:Array α} {a b i:Nat} (hb:b<=d.size) (hai:a+1<=i) (hib:i<=b) (hs:SortedIn lt (a+1) b d) (h1:i=a+1\/lt d[i-1]! d[a]! = true) (h2:i=b\/lt d[i]! d[a]! = false) (hr:Rotated d r a (a+1) i):Merged lt d r a b:=by
 refine ⟨hr.map.1,hr.perm a b nL hib hb,fun x y hx hxy hy=>?_⟩;rw[hr.map.2,hr.map.2];unfold roI;repeat' split
 all_goals first
  | omega
  | (exact hs _ _ (by omega) (by omega) (by omega))
  | skip
 all_goals first
  | (
     rw[show x-(i-(a+1))=a from by omega];rcases h2 with h2 | h2
     · omega
     · exact zcg hO h2 (SortedIn.le hO hs (by omega) (by omega) (by omega)))
  | (
     rw[show y-(i-(a+1))=a from by omega];rcases h1 with h1 | h1
     · omega
     · exact zfp hO (zdN hO (SortedIn.le hO hs (by omega) (show x+(a+1-a)<=i-1 by omega) (by omega)) h1))
theorem zdL (hO:SWO lt) {d r:Array α} {a m i:Nat} (hb:m<d.size) (hai:a<=i) (him:i<=m) (hs:SortedIn lt a m d) (h1:i=a\/lt d[m]! d[i-1]! = false) (h2:i=m\/lt d[m]! d[i]! = true) (hr:Rotated d r i m (m+1)):Merged lt d r a (m+1):=by
 refine ⟨hr.map.1,hr.perm a (m+1) hai nL (by omega),fun x y hx hxy hy=>?_⟩;rw[hr.map.2,hr.map.2];unfold roI;repeat' split
 all_goals first
  | omega
  | (exact hs _ _ (by omega) (by omega) (by omega))
  | skip
 all_goals first
  | (rw[show y+(m-i)=m from by omega]
     rcases h1 with h1 | h1
     · omega
     · exact zcg hO (SortedIn.le hO hs (by omega) (show x<=i-1 by omega) (by omega)) h1)
  | (rw[show x+(m-i)=m from by omega]
     rcases h2 with h2 | h2
     · omega
     · exact zfp hO (zdM hO h2 (SortedIn.le hO hs (by omega) (show i<=y-(m+1-m) by omega) (by omega))))
structure Cut (lt:α->α->Bool) (d:Array α) (a m b s e:Nat):Prop where
 «as» : a<=s
 sm:s<=m
 me:m<=e
 eb:e<=b
 hb:b<=d.size
 s1:SortedIn lt a m d
 s2:SortedIn lt m b d
 lo:s=a\/e=b\/lt d[e]! d[s-1]! = false
 hi:s=m\/e=m\/lt d[e-1]! d[s]! = true
theorem Cut.left (h:Cut lt d a m b s e) (hr:Rotated d r s m e):SortedIn lt a s r/\SortedIn lt s (s+(e-m)) r:=by
 obtain ⟨h1,h2,h3,h4,_,h5,h6,_,_⟩:=h;constructor
 · intro x y hx hxy hy;rw[hr.map.2,hr.map.2];unfold roI;rw[if_pos (by omega),if_pos (by omega)];exact h5 x y hx hxy (by omega)
 · intro x y hx hxy hy;rw[hr.map.2,hr.map.2];unfold roI;rw[if_neg (by omega),if_pos (by omega),if_neg (by omega),if_pos (by omega)];exact h6 _ _ (by omega) (by omega) (by omega)
theorem Cut.right (h:Cut lt d a m b s e) (hr:Rotated d r s m e) (hp:PermIn a (s+(e-m)) r r'):SortedIn lt (s+(e-m)) e r'/\SortedIn lt e b r':=by
 obtain ⟨h1,h2,h3,h4,_,h5,h6,_,_⟩:=h;constructor
 · intro x y hx hxy hy;rw[hp.2.1 x (by omega),hp.2.1 y (by omega),hr.map.2,hr.map.2];unfold roI;rw[if_neg (by omega),if_neg (by omega),if_neg (by omega),if_neg (by omega)];exact h5 _ _ (by omega) (by omega) (by omega)
 · intro x y hx hxy hy;rw[hp.2.1 x (by omega),hp.2.1 y (by omega),hr.map.2,hr.map.2];unfold roI;rw[if_pos (by omega),if_pos (by omega)];exact h6 _ _ (by omega) (by omega) (by omega)
theorem Cut.cross (hO:SWO lt) (h:Cut lt d a m b s e) (hr:Rotated d r s m e):∀x,a<=x->x<s+(e-m)->∀y,s+(e-m)<=y->y<b->lt r[y]! r[x]! = false:=by
 obtain ⟨h1,h2,h3,h4,_,h5,h6,h7,h8⟩:=h;intro x hx hx2 y hy hy2;rw[hr.map.2,hr.map.2];unfold roI;repeat' split
 all_goals first
  | omega
  | (exact h5 _ _ (by omega) (by omega) (by omega))
  | (exact h6 _ _ (by omega) (by omega) (by omega))
  | skip
 · rcases h7 with h7 | h7 | h7
   · omega
   · omega
   · exact zcg hO (zcg hO (SortedIn.le hO h5 (by omega) (show x<=s-1 by omega) (by omega)) h7) (SortedIn.le hO h6 (by omega) (show e<=y by omega) (by omega))
 · rcases h8 with h8 | h8 | h8
   · omega
   · omega
   · exact zfp hO (zdM hO (zdN hO (SortedIn.le hO h6 (by omega) (show x+(m-s)<=e-1 by omega) (by omega)) h8) (SortedIn.le hO h5 (by omega) (show s<=y-(e-m) by omega) (by omega)))
theorem Cut.merged (hO:SWO lt) (h:Cut lt d a m b s e) (hr:Rotated d r s m e) (h2:Merged lt r r2 a (s+(e-m))) (h3:Merged lt r2 r3 (s+(e-m)) b):Merged lt d r3 a b:=by
 have hx:=h.cross hO hr;obtain ⟨k1,k2,k3,k4,k5,_,_,_,_⟩:=h;have hz:=hr.map.1;obtain ⟨z2,p2,q2⟩:=h2;obtain ⟨z3,p3,q3⟩:=h3;refine ⟨by rw[z3,z2,hz],permIn_trans d r r3 a b (hr.perm a b k1 k4 k5) (permIn_trans r r2 r3 a b (permIn_mono r r2 a _ a b nL (by omega) (by omega) p2) (permIn_mono r2 r3 _ b a b (by omega) nL (by omega) p3)),?_⟩
 have c1:∀x,a<=x->x<s+(e-m)->∀y,s+(e-m)<=y->y<b->lt r[y]! r2[x]! = false:=
  permIn_all r r2 a (s+(e-m)) (fun v=>∀y,s+(e-m)<=y->y<b->lt r[y]! v=false) (by omega) p2 hx
 have c2:∀y,s+(e-m)<=y->y<b->∀x,a<=x->x<s+(e-m)->lt r3[y]! r2[x]! = false:=
  permIn_all r2 r3 (s+(e-m)) b (fun v=>∀x,a<=x->x<s+(e-m)->lt v r2[x]! = false) (by omega) p3 (fun y hy hy2 x hx hx2=>by
   rw[p2.2.1 y (by omega)];exact c1 x hx hx2 y hy hy2)
 intro x y hx hxy hy;by_cases h1:y<s+(e-m)
 · rw[p3.2.1 x (by omega),p3.2.1 y (by omega)];exact q2 x y hx hxy h1
 · by_cases h2:s+(e-m)<=x
   · exact q3 x y h2 hxy hy
   · rw[p3.2.1 x (by omega)];exact c2 y (by omega) hy x hx (by omega)
theorem Merged.of_sorted {d:Array α} {a b:Nat} (h:SortedIn lt a b d):Merged lt d d a b:=⟨rfl,permIn_refl d a b,h⟩
end
end Go.Proofs.YtaeiifngjglchaaGreatDoor.Mg
end
section
namespace Go.Proofs.YtaeiifngjglchaaGreatDoor
open Go.Proofs.Tryz
open Go.RowKit Go.Lib Go.Sort Mg
section
variable {α:Type} [Inhabited α]
theorem za9 (k:Nat) (aE:∀w,(isAgg 110).run prog w=.ok true w) (zE:∀w,(Go.sizeOf 110).run prog w=.ok k w) (enc:α->List Value) (fv:Value) (blk off cap a b n:Nat) (d0 d:Array α) (w0 w:World)
    (R:RowK enc k w0 blk off d0) (hs:d0.size=d.size) (S:SWK enc k w0 blk off d w) (hab:a+n<=b) (hb:b+n<=d.size) (hsz:d.size<4611686018427387904) :
    Calls prog 333 #[.slice (some ⟨blk,off,none⟩) d.size cap,.int .i64 a,.int .i64 b,.int .i64 n,fv] w fun e w'=>e=.returned (.tuple #[])/\∃r,SWK enc k w0 blk off r w'/\Swapped d r a b n:=by
 have mixed:=mixed;have S0:Aside (SWK enc k w0 blk off d w):=S;clear S;go_enter func333,ntmps333
 go_wp2;go_loopg [10] n (fun kx s10 wr=>∃(i:Nat) (dk:Array α),s10=.int .i64 i/\i+kx=n/\Swapped d dk a b i/\Aside (SWK enc k w0 blk off dk wr))
 case atStart=>exact ⟨0,d,rfl,by omega,Swapped.start d a b,S0⟩
 case round=>
  clear S0;obtain ⟨i,dk,rfl,hin,hsw,S1⟩:=hrel;have hds:=hsw.map.1;by_cases hlt:i<n
  · have hltz:(i:Int)<(n:Int):=(by omega);go_wp2_with fail
    have ea44:((a:Int)+(i:Int)).toNat=a+i:=(by omega);have pa44:(0:Int)<=(a:Int)+(i:Int):=(by omega);have ba44:(a:Int)+(i:Int)<(d.size:Int):=(by omega);have ra44:IntKind.i64.wrap ((a:Int)+(i:Int))=(a:Int)+(i:Int):=(wI (by omega));have ec44:((b:Int)+(i:Int)).toNat=b+i:=(by omega);have pc44:(0:Int)<=(b:Int)+(i:Int):=(by omega);have bc44:(b:Int)+(i:Int)<(d.size:Int):=(by omega);have rc44:IntKind.i64.wrap ((b:Int)+(i:Int))=(b:Int)+(i:Int):=(wI (by omega));have S2:Aside (SWK enc k w0 blk off (swp dk (a+i) (b+i)) ((wr.drew.setCells blk (off+(a+i)*k) (enc dk[b+i]!)).setCells blk (off+(b+i)*k) (enc dk[a+i]!))):=S1.out.swapped R (a+i) (b+i) (by omega) (by omega);have l44a:=S1.out.ld1 R (by omega) prog (a+i) (by omega);have l44b:=S1.out.ld1 R (by omega) prog (b+i) (by omega);have s44a:=S1.out.st1 R (by omega) prog (a+i) (by omega) dk[b+i]!;have s44b:=S1.out.st2 R (by omega) prog (a+i) (b+i) (by omega) (by omega) dk[b+i]! dk[a+i]!;have n44a:(enc dk[a+i]!).length=k:=R.hk _;have n44b:(enc dk[b+i]!).length=k:=R.hk _;generalize enc dk[a+i]! = cI44 at S2 l44a s44b n44a;generalize enc dk[b+i]! = cJ44 at S2 l44b s44a s44b n44b;clear S1;go_wp2_with fail
    go_big_region_o
    clear l44a l44b s44a s44b;generalize (wr.drew.setCells blk (off+(a+i)*k) cJ44).setCells blk (off+(b+i)*k) cI44=w2 at S2 ⊢;go_wp2;go_roundg (n-(i+1))
    case measure=>omega
    case rel=>
     exact ⟨i+1,swp dk (a+i) (b+i),by simp,by omega,hsw.step (by omega) (by omega),S2⟩
  · have hnot:¬(i:Int)<(n:Int):=(by omega);go_wp2;go_end0
    obtain rfl:i=n:=(by omega);exact ⟨rfl,dk,S1.out,hsw⟩
end
section
variable {α:Type} [Inhabited α]
theorem zcJ (k:Nat) (aE:∀w,(isAgg 110).run prog w=.ok true w) (zE:∀w,(Go.sizeOf 110).run prog w=.ok k w) (enc:α->List Value) (fv:Value) (blk off cap a m b:Nat) (d0 d:Array α) (w0 w:World)
    (R:RowK enc k w0 blk off d0) (hs:d0.size=d.size) (S:SWK enc k w0 blk off d w) (ham:a<m) (hmb:m<b) (hb:b<=d.size) (hsz:d.size<4611686018427387904) :
    Calls prog 289 #[.slice (some ⟨blk,off,none⟩) d.size cap,.int .i64 a,.int .i64 m,.int .i64 b,fv] w fun e w'=>e=.returned (.tuple #[])/\∃r,SWK enc k w0 blk off r w'/\Rotated d r a m b:=by
 have S0:Aside (SWK enc k w0 blk off d w):=S;clear S;obtain ⟨i0,hi0⟩:∃i0,m-a=i0:=⟨_,rfl⟩;obtain ⟨j0,hj0⟩:∃j0,b-m=j0:=⟨_,rfl⟩;have hst0:=RoSt.start d a m b (by omega) (by omega);rw[hi0,hj0]at hst0;have e1:IntKind.i64.wrap ((m:Int)-(a:Int))=(i0:Int):=(wI (by omega));have e2:IntKind.i64.wrap ((b:Int)-(m:Int))=(j0:Int):=(wI (by omega));go_enter func289,ntmps289
 go_wp2;go_loopg [10,11] (b-a) (fun kx s10 s11 wr=>∃(i j:Nat) (dk:Array α),s10=.int .i64 i/\s11=.int .i64 j/\0<i/\0<j/\i+j<=kx/\RoSt d dk a m b i j/\Aside (SWK enc k w0 blk off dk wr))
 case atStart=>exact ⟨i0,j0,d,rfl,rfl,by omega,by omega,by omega,hst0,S0⟩
 case round=>
  clear S0 e1 e2 hst0;obtain ⟨i,j,dk,rfl,rfl,hi,hj,hij,hst,S1⟩:=hrel;have hds:=hst.size;have h1:=hst.ia;have h2:=hst.jb;have h3:=hst.im;by_cases hlt:j<i
  · have hltz:(j:Int)<(i:Int):=(by omega);have hne:((i:Int) == (j:Int))=false:=(by simp;omega);obtain ⟨p,hp⟩:∃p,m-i=p:=⟨_,rfl⟩;obtain ⟨q,hq⟩:∃q,i-j=q:=⟨_,rfl⟩;have e1:IntKind.i64.wrap ((m:Int)-(i:Int))=(p:Int):=(wI (by omega));have e2:IntKind.i64.wrap ((i:Int)-(j:Int))=(q:Int):=(wI (by omega));have HC:=za9 k aE zE enc fv blk off cap p m j d0 dk w0 wr R (by omega) S1.out (by omega) (by omega) (by omega);rw[hds]at HC;have HC:=hid HC;have HST:=hid hst;clear S1 hst;go_wp2_with fail
    refine HC.out.mono ?_;rintro e w1 ⟨rfl,r,S2,hsw⟩;have S2':Aside _:=S2;have HSW:=hid hsw;clear S2 hsw;go_wp2;go_roundg (q+j)
    case measure=>omega
    case rel=>exact ⟨q,j,r,rfl,rfl,by omega,hj,nL,by rw[<-hq];rw[<-hp]at HSW;exact HST.out.left hlt HSW.out,S2'⟩
  · by_cases hlt2:i<j
    · have hltz:¬(j:Int)<(i:Int):=(by omega);have hne:((i:Int) == (j:Int))=false:=(by simp;omega);obtain ⟨p,hp⟩:∃p,m-i=p:=⟨_,rfl⟩;obtain ⟨q,hq⟩:∃q,j-i=q:=⟨_,rfl⟩;obtain ⟨u,hu⟩:∃u,m+j-i=u:=⟨_,rfl⟩;obtain ⟨x,hx⟩:∃x,m+j=x:=⟨_,rfl⟩;have e1:IntKind.i64.wrap ((m:Int)-(i:Int))=(p:Int):=(wI (by omega));have e2:IntKind.i64.wrap ((j:Int)-(i:Int))=(q:Int):=(wI (by omega));have e3:IntKind.i64.wrap ((m:Int)+(j:Int))=(x:Int):=(wI (by omega));have e4:IntKind.i64.wrap ((x:Int)-(i:Int))=(u:Int):=(wI (by omega));have HC:=za9 k aE zE enc fv blk off cap p u i d0 dk w0 wr R (by omega) S1.out (by omega) (by omega) (by omega);rw[hds]at HC;have HC:=hid HC;have HST:=hid hst;clear S1 hst;go_wp2_with fail
      refine HC.out.mono ?_;rintro e w1 ⟨rfl,r,S2,hsw⟩;have S2':Aside _:=S2;have HSW:=hid hsw;clear S2 hsw;go_wp2;go_roundg (i+q)
      case measure=>omega
      case rel=>exact ⟨i,q,r,rfl,rfl,hi,by omega,nL,by rw[<-hq];rw[<-hp,<-hu]at HSW;exact HST.out.right hlt2 HSW.out,S2'⟩
    · obtain rfl:i=j:=(by omega);obtain ⟨p,hp⟩:∃p,m-i=p:=⟨_,rfl⟩;have e1:IntKind.i64.wrap ((m:Int)-(i:Int))=(p:Int):=(wI (by omega));have HC:=za9 k aE zE enc fv blk off cap p m i d0 dk w0 wr R (by omega) S1.out (by omega) (by omega) (by omega);rw[hds]at HC;have HC:=hid HC;have HST:=hid hst;clear S1 hst;go_wp2_with fail
      refine HC.out.mono ?_;rintro e w1 ⟨rfl,r,S2,hsw⟩;have S2':Aside _:=S2;have HSW:=hid hsw;clear S2 hsw;go_wp2;go_end0
      rw[<-hp]at HSW;exact ⟨rfl,r,S2'.out,HST.out.done HSW.out⟩
end
section
variable {α:Type} [Inhabited α]
theorem zlF (k:Nat) (aE:∀w,(isAgg 110).run prog w=.ok true w) (zE:∀w,(Go.sizeOf 110).run prog w=.ok k w) (enc:α->List Value) (cf:α->α->Int) (hO:SWO (ltOf cf)) (g:Nat) (cb:Array Value) (blk off cap a m b:Nat) (d0 d:Array α) (w0 w:World)
    (eg:∀args w,(callFunc g args).run prog w=.ok (.enter g args) w) (hcmp:CmpLays prog g cb enc k cf blk off d.size w0) (R:RowK enc k w0 blk off d0) (hs:d0.size=d.size) (S:SWK enc k w0 blk off d w) (ham:a<m) (hmb:m<b) (hb:b<=d.size) (hsz:d.size<4611686018427387904)
    (hs1:SortedIn (ltOf cf) a m d) (hs2:SortedIn (ltOf cf) m b d) (h1:m=a+1) :
    Calls prog 221 #[.slice (some ⟨blk,off,none⟩) d.size cap,.int .i64 a,.int .i64 m,.int .i64 b,.func (.func g) #[] cb] w fun e w'=>e=.returned (.tuple #[])/\∃r,SWK enc k w0 blk off r w'/\Merged (ltOf cf) d r a b:=by
 have mixed:=mixed;have HC:Aside _:=hcmp;have S0:Aside (SWK enc k w0 blk off d w):=S;have HS1:=hid hs1;have HS2:=hid hs2;have HO:=hid hO;clear S hcmp hs1 hs2 hO;subst h1;have e1:IntKind.i64.wrap (((a+1:Nat):Int)-(a:Int))=1:=(wI (by omega));have e1':IntKind.i64.wrap ((a:Int)+1-(a:Int))=1:=(wI (by omega));have e1w:IntKind.i64.wrap ((a:Int)+1)=(a:Int)+1:=(wI (by omega));go_enter func221,ntmps221
 go_wp2;go_loopg [10,11] (b-a) (fun kx s10 s11 wr=>∃(i j:Nat),s10=.int .i64 i/\s11=.int .i64 j/\a+1<=i/\i<=j/\j<=b/\j-i<=kx/\Aside (SWK enc k w0 blk off d wr)/\(i=a+1\/ltOf cf d[i-1]! d[a]! = true)/\(j=b\/ltOf cf d[j]! d[a]! = false))
 case atStart=>exact ⟨a+1,b,by go_num,rfl,nL,by omega,nL,by omega,S0,.inl rfl,.inl rfl⟩
 case round=>
  clear S0;obtain ⟨i,j,rfl,rfl,hai,hij,hjb,hg,S1,q1,q2⟩:=hrel;by_cases hlt:i<j
  · have hltz:(i:Int)<(j:Int):=(by omega);obtain ⟨h,hh⟩:∃h:Nat,(i+j) / 2=h:=⟨_,rfl⟩;have eh1:((i:Int)+(j:Int)) / 2=(h:Int):=(by omega);have eh2:IntKind.i64.wrap ((i:Int)+(j:Int))=(i:Int)+(j:Int):=(wI (by omega));cases hlv:ltOf cf d[h]! d[a]! with
    | true=>
     have ea1:((h:Int)).toNat=h:=(by omega);have pa1:(0:Int)<=(h:Int):=(by omega);have ba1:(h:Int)<(d.size:Int):=(by omega);have ra1:IntKind.i64.wrap ((h:Int))=(h:Int):=(wI (by omega));have ec1:((a:Int)).toNat=a:=(by omega);have pc1:(0:Int)<=(a:Int):=(by omega);have bc1:(a:Int)<(d.size:Int):=(by omega);have rc1:IntKind.i64.wrap ((a:Int))=(a:Int):=(wI (by omega));obtain ⟨x1,hx1⟩:∃x,x=d[h]!:=⟨_,rfl⟩;obtain ⟨y1,hy1⟩:∃x,x=d[a]!:=⟨_,rfl⟩;have l1a:=S1.out.ld R (by omega) prog (h) (by omega);have l1b:=S1.out.ld R (by omega) prog (a) (by omega);rw[<-hx1]at l1a;rw[<-hy1]at l1b;have hc1:=S1.out.cmp HC.out (by omega) x1 y1;have hv1:cf x1 y1<0:=(by rw[hx1,hy1];exact oT hlv);have hd1:decide (cf x1 y1<0)=true:=dT hv1;clear hx1 hy1;go_wp2_with fail
     go_quiet_grown (first | (go_at_fn g;refine Calls.grown_of (hc1 _ _)))
     have S2:Aside (SWK enc k w0 blk off d (grow (wr.drewN nq) osq)):=S1.out.grown nq osq;clear l1a l1b hc1 S1;generalize grow (wr.drewN nq) osq=w2 at S2 ⊢;clear nq osq;go_wp2;go_roundg (j-(h+1))
     case measure=>omega
     case rel=>exact ⟨h+1,j,by go_num,rfl,by omega,by omega,hjb,nL,S2,.inr (by rw[Nat.add_sub_cancel];exact hlv),q2⟩
    | false=>
     have ea1:((h:Int)).toNat=h:=(by omega);have pa1:(0:Int)<=(h:Int):=(by omega);have ba1:(h:Int)<(d.size:Int):=(by omega);have ra1:IntKind.i64.wrap ((h:Int))=(h:Int):=(wI (by omega));have ec1:((a:Int)).toNat=a:=(by omega);have pc1:(0:Int)<=(a:Int):=(by omega);have bc1:(a:Int)<(d.size:Int):=(by omega);have rc1:IntKind.i64.wrap ((a:Int))=(a:Int):=(wI (by omega));obtain ⟨x1,hx1⟩:∃x,x=d[h]!:=⟨_,rfl⟩;obtain ⟨y1,hy1⟩:∃x,x=d[a]!:=⟨_,rfl⟩;have l1a:=S1.out.ld R (by omega) prog (h) (by omega);have l1b:=S1.out.ld R (by omega) prog (a) (by omega);rw[<-hx1]at l1a;rw[<-hy1]at l1b;have hc1:=S1.out.cmp HC.out (by omega) x1 y1;have hv1:¬cf x1 y1<0:=(by rw[hx1,hy1];exact of_decide_eq_false hlv);have hd1:decide (cf x1 y1<0)=false:=dF hv1;clear hx1 hy1;go_wp2_with fail
     go_quiet_grown (first | (go_at_fn g;refine Calls.grown_of (hc1 _ _)))
     have S2:Aside (SWK enc k w0 blk off d (grow (wr.drewN nq) osq)):=S1.out.grown nq osq;clear l1a l1b hc1 S1;generalize grow (wr.drewN nq) osq=w2 at S2 ⊢;clear nq osq;go_wp2;go_roundg (h-i)
     case measure=>omega
     case rel=>exact ⟨i,h,rfl,rfl,hai,by omega,by omega,nL,S2,q1,.inr hlv⟩
  · obtain rfl:i=j:=(by omega);have Q1:=hid q1;have Q2:=hid q2;obtain ⟨ip,rfl⟩:∃ip,i=ip+1:=⟨i-1,by omega⟩;have e2:IntKind.i64.wrap (((ip+1:Nat):Int)-1)=(ip:Int):=(wI (by omega));have e2':IntKind.i64.wrap ((ip:Int)+1-1)=(ip:Int):=(wI (by omega));have hst:=Rotated.none_right d a (a+1);clear q1 q2;go_wp2;go_loopg [13] (ip-a) (fun kx s13 wr=>∃(x:Nat) (dk:Array α),s13=.int .i64 x/\a<=x/\x<=ip/\ip-x<=kx/\Aside (SWK enc k w0 blk off dk wr)/\Rotated d dk a (a+1) (x+1))
    case atStart=>exact ⟨a,d,rfl,nL,by omega,nL,S1,hst⟩
    case round=>
     clear S1 hst;obtain ⟨x,dk,rfl,hax,hxi,hg2,S1,hro⟩:=hrel;have hds:=hro.map.1;by_cases hlt2:x<ip
     · have hltz2:(x:Int)<(ip:Int):=(by omega);have HRO:=hid hro;clear hro;have ea2:((x:Int)).toNat=x:=(by omega);have pa2:(0:Int)<=(x:Int):=(by omega);have ba2:(x:Int)<(d.size:Int):=(by omega);have ra2:IntKind.i64.wrap ((x:Int))=(x:Int):=(wI (by omega));have ec2:((x:Int)+1).toNat=x+1:=(by omega);have pc2:(0:Int)<=(x:Int)+1:=(by omega);have bc2:(x:Int)+1<(d.size:Int):=(by omega);have rc2:IntKind.i64.wrap ((x:Int)+1)=(x:Int)+1:=(wI (by omega));have S2:Aside (SWK enc k w0 blk off (swp dk (x) (x+1)) ((wr.drew.setCells blk (off+(x)*k) (enc dk[x+1]!)).setCells blk (off+(x+1)*k) (enc dk[x]!))):=S1.out.swapped R (x) (x+1) (by omega) (by omega);have l2a:=S1.out.ld1 R (by omega) prog (x) (by omega);have l2b:=S1.out.ld1 R (by omega) prog (x+1) (by omega);have s2a:=S1.out.st1 R (by omega) prog (x) (by omega) dk[x+1]!;have s2b:=S1.out.st2 R (by omega) prog (x) (x+1) (by omega) (by omega) dk[x+1]! dk[x]!;have n2a:(enc dk[x]!).length=k:=R.hk _;have n2b:(enc dk[x+1]!).length=k:=R.hk _;generalize enc dk[x]! = cI2 at S2 l2a s2b n2a;generalize enc dk[x+1]! = cJ2 at S2 l2b s2a s2b n2b;clear S1;go_wp2_with fail
       go_big_region_o
       clear l2a l2b s2a s2b;generalize (wr.drew.setCells blk (off+(x)*k) cJ2).setCells blk (off+(x+1)*k) cI2=w2 at S2 ⊢;go_wp2;go_roundg (ip-(x+1))
       case measure=>omega
       case rel=>exact ⟨x+1,swp dk x (x+1),by go_num,by omega,by omega,nL,S2,HRO.out.up hax (by omega)⟩
     · obtain rfl:x=ip:=(by omega);have hno:¬(x:Int)<(x:Int):=(by omega);go_wp2;refine bodyPost_ret (results_none rfl _ _ _) rfl ?_;exact ⟨rfl,dk,S1.out,zeg HO.out hb (by omega) (by omega) HS2.out Q1.out Q2.out hro⟩
end
section
variable {α:Type} [Inhabited α]
theorem zjM (k:Nat) (aE:∀w,(isAgg 110).run prog w=.ok true w) (zE:∀w,(Go.sizeOf 110).run prog w=.ok k w) (enc:α->List Value) (cf:α->α->Int) (hO:SWO (ltOf cf)) (g:Nat) (cb:Array Value) (blk off cap a m b:Nat) (d0 d:Array α) (w0 w:World)
    (eg:∀args w,(callFunc g args).run prog w=.ok (.enter g args) w) (hcmp:CmpLays prog g cb enc k cf blk off d.size w0) (R:RowK enc k w0 blk off d0) (hs:d0.size=d.size) (S:SWK enc k w0 blk off d w) (ham:a<m) (hmb:m<b) (hb:b<=d.size) (hsz:d.size<4611686018427387904)
    (hs1:SortedIn (ltOf cf) a m d) (hs2:SortedIn (ltOf cf) m b d) (h0:m≠a+1) (h1:b=m+1) :
    Calls prog 221 #[.slice (some ⟨blk,off,none⟩) d.size cap,.int .i64 a,.int .i64 m,.int .i64 b,.func (.func g) #[] cb] w fun e w'=>e=.returned (.tuple #[])/\∃r,SWK enc k w0 blk off r w'/\Merged (ltOf cf) d r a b:=by
 have mixed:=mixed;have HC:Aside _:=hcmp;have S0:Aside (SWK enc k w0 blk off d w):=S;have HS1:=hid hs1;have HS2:=hid hs2;have HO:=hid hO;clear S hcmp hs1 hs2 hO;subst h1;obtain ⟨ma,hma⟩:∃ma,m-a=ma:=⟨_,rfl⟩;have e0:IntKind.i64.wrap ((m:Int)-(a:Int))=(ma:Int):=(wI (by omega));have e0n:((ma:Int) == 1)=false:=(by simp;omega);have e1':IntKind.i64.wrap ((m:Int)+1-(m:Int))=1:=(wI (by omega));have e1w:IntKind.i64.wrap ((m:Int)+1)=(m:Int)+1:=(wI (by omega));go_enter func221,ntmps221
 go_wp2;go_loopg [14,15] (m-a) (fun kx s10 s11 wr=>∃(i j:Nat),s10=.int .i64 i/\s11=.int .i64 j/\a<=i/\i<=j/\j<=m/\j-i<=kx/\Aside (SWK enc k w0 blk off d wr)/\(i=a\/ltOf cf d[m]! d[i-1]! = false)/\(j=m\/ltOf cf d[m]! d[j]! = true))
 case atStart=>exact ⟨a,m,rfl,rfl,nL,by omega,nL,by omega,S0,.inl rfl,.inl rfl⟩
 case round=>
  clear S0;obtain ⟨i,j,rfl,rfl,hai,hij,hjb,hg,S1,q1,q2⟩:=hrel;by_cases hlt:i<j
  · have hltz:(i:Int)<(j:Int):=(by omega);obtain ⟨h,hh⟩:∃h:Nat,(i+j) / 2=h:=⟨_,rfl⟩;have eh1:((i:Int)+(j:Int)) / 2=(h:Int):=(by omega);have eh2:IntKind.i64.wrap ((i:Int)+(j:Int))=(i:Int)+(j:Int):=(wI (by omega));cases hlv:ltOf cf d[m]! d[h]! with
    | false=>
     have ea1:((m:Int)).toNat=m:=(by omega);have pa1:(0:Int)<=(m:Int):=(by omega);have ba1:(m:Int)<(d.size:Int):=(by omega);have ra1:IntKind.i64.wrap ((m:Int))=(m:Int):=(wI (by omega));have ec1:((h:Int)).toNat=h:=(by omega);have pc1:(0:Int)<=(h:Int):=(by omega);have bc1:(h:Int)<(d.size:Int):=(by omega);have rc1:IntKind.i64.wrap ((h:Int))=(h:Int):=(wI (by omega));obtain ⟨x1,hx1⟩:∃x,x=d[m]!:=⟨_,rfl⟩;obtain ⟨y1,hy1⟩:∃x,x=d[h]!:=⟨_,rfl⟩;have l1a:=S1.out.ld R (by omega) prog (m) (by omega);have l1b:=S1.out.ld R (by omega) prog (h) (by omega);rw[<-hx1]at l1a;rw[<-hy1]at l1b;have hc1:=S1.out.cmp HC.out (by omega) x1 y1;have hv1:¬cf x1 y1<0:=(by rw[hx1,hy1];exact of_decide_eq_false hlv);have hd1:decide (cf x1 y1<0)=false:=dF hv1;clear hx1 hy1;go_wp2_with fail
     go_quiet_grown (first | (go_at_fn g;refine Calls.grown_of (hc1 _ _)))
     have S2:Aside (SWK enc k w0 blk off d (grow (wr.drewN nq) osq)):=S1.out.grown nq osq;clear l1a l1b hc1 S1;generalize grow (wr.drewN nq) osq=w2 at S2 ⊢;clear nq osq;go_wp2;go_roundg (j-(h+1))
     case measure=>omega
     case rel=>exact ⟨h+1,j,by go_num,rfl,by omega,by omega,hjb,nL,S2,.inr (by rw[Nat.add_sub_cancel];exact hlv),q2⟩
    | true=>
     have ea1:((m:Int)).toNat=m:=(by omega);have pa1:(0:Int)<=(m:Int):=(by omega);have ba1:(m:Int)<(d.size:Int):=(by omega);have ra1:IntKind.i64.wrap ((m:Int))=(m:Int):=(wI (by omega));have ec1:((h:Int)).toNat=h:=(by omega);have pc1:(0:Int)<=(h:Int):=(by omega);have bc1:(h:Int)<(d.size:Int):=(by omega);have rc1:IntKind.i64.wrap ((h:Int))=(h:Int):=(wI (by omega));obtain ⟨x1,hx1⟩:∃x,x=d[m]!:=⟨_,rfl⟩;obtain ⟨y1,hy1⟩:∃x,x=d[h]!:=⟨_,rfl⟩;have l1a:=S1.out.ld R (by omega) prog (m) (by omega);have l1b:=S1.out.ld R (by omega) prog (h) (by omega);rw[<-hx1]at l1a;rw[<-hy1]at l1b;have hc1:=S1.out.cmp HC.out (by omega) x1 y1;have hv1:cf x1 y1<0:=(by rw[hx1,hy1];exact oT hlv);have hd1:decide (cf x1 y1<0)=true:=dT hv1;clear hx1 hy1;go_wp2_with fail
     go_quiet_grown (first | (go_at_fn g;refine Calls.grown_of (hc1 _ _)))
     have S2:Aside (SWK enc k w0 blk off d (grow (wr.drewN nq) osq)):=S1.out.grown nq osq;clear l1a l1b hc1 S1;generalize grow (wr.drewN nq) osq=w2 at S2 ⊢;clear nq osq;go_wp2;go_roundg (h-i)
     case measure=>omega
     case rel=>exact ⟨i,h,rfl,rfl,hai,by omega,by omega,nL,S2,q1,.inr hlv⟩
  · obtain rfl:i=j:=(by omega);have Q1:=hid q1;have Q2:=hid q2;have hst:=Rotated.none_left d m (m+1);clear q1 q2;go_wp2;go_loopg [17] (m-i) (fun kx s13 wr=>∃(x:Nat) (dk:Array α),s13=.int .i64 x/\i<=x/\x<=m/\x-i<=kx/\Aside (SWK enc k w0 blk off dk wr)/\Rotated d dk x m (m+1))
    case atStart=>exact ⟨m,d,rfl,hjb,nL,nL,S1,hst⟩
    case round=>
     clear S1 hst;obtain ⟨x,dk,rfl,hax,hxi,hg2,S1,hro⟩:=hrel;have hds:=hro.map.1;by_cases hlt2:i<x
     · obtain ⟨xp,rfl⟩:∃xp,x=xp+1:=⟨x-1,by omega⟩;have hltz2:(i:Int)<(xp:Int)+1:=(by omega);have hltz3:i<=xp:=(by omega);have HRO:=hid hro;clear hro;have ea2:((xp:Int)+1).toNat=xp+1:=(by omega);have pa2:(0:Int)<=(xp:Int)+1:=(by omega);have ba2:(xp:Int)+1<(d.size:Int):=(by omega);have ra2:IntKind.i64.wrap ((xp:Int)+1)=(xp:Int)+1:=(wI (by omega));have ec2:((xp:Int)).toNat=xp:=(by omega);have pc2:(0:Int)<=(xp:Int):=(by omega);have bc2:(xp:Int)<(d.size:Int):=(by omega);have rc2:IntKind.i64.wrap ((xp:Int))=(xp:Int):=(wI (by omega));have S2:Aside (SWK enc k w0 blk off (swp dk (xp+1) (xp)) ((wr.drew.setCells blk (off+(xp+1)*k) (enc dk[xp]!)).setCells blk (off+(xp)*k) (enc dk[xp+1]!))):=S1.out.swapped R (xp+1) (xp) (by omega) (by omega);have l2a:=S1.out.ld1 R (by omega) prog (xp+1) (by omega);have l2b:=S1.out.ld1 R (by omega) prog (xp) (by omega);have s2a:=S1.out.st1 R (by omega) prog (xp+1) (by omega) dk[xp]!;have s2b:=S1.out.st2 R (by omega) prog (xp+1) (xp) (by omega) (by omega) dk[xp]! dk[xp+1]!;have n2a:(enc dk[xp+1]!).length=k:=R.hk _;have n2b:(enc dk[xp]!).length=k:=R.hk _;generalize enc dk[xp+1]! = cI2 at S2 l2a s2b n2a;generalize enc dk[xp]! = cJ2 at S2 l2b s2a s2b n2b;clear S1;go_wp2_with fail
       go_big_region_o
       clear l2a l2b s2a s2b;generalize (wr.drew.setCells blk (off+(xp+1)*k) cJ2).setCells blk (off+(xp)*k) cI2=w2 at S2 ⊢;go_wp2;go_roundg (xp-i)
       case measure=>omega
       case rel=>exact ⟨xp,swp dk (xp+1) xp,by first | rfl | go_num | (congr 1;omega),by omega,by omega,nL,S2,HRO.out.down hxi (by omega)⟩
     · obtain rfl:x=i:=(by omega);have hno:¬(x:Int)<(x:Int):=(by omega);go_wp2;refine bodyPost_ret (results_none rfl _ _ _) rfl ?_;exact ⟨rfl,dk,S1.out,zdL HO.out (by omega) (by omega) (by omega) HS1.out Q1.out Q2.out hro⟩
end
end Go.Proofs.YtaeiifngjglchaaGreatDoor
end
