import Derived.Test.YtbahojdbmmjkcaaGreatSSz
import Derived.Test.YtbahojdbmmjkcaaGreatSNums
import Derived.Test.YtbahojdbmmjkcaaGreatSHull
import Derived.Test.YtbahojdbmmjkcaaGreatSTo
import Derived.Test.YtbahojdbmmjkcaaGreatSL2
import Derived.Test.YtbahojdbmmjkcaaGreatSSnapped
import Derived.Shelf.Bits.Mul64
import Derived.Laws.BitsAllLaws
import Derived.Test.YtbahojdbmmjkcaaGreatSSimp
set_option linter.unusedVariables false
set_option linter.unusedSimpArgs false
namespace Go.Proofs.YtbahojdbmmjkcaaGreat
open Go Go.RowKit
variable {A:Option Addr} {b l:Nat} {cs:List Value} {t:Int} {xs:List (Int×Int)}
set_option maxRecDepth 100000
set_option maxHeartbeats 4000000
section
variable {P:Program} {n:Nat} {env:List (Nat×Value)} {w0:Bs} {Rs:List Res} {o:Oper} {K:Act→World→Prop} {Q:Exit→Act→World→Prop}
variable {x y:Operand} {T T':TypeId} {p q:Int}
theorem L7 {k:IntKind} (ho:o.op= .binOp .shl T x y T') (hx:ev env x=some (.int .i64 p)) (hy:ev env y=some (.int k q)) (hq:0≤q) (hq2:q<64) (h1: -9223372036854775808≤p*2^q.toNat) (h2:p*2^q.toNat≤9223372036854775807) :Qt P o n env w0 Rs (.int .i64 (p*2^q.toNat)) :=
 kC fun a w hf _=>by unfold execOp;simp only [ho,hf.ev hx,hf.ev hy];simp [go_sem,hq,hq2,IntWalk.i64_in _ ⟨h1,h2⟩]
theorem jcS {U s bytes m d:Nat} {z:Value} (ho:o.op= .makeSlice T x y) (hx:ev env x=some (.int .i64 0)) (hy:ev env y=some (.int .i64 (m:Int))) (hT:TyL P T U s) (hZ:TyZ P U s bytes z) (hd:o.dst=some d) (hn:d<n) (hb:bytes*m≤281474976710656) (hm:m≤9223372036854775807) (h:∀b,At n ((d, .slice (some ⟨b,0,none⟩) 0 m) ::env) w0 (Rs++ [.cel b U (madeCells z.cells (m*s)).toList]) K) :At n env w0 Rs (fun a w=>o.wp P a w K Q) :=fun a w hf hs=>by
 obtain ⟨i,hi,hz0,hz1,hz2⟩ :=hZ.info
 have hmk:=run_make (P:=P) w T U i z hT.desc hi hz0 .i64 .i64 0 (m:Int) Om Om (by rw [hz2];omega) Om
 rw [hz1,Int.toNat_natCast] at hmk
 have hrun: (execOp a.eval o).run P w= .ok (.value (.slice (some ⟨w.heap.size,0,none⟩) 0 m)) (w.alloc (.cells (madeCells z.cells (m*s)) U)) :=by
  unfold execOp
  simp only [ho,hf.ev hx,hf.ev hy,Sem.run_bind,hmk,Result.andThen_ok,Sem.run_pure]
  rfl
 show o.upon P a K Q ((execOp a.eval o).run P w)
 rw [hrun,Oper.upon_value,hd]
 exact h _ _ _ (hf.put hn _) (hs.add (Over.alloc _ _) (by show(w.alloc _).heap[w.heap.size]? =some (.cells (madeCells z.cells (m*s)).toList.toArray U (0,0));rw [heap_alloc_new,jjd]) (fun b hb=>Nat.le_of_eq hb.symm) ⟨jie _,fun _ _=>jie _⟩)
theorem jd6 (k s m:Nat) (hX:w0.X= []) {U:Nat} (hk:Rs[k]? =some (.cel b U cs)) (hl:cs.length=m*s) (hm:m≤maxLen) (h:At n env w0 (Rs.set k (.row w0.N U s (.slice (some ⟨b,0,none⟩) 0 m) 0 [])) K) :At n env w0 Rs K:=fun a w hf hs=>by
 have hlow:w0.N≤b:= ((hs.all k _ hk).2.1 b rfl).elim id (fun h=>by rw [hX] at h;cases h)
 refine h a w hf (hs.chg hk (fun hP=> ?_) (fun c hc=> ?_) J)
 ·exact⟨by simp, .inr ⟨b,m,cs.toArray,rfl,hlow,hP,jie _,hm,by simp [hl],by simp⟩⟩
 ·have:some b=some c:=hc
  injection this with this
  exact this.symm
end
def XR (a b c:Pn) :Pn:= (a.1- 2*b.1+c.1,a.2- 2*b.2+c.2)
def Pv (p:Pn) :Int:=max p.1 (-p.1) +max p.2 (-p.2)
def Td (s t:Int) (l:Nat) :Bool:=decide (s≤4*t*2^ (2* (l:Int)).toNat)
def lvF (s t:Int) :Option Nat:= (List.range 7).find? (Td s t)
def lvV (s t:Int) :Int:=match lvF s t with
 | some l=>l
 | none=>0
def lvC (s t:Int) :Int:=if(lvF s t).isSome=true then 0 else 5
theorem jct {s:Int} (hl:l≤6) (hn:∀j,j<l→Td s t j=false) (h:Td s t l=true) :lvV s t=l∧lvC s t=0:=by
 have e:lvF s t=some l:=List.find?_eq_some_iff_getElem.2 ⟨h,l,by simp;omega,by simp,fun j hj=>by simp [hn j hj]⟩
 exact⟨by rw [lvV,e],by rw [lvC,e];rfl⟩
theorem jfL {s:Int} (hn:∀j,j<7→Td s t j=false) :lvV s t=0∧lvC s t=5:=by
 have e:lvF s t=none:=List.find?_eq_none.2 fun j hj=>by rw [hn j (jjN.1 hj)];decide
 exact⟨by rw [lvV,e],by rw [lvC,e];rfl⟩
theorem jhv (s t:Int) :∃l:Nat,l≤6∧lvV s t=l:=by
 unfold lvV
 cases h:lvF s t with
 | none=>exact⟨0,by omega,rfl⟩
 | some l=>
  have:=List.mem_of_find?_eq_some h
  exact⟨l,by have:=jjN.1 this;omega,rfl⟩
theorem jgT (h:l≤6) : (1:Int)≤2^ (2* (l:Int)).toNat∧(2:Int) ^ (2* (l:Int)).toNat≤4096:=by
 have:l=0∨l=1∨l=2∨l=3∨l=4∨l=5∨l=6:=by omega
 rcases this with rfl | rfl | rfl | rfl | rfl | rfl | rfl<;>decide
theorem jfW (h:l≤6) (h2:1≤t∧t≤262144) :0≤4*t*2^ (2* (l:Int)).toNat∧4*t*2^ (2* (l:Int)).toNat≤4294967296:=by
 obtain ⟨p1,p2⟩ :=jgT h
 obtain ⟨z,hz⟩ :∃z:Int,z=2^ (2* (l:Int)).toNat:=⟨_,rfl⟩
 rw [←hz] at p1 p2⊢
 have h3:=jiP (show 0≤4*t by omega) (show 0≤z by omega)
 have h4:=jjW (show 4*t≤1048576 by omega) p2 Om Om
 exact⟨h3,by omega⟩
theorem jf2 {k n:Int} (hk:0≤k) (hkn:k≤n) (hn:n≤64) : (0≤(n- k) * (n- k)∧(n- k) * (n- k)≤4096)∧(0≤k*k∧k*k≤4096)∧(0≤(n- k) *k∧(n- k) *k≤4096)∧(0≤n*n∧n*n≤4096) :=by
 have key:∀a b:Int,0≤a→a≤64→0≤b→b≤64→0≤a*b∧a*b≤4096:=fun a b h1 h2 h3 h4=>⟨jiP h1 h3,by have:=jjW h2 h4 h3 Om;omega⟩
 exact⟨key _ _ Om Om Om Om,key _ _ Om Om Om Om,key _ _ Om Om Om Om,key _ _ Om Om Om Om⟩
theorem U0 {x y:Int} (h1:0≤x) (h2:x≤4096) (h3:0≤y) (h4:y≤64) :0≤x*y∧x*y≤262144:=⟨jiP h1 h3,by have:=jjW h2 h4 h3 Om;omega⟩
def uH (xs:List Pn) (ws:List Int) :Nat→Pn
 | 0=> (0,0)
 | k+1=> ((uH xs ws k).1+px xs k*nth ws k,(uH xs ws k).2+py xs k*nth ws k)
theorem Nm {xs:List Pn} {ws:List Int} (hx:∀p∈xs,bd2 p) (hw:∀v∈ws,-1048576≤v∧v≤1048576) (hl:xs.length≤ws.length) :∀k,k≤xs.length→(-(k*274877906944:Int)≤(uH xs ws k).1∧(uH xs ws k).1≤k*274877906944)∧-(k*274877906944:Int)≤(uH xs ws k).2∧(uH xs ws k).2≤k*274877906944
 | 0,_=>by simp [uH]
 | k+1,hk=>by
  obtain ⟨⟨a1,a2⟩,a3,a4⟩ :=Nm hx hw hl k Om
  obtain ⟨⟨b1,b2⟩,b3,b4⟩ :=hx (pt xs k) (by rw [←kB (show k<xs.length by omega)];exact jir _)
  obtain ⟨c1,c2⟩ :=hw (nth ws k) (by rw [←Ph (show k<ws.length by omega)];exact jir _)
  have e1: (pt xs k).1=px xs k:=rfl
  have e2: (pt xs k).2=py xs k:=rfl
  rw [e1] at b1 b2
  rw [e2] at b3 b4
  obtain ⟨d1,d2⟩ :=QW (A:=262144) (B:=1048576) b1 b2 c1 c2
  obtain ⟨d3,d4⟩ :=QW (A:=262144) (B:=1048576) b3 b4 c1 c2
  simp only [uH]
  refine⟨⟨?_,?_⟩,?_,?_⟩ <;>omega
theorem zb (A:Option Addr) (n c:Nat) (xs:List Pn) (B:Option Addr) (m d:Nat) (ws:List Int) (w:World) (h:Pts w A n xs) (h2:Nums w B m ws) (hn:n≤4) (hm:n≤m) (hx:∀p∈xs,bd2 p) (hw:∀v∈ws,-1048576≤v∧v≤1048576) :
  Calls Tryz.prog 209 #[.slice A n c, .slice B m d] w fun e w'=>e= .returned (pV (uH xs ws n))∧Over w w':=by
 have hl:=h.1
 have hl2:=h2.1
 have hcb:=Nm hx hw Om
 refine jK (m:=39) (Tryz.func209) J J (lb J) ?_;refine S3 ?_;refine aL (fun b1=> ?_);refine N4 ?_;refine aL (fun b2=> ?_);refine N9 ?_;refine JE (X:=Nat) (fun k=>k≤n) (fun k=>n- k) (fun k=> [(10, .int .i64 (k:Int))]) (kK [1,4,5,8,9]) (fun k=> [.cel b1 28 [.int .i64 0, .int .i64 0], .cel b2 28 [.int .i64 (uH xs ws k).1, .int .i64 (uH xs ws k).2]]) 0 (jie _) ⟨J,sz⟩ (fun _ h=>h) ?_
 intro k hk L hL1
 refine v9 ?_;refine r9 ?_;refine S5 ?_;refine cZ (fun c1=> ?_) (fun c1=> ?_)
 ·have hlt:k<n:=Om
  obtain ⟨fb,fo,rfl,_⟩ :=h.2 Om
  obtain ⟨gb,go,rfl,_⟩ :=h2.2 Om
  obtain ⟨⟨a1,a2⟩,a3,a4⟩ :=hcb k Om
  obtain ⟨⟨z1,z2⟩,z3,z4⟩ :=hcb (k+1) Om
  obtain ⟨⟨v1,v2⟩,v3,v4⟩ :=hx (pt xs k) (by rw [←kB (show k<xs.length by omega)];exact jir _)
  obtain ⟨u1,u2⟩ :=hw (nth ws k) (by rw [←Ph (show k<ws.length by omega)];exact jir _)
  obtain ⟨d1,d2⟩ :=QW (A:=262144) (B:=1048576) (show-262144≤px xs k from v1) (show px xs k≤262144 from v2) u1 u2
  obtain ⟨d3,d4⟩ :=QW (A:=262144) (B:=1048576) (show-262144≤py xs k from v3) (show py xs k≤262144 from v4) u1 u2
  refine S8 ?_;refine a9 (jk J J jj J (Q4 h hlt)) ?_;refine S1 ?_;refine aL (fun b3=> ?_);refine N6 ?_;refine JH 11 ?_;refine dK 0 ?_;refine dK 1 ?_;refine dK 2 ?_;refine dK 3 ?_;refine dK 4 ?_;refine dK 5 ?_;refine dK 6 ?_;refine dZ 7 J (jq J J jt (jdc h2 Om)) ?_;refine dK 8 ?_;refine dK 9 ?_;refine dK 10 ?_;refine kN J Kr J ?_;refine Ox (k:=1) J J J J (J) (by rfl) qW.szx J ?_;refine n9 ?_;refine uq Kr ?_;refine S2 ?_;refine JH 11 ?_;refine dK 0 ?_;refine dK 1 ?_;refine dK 2 ?_;refine dK 3 ?_;refine dK 4 ?_;refine dK 5 ?_;refine dK 6 ?_;refine dZ 7 J (jq J J jt (jdc h2 Om)) ?_;refine dK 8 ?_;refine dK 9 ?_;refine dK 10 ?_;refine kN J Kr J ?_;refine Oy (k:=1) J J J J (J) (by rfl) qW.szx J ?_;refine n9 ?_;refine uq Kr ?_;refine S6 ?_
  exact Jd hL1 (k+1) ((show k+1≤n by omega)) Om ⟨vi Om,sz⟩ (u9 J)
 ·have hkn:k=n:=Om
  subst hkn
  refine S12 ?_;refine jJ J (JZ (k:=0) J jj J J) ?_
  intro w' hs
  exact⟨rfl,hs.fin⟩
theorem E0 (p:Pn) (d:Int) (w:World) (hd:1≤d) (hd':d≤262144) (h1: -2305843009213693952≤p.1∧p.1≤2305843009213693952) (h2: -2305843009213693952≤p.2∧p.2≤2305843009213693952) :
  Calls Tryz.prog 208 #[pV p, .int .i64 d] w fun e w'=>e= .returned (pV (yz p.1 d,yz p.2 d))∧Over w w':=by
 refine jK (m:=14) (Tryz.func208) J J (lb J) ?_;refine S3 ?_;refine aX (fun b1=> ?_);refine N1 ?_;refine aL (fun b2=> ?_);refine N3 ?_;refine Q0 10 [1] ?_;refine dK 0 ?_;refine dK 1 ?_;refine dK 2 ?_;refine dZ 3 J (jG yo J J (fun w1 hs=>Calls.still (Vy p.1 d w1 hd Om h1.1 h1.2))) ?_;refine dK 4 ?_;refine dK 5 ?_;refine dK 6 ?_;refine dZ 7 J (jG yo J J (fun w1 hs=>Calls.still (Vy p.2 d w1 hd Om h2.1 h2.2))) ?_;refine dZ 8 J (JF J J (Qi J J)) ?_;refine qd (i:=9) J Dc Kr J ?_;refine S1 ?_;refine JU (uw [1] J) ?_;refine JB Kr ?_;refine S2 ?_;refine jJ J (JZ (k:=1) J jj J J) ?_
 intro w' hs
 exact⟨rfl,hs.fin⟩
theorem jdz {p:Pn} {B:Int} (h: (-B≤p.1∧p.1≤B)∧-B≤p.2∧p.2≤B) :0≤Pv p∧Pv p≤2*B:=by
 unfold Pv
 omega
theorem Ha {a b c:Pn} (ha:bd2 a) (hb:bd2 b) (hc:bd2 c) : (-1048576≤(XR a b c).1∧(XR a b c).1≤1048576)∧-1048576≤(XR a b c).2∧(XR a b c).2≤1048576:=by
 obtain ⟨⟨a1,a2⟩,a3,a4⟩ :=ha
 obtain ⟨⟨b1,b2⟩,b3,b4⟩ :=hb
 obtain ⟨⟨c1,c2⟩,c3,c4⟩ :=hc
 unfold XR
 exact⟨⟨by simp only;omega,by simp only;omega⟩,by simp only;omega,by simp only;omega⟩
theorem O7 (p:Pn) (w:World) (h: (-1048576≤p.1∧p.1≤1048576)∧-1048576≤p.2∧p.2≤1048576) :Calls Tryz.prog 246 #[pV p] w fun e w'=>e= .returned (.int .i64 (Pv p))∧Over w w':=by
 refine jK (m:=16) (Tryz.func246) J J (lb J) ?_;refine S3 ?_;refine aX (fun b1=> ?_);refine N8 ?_;refine a9 (uv J J Om Om) ?_;refine a9 (OW J J J) ?_;refine S4 ?_;refine a9 (uv J J Om Om) ?_;refine a9 (OW J J J) ?_;refine S4 ?_;refine jJ J (.tmp J) ?_
 intro w' hs
 exact⟨rfl,hs.fin⟩
theorem Iu (s t:Int) (w:World) (hs0:0≤s∧s≤6291456) (ht:1≤t∧t≤262144) :Calls Tryz.prog 206 #[.int .i64 s, .int .i64 t] w fun e w'=>e= .returned (.tuple #[.int .i64 (lvV s t), .int .i64 (lvC s t)])∧Over w w':=by
 refine jK (m:=19) (Tryz.func206) J J (lb J) ?_;refine S11 ?_;refine qj (X:=Nat) (fun l=>l≤7∧∀j,j<l→Td s t j=false) (fun l=>7- l) (fun l=> [(6, .int .i64 (l:Int))]) (kK [0,1,4,5]) 0 (⟨jie _,fun j hj=>absurd hj (jjP j)⟩) ⟨J,sz⟩ ?_
 intro l hl L hL1
 refine v9 ?_
 obtain ⟨hl7,hno⟩ :=hl
 refine S6 ?_;refine cZ (fun c1=> ?_) (fun c1=> ?_)
 ·have hl6:l≤6:=Om
  obtain ⟨p1,p2⟩ :=jfW hl6 ht
  refine S11 ?_;refine a9 (L7 J J J Om Om Om Om) ?_;refine S2 ?_;refine cZ (fun c2=> ?_) (fun c2=> ?_)
  ·obtain ⟨e1,e2⟩ :=jct hl6 hno (show Td s t l=true from decide_eq_true c2)
   refine S12 ?_;refine JX J (.tmp J) (.tmp J) ?_
   intro w' hs
   exact⟨by rw [e1,e2],hs.fin⟩
  ·refine S8 ?_
   exact qa hL1 (l+1) (⟨by omega,fun j hj=>by by_cases e:j=l;subst e;exact decide_eq_false (Int.not_le.2 c2);exact hno j Om⟩) Om ⟨vi Om,sz⟩ (u9 rfl)
 ·obtain ⟨e1,e2⟩ :=jfL (s:=s) (t:=t) fun j hj=>hno j Om
  refine S11 ?_;refine JX J (.tmp J) (.tmp J) ?_
  intro w' hs
  exact⟨by rw [e1,e2],hs.fin⟩
theorem Rl (h:l≤6) : (1:Int) *2^ ((l:Int)).toNat= ((2^l:Nat) :Int)∧1≤2^l∧2^l≤64:=by
 have:l=0∨l=1∨l=2∨l=3∨l=4∨l=5∨l=6:=by omega
 rcases this with rfl | rfl | rfl | rfl | rfl | rfl | rfl<;>decide
theorem ZQ (a b c:Pn) (w:World) (ha:bd2 a) (hb:bd2 b) (hc:bd2 c) :Calls Tryz.prog 244 #[pV a,pV b,pV c] w fun e w'=>e= .returned (pV (XR a b c))∧Over w w':=by
 obtain ⟨⟨a1,a2⟩,a3,a4⟩ :=ha
 obtain ⟨⟨b1,b2⟩,b3,b4⟩ :=hb
 obtain ⟨⟨c1,c2⟩,c3,c4⟩ :=hc
 refine jK (m:=26) (Tryz.func244) J J (lb J) ?_;refine S3 ?_;refine aX (fun b1=> ?_);refine N1 ?_;refine aX (fun b2=> ?_);refine N1 ?_;refine aX (fun b3=> ?_);refine N1 ?_;refine aL (fun b4=> ?_);refine N21 ?_;refine a9 (JF J J (Qi J J)) ?_;refine S4 ?_;refine jJ J (JZ (k:=3) J jj J J) ?_
 intro w' hs
 exact⟨rfl,hs.fin⟩
theorem HI (p:Pn) (w:World) (h: (-1048576≤p.1∧p.1≤1048576)∧-1048576≤p.2∧p.2≤1048576) :Calls Tryz.prog 243 #[pV p] w fun e w'=>e= .returned (.int .i64 (Pv p))∧Over w w':=by
 refine jK (m:=16) (Tryz.func243) J J (lb J) ?_;refine S3 ?_;refine aX (fun b1=> ?_);refine N4 ?_;refine JH 14 ?_;refine dK 0 ?_;refine dK 1 ?_;refine dK 2 ?_;refine dK 3 ?_;refine dZ 4 J (uv J J Om Om) ?_;refine dZ 5 J (jG kD J J (fun w1 hs=>Calls.still (KI p.1 (-p.1) w1))) ?_;refine dK 6 ?_;refine dK 7 ?_;refine dK 8 ?_;refine dK 9 ?_;refine dZ 10 J (uv J J Om Om) ?_;refine dZ 11 J (jG kD J J (fun w1 hs=>Calls.still (KI p.2 (-p.2) w1))) ?_;refine dK 12 ?_;refine dK 13 ?_;refine JB Kr ?_;refine S2 ?_;refine jJ J (.tmp J) ?_
 intro w' hs
 exact⟨rfl,hs.fin⟩
def dsq (a b:Pn) :Int:= (b.1- a.1) * (b.1- a.1) + (b.2- a.2) * (b.2- a.2)
def alg (a b p:Pn) :Int:= (p.1- a.1) * (b.1- a.1) + (p.2- a.2) * (b.2- a.2)
def jhw (a b p:Pn) (r:Int) :Bool:=
 if dsq a p≤r*r∨dsq b p≤r*r then true else if alg a b p≤0∨dsq a b≤alg a b p then false else decide (tn a b p*tn a b p≤r*r*dsq a b)
def jhy (a b p:Pn) :Int:=if a=b then dsq a p else max (tn a b p) (-tn a b p)
def Ea (a b:Pn) (r:Int) (xs:List (Int×Int)) :Nat→Int×Int
 | 0=> (-1,-1)
 | k+1=>if jhw a b (pt xs (k+1)) r=true then Ea a b r xs k else if(Ea a b r xs k).2<jhy a b (pt xs (k+1)) then(((k+1:Nat) :Int),jhy a b (pt xs (k+1))) else Ea a b r xs k
def far (r:Int) (xs:List (Int×Int)) :Int:= (Ea (pt xs 0) (pt xs (xs.length- 1)) r xs (xs.length- 2)).1
def okPath (xs:List (Int×Int)) :Prop:=xs.length≤402∧∀p∈xs,bd2 p
theorem okPath.at_ (h:okPath xs) {k:Nat} (hk:k<xs.length) :bd2 (pt xs k) :=by
 have:=h.2 xs[k] (jir hk)
 rwa [U5 hk] at this
theorem okPath.take (h:okPath xs) (k:Nat) :okPath (xs.take k) :=⟨by rw [jim];have:=h.1;omega,fun p hp=>h.2 p (jiL hp)⟩
theorem okPath.drop (h:okPath xs) (k:Nat) :okPath (xs.drop k) :=⟨by rw [jiy];have:=h.1;omega,fun p hp=>h.2 p (jiX hp)⟩
section
variable {n:Nat} {env:List (Nat×Value)} {w0:Bs} {Rs:List Res} {K:Act→World→Prop}
theorem P5 (k s m:Nat) (hX:w0.X= []) {U:Nat} (hk:Rs[k]? =some (.cel b U cs)) (hl:cs.length=m*s) (hm:m≤maxLen) (h:At n env w0 (Rs.set k (.row w0.N U s (.slice (some ⟨b,0,none⟩) m m) m cs)) K) :At n env w0 Rs K:=fun a w hf hs=>by
 have hlow:w0.N≤b:= ((hs.all k _ hk).2.1 b rfl).elim id (fun h=>by rw [hX] at h;cases h)
 refine h a w hf (hs.chg hk (fun hP=> ?_) (fun c hc=> ?_) J)
 ·exact⟨hl, .inr ⟨b,m,cs.toArray,rfl,hlow,hP,jif _,hm,by simp [hl],by simp [←hl]⟩⟩
 ·have:some b=some c:=hc
  injection this with this
  exact this.symm
end
theorem Ly (r:Int) (w:World) :Calls Tryz.prog 205 #[.int .i64 r] w fun e w'=>e= .returned (.bool (decide (1≤r∧r≤262144)))∧Over w w':=by
 refine jK (m:=9) (Tryz.func205) J J (lb J) ?_;refine S9 ?_;refine cV 5 (fun g1=> ?_) (fun g1=> ?_)
 ·refine S8 ?_;refine jJ J (.tmp J) ?_
  intro w' hs
  exact⟨congrArg Ending.returned (congrArg Value.bool (jiK.2 (by simp;omega))),hs.fin⟩
 ·refine S6 ?_;refine jJ J (.tmp J) ?_
  intro w' hs
  exact⟨congrArg Ending.returned (congrArg Value.bool (jiK.2 (by simp;omega))),hs.fin⟩
theorem Gx (r:Int) (w:World) :Calls Tryz.prog 196 #[.int .i64 r] w fun e w'=>e= .returned (.bool (decide (1≤r∧r≤262144)))∧Over w w':=by
 refine jK (m:=5) (Tryz.func196) J J (lb J) ?_;refine S7 ?_;refine a9 (jG W7 J J (fun w h=>Calls.still (wM _ _ _ w))) ?_;refine S3 ?_;refine jJ J (.tmp J) ?_
 intro w' hs
 exact⟨congrArg Ending.returned (congrArg Value.bool (jiK.2 (by simp [Yt]))),hs.fin⟩
theorem Nums.ovx {w w':World} {n:Nat} {zs:List Int} (h:Nums w A n zs) (ho:Ovx ⟨w,[b]⟩ w') (hne:∀p,A=some p→p.block≠b) :Nums w' A n zs:=by
 refine⟨h.1,fun hn=> ?_⟩
 obtain ⟨b',o,rfl,hlt,hc⟩ :=h.2 hn
 have hs:w.heap.size≤w'.heap.size:=ho.size
 have hb:=ho.block b' hlt (by simpa using hne _ rfl)
 refine⟨b',o,J,by omega,fun k hk=> ?_⟩
 rw [←hc k hk]
 simp only [World.cell?,hb]
section
variable {b n c K:Nat} {A:Option Addr} {zs:List Int} {w:World}
end
theorem IP {w0:Bs} {Rs:List Res} {k T m:Nat} (xs:List Int) (hk:Rs[k]? =some (.cel b T (xs.map (Value.int .i64)))) (hm:xs.length=m) :∀w,St w0 Rs w→Nums w (some ⟨b,0,none⟩) m xs:=fun w hs=>by
 have hh:=hs.cel hk
 refine⟨hm,fun _=>⟨b,0,J,J4 hh,fun j hj=> ?_⟩⟩
 rw [jiB,cell_of_row w b _ _ T (0,0) hh,List.getElem?_toArray,List.getElem?_map,List.getElem?_eq_getElem (show j<xs.length by omega),Ph Om]
 rfl
section
variable {n c:Nat} {A:Option Addr} {zs:List Int} {w:World}
end
end Go.Proofs.YtbahojdbmmjkcaaGreat
