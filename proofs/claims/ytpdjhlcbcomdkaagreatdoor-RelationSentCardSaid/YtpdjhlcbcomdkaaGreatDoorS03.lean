import Derived.Test.YtpdjhlcbcomdkaaGreatDoorChecked
import Derived.Test.YtpdjhlcbcomdkaaGreatDoorShelf
import Derived.Test.YtpdjhlcbcomdkaaGreatDoorS0R
set_option linter.all false
set_option maxRecDepth 100000
set_option maxHeartbeats 16000000
open Go Go.Q Go.Qr Go.Proofs.Tryz Go.RowKit
namespace Go.Proofs.By
def Ef(n:Nat):Int×Int:=(((n/65536:Nat):Int),((n%65536:Nat):Int))
def yK(v:Value)(b:List UInt8)(k:Nat)(w:World)(hv:XU w v b)(h4:b.length%4=0)(hb:b.length≤1000)(S0:12≤b.length)(hk:k≠203)(AU:k<256) :
  Calls prog 172 #[v,.int .i64 (k:Int)] w fun e w'=>(∃a,e = .returned a∧SH w' a (parts b k))∧Below w w w':=by
 have HV:Hid (∀w',Below w w w'→XU w' v b):=fun w' h=>hv.below h
 have hlen:=hv.len;obtain⟨a,c,rfl,Rt,-⟩:=id hv;obtain⟨m,hm⟩:∃m,b.length=12+4*m:=⟨(b.length-12)/4,Zo⟩
 have HW:Hid (∀j,j<m→((XL b 12).take (j+1)).map Ef=((XL b 12).take j).map Ef++[Ef (get b (12+4*(j:Int)) 4)]):=fun j hj=>by
  rw[Cu b 12 j Zo,Ng,r9];rfl
 have iX:Hid ((XL b 12).length=m):=by show _=_;rw[FD];omega
 have HWT:Hid (∀j,j≤m→(((XL b 12).take j).map Ef).length=j):=fun j hj=>by rw[Te,SC,iX.o];omega
 have HE:Hid (parts b k={XJ with kind:=k,Yi:=get b 4 4,XS:=get b 8 4,Xm:=(XL b 12).map Ef}):=by show _=_;unfold parts;rw[Z3 hk];rfl
 have K7:get b 4 4<4294967296:=U7 b 4 4 4 Zd;have hx8:get b 8 4<4294967296:=U7 b 8 4 4 Zd;have C4:=Zh (Pm _ b 4 ((w.alloc (.cells (Vj 0 0 0 (.slice none 0 0) (.slice none 0 0)) 173)).alloc (.cells (Vj k 0 0 (.slice none 0 0) (.slice none 0 0)) 173)) (HV.o _ (PB.start w k 0 0).Za));have C8:=Zh (Pm _ b 8 ((w.alloc (.cells (Vj 0 0 0 (.slice none 0 0) (.slice none 0 0)) 173)).alloc (.cells (Vj k 0 0 (.slice none 0 0) (.slice none 0 0)) 173)) (HV.o _ (PB.start w k 0 0).Za));have bk:((k:Int)==203)=false:=by rw[Wz];omega
 have bk2:((k:Int)!=203)=true:=by rw[Rs];omega
 have CN:Hid (∀w' (j:Nat),Below w w w'→Calls prog 183 (Ja a b.length c (12+4*(j:Int))) w' fun e w1=>e = .returned (.int .u32 (get b (12+4*(j:Int)) 4:Nat))∧w'=w1):=fun w' j h=>Pm _ b _ w' (HV.o w' h)
 have zY:=Zh (PB.start w k (get b 4 4:Nat) (get b 8 4:Nat));clear hv HV;rw[hm];rw[hm]at CN C4 C8;have hm1000:m≤250:=by omega
 generalize parts b k=X at *;generalize get b 4 4=s4 at *;generalize get b 8 4=s8 at *;clear hm hlen h4 hb S0 Rt hk;go_enter func172,ntmps172;go_wp2_with fail
 refine C4.o.mono ?_;rintro e w' ⟨rfl,rfl⟩;go_wp2_with fail
 refine C8.o.mono ?_;rintro e w' ⟨rfl,rfl⟩;go_wp2_with fail
 go_loopw [6] (fun i w'=>∃(j:Nat) (pv:Value),j≤m∧i = .int .i64 (12+4*(j:Int))∧PB w w' k s4 s8 (.slice none 0 0) pv∧w'.ownsRow (w.heap.size+2) 226 2 pv j ((((XL b 12).take j).map Ef).flatMap VY)) (fun i _=>12+4*m-(intOf i).toNat)
 case atStart=>exact⟨0,.slice none 0 0,Tv _,rfl,zY.o,TH _ _ _ _⟩
 case round=>
  clear zY;obtain⟨j,gv,hj,rfl,Cq,Yy⟩:=hrel;have QO:=Zh Cq;have Yd:=Zh Yy;have T8:=Cq.size;have c9:wr.cell? ⟨w.heap.size+1,9,none⟩=some gv:=Cq.cell 9;clear Cq Yy;by_cases xY:j<m
  ·have CN1:=Zh (CN.o wr j QO.o.Za);have wT:=Zh (HW.o j xY);have hn:get b (12+4*(j:Int)) 4<4294967296:=U7 b _ 4 4 Zd;generalize get b (12+4*(j:Int)) 4=n at *
   have G3:Hid (VY (Ef n)=(Qz ((n:Int)/65536) (IntKind.u16.wrap (n:Int)))):=by
    show _=_;have h1:IntKind.u16.wrap (n:Int)=((n%65536:Nat):Int):=by simp[IntKind.wrap,IntKind.bits,IntKind.signed]
    rw[h1];show[Value.int .u16 ((n/65536:Nat):Int),Value.int .u16 ((n%65536:Nat):Int)]=_;rw[Int.natCast_ediv];rfl
   go_wp2_with (first|(go_at_call 183;refine CN1.o.mono ?_;rintro e w' ⟨rfl,rfl⟩)|(at_builtin;refine YN rfl (.tmp 36) (.tmp 43) 171 rfl (w.heap.size+2) J6 gv j _ rfl (Yd.o.alloc _) _ 1 (Qz ((n:Int)/65536) (IntKind.u16.wrap (n:Int))) rfl (Vw wr 226 1 (Qz ((n:Int)/65536) (IntKind.u16.wrap (n:Int))) Zd) rfl (by intro u hu;simp at hu;rcases hu with rfl|rfl <;> rfl) Zo Zo TY (fun v' w5 HO HG=>?_);have zZ:=Zh ((QO.o.below (Z' wr (.cells (Qz ((n:Int)/65536) (IntKind.u16.wrap (n:Int))) 226))).grown HG.o (Ku Yd.o));have JK:=zZ.o.size;have f9:=zZ.o.frozen 9;have c95:w5.cell? ⟨w.heap.size+1,9,none⟩=some gv:=zZ.o.cell 9;obtain⟨va,vc,ll,-,-⟩:=Row.Z4 HO.o;subst ll))
   go_roundw
   case rel=>exact⟨j+1,_,Zo,Zn,zZ.o.setP _,by rw[wT.o];exact UX (by have:=HO.o;rw[←G3.o]at this;rw[O7];exact this) Zo _⟩
   case measure=>simp[intOf];omega
  ·obtain rfl:j=m:=by omega
   have ZW:=Row.Z4 Yd.o;obtain⟨va,vc,rfl,-,-⟩:=id ZW;have e0:=QO.o.cell 0;have e1:=QO.o.cell 1;have e2:=QO.o.cell 2;have e3:=QO.o.cell 3;have e4:=QO.o.cell 4;have e5:=QO.o.cell 5;have e6:=QO.o.cell 6;have e7:=QO.o.cell 7;have e8:=QO.o.cell 8;simp only[Vj,Ss,R_,Rw]at e0 e1 e2 e3 e4 e5 e6 e7 e8;have U0:=Zh ZW;have g0:=fun k=>QO.o.frozen0 k
   have g00:=g0 0;have z0:=QO.o.cell0 0;have g10:=g0 1;have z1:=QO.o.cell0 1;have g20:=g0 2;have z2:=QO.o.cell0 2;have g30:=g0 3;have z3:=QO.o.cell0 3;have g40:=g0 4;have z4:=QO.o.cell0 4;have g50:=g0 5;have z5:=QO.o.cell0 5;have g60:=g0 6;have z6:=QO.o.cell0 6;have g70:=g0 7;have z7:=QO.o.cell0 7;have g80:=g0 8;have z8:=QO.o.cell0 8;have g90:=g0 9;have z9:=QO.o.cell0 9;simp only[Vj,Ss,R_,Rw]at z0 z1 z2 z3 z4 z5 z6 z7 z8 z9;clear ZW g0;have HT:Hid ((XL b 12).take j=XL b 12):=Ex (by rw[iX.o];exact Zq _);have zV:Hid (((XL b 12).map Ef).length=j):=by show _=_;rw[Te];exact iX.o
   have HK:Hid (∀w',Fr wr (· = w.heap.size) wr w'→(Row w' 226 (.slice va j vc) j ((((XL b 12).take j).map Ef).flatMap VY)∧Below w w w')):=fun w' hf=>
    ⟨U0.o.fr hf (Zq _) (fun k c' fr hk e=>by subst hk;rw[QO.o.tG]at e;injection e with e;injection e with _ e _;exact absurd e Zd),QO.o.Za.trans (Fr.below (hf.mono (jD (Nat.lt_trans (Nat.lt_succ_self _) T8)) (fun k hk hs=>by have hs:k=w.heap.size:=hs;omega)))⟩
   go_wp2;refine Vr (v:= .agg (Qe k s4 0 0 0 0 none 0 0 none 0 0 s8 va j vc)) (by simp[results,results172,go_sem,z0,z1,z2,z3,z4,z5,z6,z7,z8,z9]) rfl ⟨⟨_,rfl,?_⟩,?_⟩
   ·have h:=HK.o _ (eQ wr w (.int .i64 k) (.int .u32 s4) (.int .u64 0) (.int .u32 0) (.int .u32 0) (.int .u32 0) (.slice none 0 0) (.slice none 0 0) (.int .u32 s8) (.slice va j vc));rw[HT.o]at h;refine⟨.slice none 0 0,.slice none 0 0,.slice va j vc,by rw[HE.o];rfl,by rw[HE.o];exact Row.nil _ _,by rw[HE.o];exact Row.nil _ _,?_⟩;rw[HE.o];show Row _ _ _ ((XL b 12).map Ef).length _;rw[zV.o]
    with_reducible exact h.1
   ·have h:=HK.o _ (eQ wr w (.int .i64 k) (.int .u32 s4) (.int .u64 0) (.int .u32 0) (.int .u32 0) (.int .u32 0) (.slice none 0 0) (.slice none 0 0) (.int .u32 s8) (.slice va j vc))
    with_reducible exact h.2
def El(v:Value)(b:List UInt8)(w:World)(hv:XU w v b)(h0:(right b).2≠0) :
  Calls prog 170 #[v] w fun e w'=>(∃a,e = .returned (.tuple #[a,.int .i64 (XP b).1.2,.int .i64 (XP b).2])∧SH w' a (XP b).1.1)∧Below w w w':=by
 have HX:Hid (XP b=((XJ,0),(right b).2)):=by show _=_;unfold XP;rw[ZU h0]
 have C:=fun w1 h=>Dp v b w1 (hv.below (h:Below w w w1))
 have HC:=Zh C;obtain⟨a,c,rfl,Rt,-⟩:=id hv;clear C hv;have bl:((right b).2 !=0)=true:=by rw[Rs];exact h0
 have bl2:((right b).2==0)=false:=by rw[Wz];exact h0
 generalize XP b=X at *;generalize right b=Y at *;go_enter func170,ntmps170;go_wp2_with fail
 refine(HC.o _ (Z' _ _)).mono ?_;rintro e w2 ⟨rfl,Y7⟩;have y0:=Y7.block w Ah;rw[Z9]at y0;have zz:w.heap.size+1≤w2.heap.size:=by have h:=Y7.size;have h:(w.heap.push _).size≤w2.heap.size:=h;rw[N9]at h;exact h
 have z1:=cell_of y0 0;have z2:=cell_of y0 1;have z3:=cell_of y0 2;have z4:=cell_of y0 3;have z5:=cell_of y0 4;have z6:=cell_of y0 5;have z7:=cell_of y0 6;have z8:=cell_of y0 7;have z9:=cell_of y0 8;have mQ:=cell_of y0 9;simp only[Ss,R_,Rw]at z1 z2 z3 z4 z5 z6 z7 z8 z9 mQ;have H9:=fun(R:World→Prop) (h:R w2)=>(by rw[setRow_self _ _ _ _ _ y0];exact h:R (w2.setRow w X9))
 have HS:=Zh H9;clear H9 HC;go_wp2_with (with_reducible refine ZT 173 (.tmp 2) (.tmp 14) rfl ?_;go_loud (refine Zs y0 ?_;refine HS.o _ ?_))
 refine Vr (v:= .tuple (Qs X9 0 Y.2)) (by simp[results,results170,go_sem,z1,z2,z3,z4,z5,z6,z7,z8,z9,mQ]) rfl ⟨⟨_,by rw[HX.o];rfl,?_⟩,?_⟩
 ·exact⟨.slice none 0 0,.slice none 0 0,.slice none 0 0,by rw[HX.o];rfl,by rw[HX.o];exact Row.nil _ _,by rw[HX.o];exact Row.nil _ _,by rw[HX.o];exact Row.nil _ _⟩
 ·have h5:=Y7.mono (show w.heap.size≤(w.heap.push _).size by rw[N9];exact JV _);exact(Z' w _).trans h5
structure RB(w w':World)(k:Nat)(v:Value)(p:Nat)(cs:List Value):Prop where
 Za:Below w w w'
 Y8:w'.heap[w.heap.size]?=some (.cells cs.toArray 173)
 gQ:Tq w' k v p
 lt:w.heap.size<k
def RB.pW{w w':World}{k:Nat}{v:Value}{p:Nat}{cs:List Value}(h:RB w w' k v p cs):k<w'.heap.size:=h.gQ.lt
def RB.cell{w w':World}{k:Nat}{v:Value}{p:Nat}{cs:List Value}(h:RB w w' k v p cs)(j:Nat):w'.cell? ⟨w,j,none⟩=cs[j]?:=by
 rw[cell_of h.Y8 j];exact Ss
def RB.frozen{w w':World}{k:Nat}{v:Value}{p:Nat}{cs:List Value}(h:RB w w' k v p cs)(j:Nat):w'.frozen? ⟨w,j,none⟩=false:=ZP h.Y8 j
def RB.move{w w1 w':World}{k:Nat}{v:Value}{p q:Nat}{cs:List Value}(h:RB w w1 k v p cs)(he:Tq w' k v q)(hf:Fr w1 (· = k) w1 w'):RB w w' k v q cs:=by
 have hk:=h.pW;have hl:=h.lt;refine⟨h.Za.trans (Fr.below (hf.mono (show w.heap.size≤w1.heap.size by omega) (fun j hj hs=>by have hs:j=k:=hs;omega))),?_,he,hl⟩;rw[hf.block w Zo (fun hs=>by have hs:w.heap.size=k:=hs;omega)];exact h.Y8
def RB.below{w w1 w':World}{k:Nat}{v:Value}{p:Nat}{cs:List Value}(h:RB w w1 k v p cs)(hb:Below w1 w1 w'):RB w w' k v p cs:=by
 have hk:=h.pW;have hl:=h.lt;refine⟨h.Za.trans (hb.mono Zo),?_,?_,hl⟩
 ·rw[hb.block w Zo];exact h.Y8
 ·show w'.heap[k]?=_;rw[hb.block k hk];exact h.gQ
def RB.set{w w':World}{k:Nat}{v:Value}{p:Nat}{cs:List Value}(h:RB w w' k v p cs)(j:Nat)(u:Value):RB w (w'.setCell ⟨w,j,none⟩ u) k v p (cs.set j u):=by
 have hl:=h.lt;have h0:=h.Y8;refine⟨h.Za.setCell (p:=⟨w,j,none⟩) (Zq _) u,?_,?_,hl⟩
 ·simp only[World.setCell,Array.getElem?_modify,h0,if_true,Option.map_some];simp
 ·show(w'.setCell ⟨w,j,none⟩ u).heap[k]?=_;simp only[World.setCell,Array.getElem?_modify];rw[Z3 Zo];exact h.gQ
def RB.grown{w w1 w':World}{k:Nat}{v:Value}{p:Nat}{cs:List Value}(h:RB w w1 k v p cs){row:Option Nat}(hg:w1.grownBy w' row)(hr:∀j,row=some j→k<j):RB w w' k v p cs:=by
 have hk:=h.pW;have hl:=h.lt;refine⟨h.Za.trans ⟨hg.os,hg.tape,hg.output,hg.size,fun i hi=>hg.block i Zo (fun e=>by have:=hr i e.symm;omega)⟩,?_,?_,hl⟩
 ·rw[hg.block w Zo (fun e=>by have:=hr _ e.symm;omega)];exact h.Y8
 ·show w'.heap[k]?=_;rw[hg.block k hk (fun e=>by have:=hr _ e.symm;omega)];exact h.gQ
def F6{b:List UInt8}(h:(right b).2=0):4≤b.length∧(at8 b 1=200∨at8 b 1=201)∧at8 b 0%32≤15∧(right b).1=UB (at8 b 1) (at8 b 0%32)∧UB (at8 b 1) (at8 b 0%32)≤b.length:=by
 unfold right at h ⊢;split at h
 ·cases h
 rename_i h1
 rw[Z3 h1];split at h
 ·cases h
 rename_i h2
 rw[Z3 h2];split at h
 ·cases h
 rename_i h3
 rw[Z3 h3];split at h
 ·cases h
 rename_i h4
 rw[Z3 h4];split at h
 ·cases h
 rename_i h5
 rw[Z3 h5];exact⟨Zo,Zo,Zo,rfl,Zo⟩
def Mf:Elem prog 170 228 7 28:=⟨underlying170,⟨.agg (Qt 0 0 0 0 0 0 0),by kernel_rfl,rfl⟩,by decide⟩
def RU{P:Program}{ops:Array Oper}{o:Oper}{a:Act}{w:World}{K:Act→World→Prop}{Q:Exit→Act→World→Prop}{E':Prop}(Lt:o.guard=none)(ty:TypeId)(x y:Operand)(ho:o.op = .store ty x y)(hd:o.dst=none)
  (g:Nat) (cells:Array Value) (hx:a.eval x = .pointer (some ⟨g,0,none⟩)) (hy:a.eval y = .agg cells)
  (t:TypeId) (old:Array Value) (hg:w.heap[g]?=some (.cells old t (0,0))) (hi:(P.info? ty).map (·.size)=some cells.size)
  (hold:old.size=cells.size) (h1:cells.all (·.oneCell')=true) (h:K a (w.setRow g cells)) :
  if Region.wanted o (yielded ops a.tmps)=true then Oper.wp P o a w K Q else E':=by
 have hw:Region.wanted o (yielded ops a.tmps)=true:=by simp[Region.wanted,Lt]
 rw[ZU hw];exact Go.wp_store_row ty x y ho g cells hx hy t old hg hi hold h1 (by rw[hd];exact h)
def RB.row{w w':World}{k:Nat}{v:Value}{p:Nat}{cs:List Value}(h:RB w w' k v p cs)(cs':List Value):RB w (w'.setRow w cs'.toArray) k v p cs':=by
 have hl:=h.lt
 have he:∀j,j≠w.heap.size→(w'.setRow w cs'.toArray).heap[j]?=w'.heap[j]?:=fun j hj=>by
  simp only[World.setRow,Array.getElem?_modify];rw[Z3 (fun e=>hj e.symm)]
 refine⟨⟨h.Za.os,h.Za.tape,h.Za.output,by simpa[World.setRow]using h.Za.size,fun j hj=>by rw[he j Zo];exact h.Za.block j hj⟩,setRow_heap _ _ _ _ _ _ h.Y8,?_,hl⟩;show(w'.setRow _ _).heap[k]?=_;rw[he k Zo];exact h.gQ
structure RL(w w':World)(k:Nat)(v:Value)(p:Nat)(cs:List Value)(bv:Value)(j:Nat)(xs:List Value):Prop where
 rb:RB w w' k v p cs
 own:w'.ownsRow (k+1) 228 7 bv j xs
def RL.move{w w1 w':World}{k:Nat}{v:Value}{p q:Nat}{cs:List Value}{bv:Value}{j:Nat}{xs:List Value}(h:RL w w1 k v p cs bv j xs)(he:Tq w' k v q)(hf:Fr w1 (· = k) w1 w'):RL w w' k v q cs bv j xs:=
 ⟨h.rb.move he hf,A9 h.own fun i hi Ow=>hf.block i Ow (fun hs=>by have hs:i=k:=hs;omega)⟩
def RL.below{w w1 w':World}{k:Nat}{v:Value}{p:Nat}{cs:List Value}{bv:Value}{j:Nat}{xs:List Value}(h:RL w w1 k v p cs bv j xs)(hb:Below w1 w1 w'):RL w w' k v p cs bv j xs:=
 ⟨h.rb.below hb,Yq h.own hb⟩
def RL.other{w w1:World}{k:Nat}{v:Value}{p:Nat}{cs:List Value}{bv:Value}{j:Nat}{xs:List Value}(h:RL w w1 k v p cs bv j xs){g o:Nat}{c:Array Value}{f:Nat×Nat}(hg:w1.heap[g]?=some (.cells c 228 f))(hk:k<g)(hb:∀i,bv.ownBlock=some i→i≠g)(u:Value):RL w (w1.setCell ⟨g,o,none⟩ u) k v p cs bv j xs:=by
 have hl:=h.rb.lt;refine⟨⟨h.rb.Za.setCell (p:=⟨g,o,none⟩) (by show w.heap.size≤g;omega) u,?_,?_,hl⟩,?_⟩
 ·rw[L8 _ _ _ _ (by show w.heap.size≠g;omega)];exact h.rb.Y8
 ·show(w1.setCell _ _).heap[k]?=_;rw[L8 _ _ _ _ (by show k≠g;omega)];exact h.rb.gQ
 ·obtain⟨h1,h2⟩:=h.own;refine⟨h1,?_⟩;rcases h2 with h2|⟨g2,cap,cur,hv,ky,hh,r⟩
  ·exact WQ h2
  ·have WA:g2≠g:=hb g2 (by rw[hv];rfl);exact WG ⟨g2,cap,cur,hv,ky,by rw[L8 _ _ _ _ (by show g2≠g;exact WA)];exact hh,r⟩
def RL.grown{w w1 w':World}{k:Nat}{v:Value}{p:Nat}{cs:List Value}{bv:Value}{j:Nat}{xs:List Value}(h:RL w w1 k v p cs bv j xs)(hg:w1.grownBy w' bv.ownBlock):RB w w' k v p cs:=
 h.rb.grown hg (fun i hi=>by have:=Ku h.own i hi;omega)
def RL.word{w w1:World}{k:Nat}{v:Value}{b:List UInt8}{p:Nat}{cs:List Value}{bv:Value}{j:Nat}{xs:List Value}(h:RL w w1 k v p cs bv j xs)(hv:∀w',Below w w w'→XU w' v b)(hp:p≤100000) :
  Calls prog 180 #[.pointer (some ⟨k,0,none⟩)] w1 fun e w'=>e = .returned (.int .u32 (get b p 4:Nat))∧RL w w' k v (p+4) cs bv j xs∧Fr w1 (· = k) w1 w':=
 (II k v b p w1 h.rb.gQ (hv _ h.rb.Za) hp).mono fun _ _ ⟨h1,h2,h3⟩=>⟨h1,h.move h2 h3,h3⟩
def RL.get{w w1:World}{k:Nat}{v:Value}{b:List UInt8}{p:Nat}{cs:List Value}{bv:Value}{j:Nat}{xs:List Value}(h:RL w w1 k v p cs bv j xs)(hv:∀w',Below w w w'→XU w' v b)(hp:p≤100000)(q:Nat)(hq:q≤100) :
  Calls prog 181 (Qk (some ⟨k,0,none⟩) (q:Int)) w1 fun e w'=>e = .returned (.int .u64 (get b p q:Nat))∧RL w w' k v (p+q) cs bv j xs∧Fr w1 (· = k) w1 w':=
 (E7 k v b p q w1 h.rb.gQ (hv _ h.rb.Za) hp hq).mono fun _ _ ⟨h1,h2,h3⟩=>⟨h1,h.move h2 h3,h3⟩
def rR{w:World}{g:Nat}{o:Obj}(h:w.heap[g]?=some o):g<w.heap.size:=by
 rcases Nat.lt_or_ge g w with h1|h1
 ·exact h1
 ·rw[DT h1]at h;cases h
def AB{w1 w':World}{k g:Nat}{o:Obj}(hf:Fr w1 (· = k) w1 w')(h:w1.heap[g]?=some o)(WA:k<g):w'.heap[g]?=some o:=by
 rw[hf.block g (rR h) (fun hs=>by have hs:g=k:=hs;omega)];exact h
def Gz{w:World}{g:Nat}{c:Array Value}{t:TypeId}{f:Nat×Nat}(h:w.heap[g]?=some (.cells c t f))(o:Nat)(u:Value):(w.setCell ⟨g,o,none⟩ u).heap[g]?=some (.cells (c.setIfInBounds o u) t f):=by
 simp[World.setCell,Array.getElem?_modify,h]
def RB.word{w w1:World}{k:Nat}{v:Value}{b:List UInt8}{p:Nat}{cs:List Value}(h:RB w w1 k v p cs)(hv:∀w',Below w w w'→XU w' v b)(hp:p≤100000) :
  Calls prog 180 #[.pointer (some ⟨k,0,none⟩)] w1 fun e w'=>e = .returned (.int .u32 (get b p 4:Nat))∧RB w w' k v (p+4) cs∧Fr w1 (· = k) w1 w':=
 (II k v b p w1 h.gQ (hv _ h.Za) hp).mono fun _ _ ⟨h1,h2,h3⟩=>⟨h1,h.move h2 h3,h3⟩
def RB.get{w w1:World}{k:Nat}{v:Value}{b:List UInt8}{p:Nat}{cs:List Value}(h:RB w w1 k v p cs)(hv:∀w',Below w w w'→XU w' v b)(hp:p≤100000)(q:Nat)(hq:q≤100) :
  Calls prog 181 (Qk (some ⟨k,0,none⟩) (q:Int)) w1 fun e w'=>e = .returned (.int .u64 (get b p q:Nat))∧RB w w' k v (p+q) cs∧Fr w1 (· = k) w1 w':=
 (E7 k v b p q w1 h.gQ (hv _ h.Za) hp hq).mono fun _ _ ⟨h1,h2,h3⟩=>⟨h1,h.move h2 h3,h3⟩
def RL.set{w w':World}{k:Nat}{v:Value}{p:Nat}{cs:List Value}{bv:Value}{j:Nat}{xs:List Value}(h:RL w w' k v p cs bv j xs)(i:Nat)(u:Value):RL w (w'.setCell ⟨w,i,none⟩ u) k v p (cs.set i u) bv j xs:=
 ⟨h.rb.set i u,UX h.own (by have:=h.rb.lt;omega) u⟩
section
variable {P:Program}
def sx{w:World}(t ty:TypeId)(base:Nat){e:TypeId}{size bytes:Nat}(E:Elem P t e size bytes)(v:Value)(n:Nat)(xs:List Value)(Yy:w.ownsRow base e size v n xs)
  (vx:Value) (m:Nat) (news:List Value) (ZW:Row w e vx m news) (hl:news.length=m*size) (h1:∀u∈news,u.oneCell'=true)
  (Ue:(n+m)*bytes≤140737488355328) (j5:n+m≤9223372036854775807) (Rz:base≤w.heap.size) :
  ∃v' w',(Builtin.append_ #[t,t] ty #[v,vx]).run P w = .ok v' w'∧w'.ownsRow base e size v' (n+m) (xs++news)∧w.grownBy w' v.ownBlock:=by
 obtain⟨z,Um,g_⟩:=E.info;obtain⟨i,hi,hz,RI,kx⟩:=info_parts Um;obtain⟨ad,cap,hv,_,_,h0,hr⟩:=ZW;subst hv;have tQ:n+m≤maxLen:=by unfold maxLen;omega
 cases ad with
 | none=>
  exact aN
 | some ad=>
  obtain⟨v',w',AY,h2,h3,_⟩:=run_append_own w base t ty e i z size bytes E.ht hi hz RI kx g_ E.pos v n xs Yy ad m cap news hl (by
   intro j u hu;rcases hr with hr|⟨b,off,c,fr,Ry,hb,hc⟩
   ·subst hr;simp at hu
   ·cases Ry;have hj:j<news.length:=(List.getElem?_eq_some_iff.1 hu).1;have:=hc j hj;have MC:(⟨b,off,none⟩:Addr).add j=⟨b,off+j,none⟩:=by unfold Addr.add;split <;> simp_all
    rw[MC];simp only[World.cell?,hb]
    simpa[hu]using this) h1 tQ Ue Rz
  exact⟨v',w',AY,h2,h3⟩
def Y9{ops:Array Oper}{o:Oper}{a:Act}{w:World}{K:Act→World→Prop}{Q:Exit→Act→World→Prop}{E':Prop}(Lt:o.guard=none)(s x:Operand)(t:TypeId)
  (ho:o.op = .call {callee:= .builtin .append,args:=#[s,x],argTypes:=#[t,t]})
  (base:Nat) {e:TypeId} {size bytes:Nat} (E:Elem P t e size bytes)
  (v:Value) (n:Nat) (xs:List Value) (hs:a.eval s=v) (Yy:w.ownsRow base e size v n xs)
  (vx:Value) (m:Nat) (news:List Value) (hx:a.eval x=vx) (ZW:Row w e vx m news) (hl:news.length=m*size) (h1:∀u∈news,u.oneCell'=true)
  (Ue:(n+m)*bytes≤140737488355328) (j5:n+m≤9223372036854775807) (Rz:base≤w.heap.size)
  (h:∀v' w',Hid (w'.ownsRow base e size v' (n+m) (xs++news))→Hid (w.grownBy w' v.ownBlock)→K (a.put o.dst v') w') :
  if Region.wanted o (yielded ops a.tmps)=true then Oper.wp P o a w K Q else E':=by
 have hw:Region.wanted o (yielded ops a.tmps)=true:=by simp[Region.wanted,Lt]
 rw[ZU hw];obtain⟨v',w',AY,h2,h3⟩:=sx (P:=P) t o.type base E v n xs Yy vx m news ZW hl h1 Ue j5 Rz;unfold Oper.wp;simp[execOp,ho,resolve,invoke,builtin,hs,hx,AY,Result.andThen];exact h v' w' h2 h3
end
def Z0{B:Nat}{a w:World}(h:Below B a w){g:Nat}(hg:B≤g)(c:Array Value):Below B a (w.setRow g c):=
 ⟨h.os,h.tape,h.output,by simpa[World.setRow]using h.size,fun k hk=>by rw[setRow_other w g k _ Zo];exact h.block k hk⟩
def ZA{B:Nat}{a w:World}(h:Below B a w)(hB:B≤a.heap.size)(o:Obj):Below B a (w.alloc o):=h.alloc (PJ hB h.size) o
def Zy{P:Program}{ops:Array Oper}{rest:List Oper}{o:Oper}{a:Act}{w:World}{Q:Exit→Act→World→Prop}(ty:TypeId)(x:Operand)(_:o.op = .load ty x)(h:wpList P ops Q (o :: rest) a w):wpList P ops Q (o :: rest) a w:=h
def yz{P:Program}{ops:Array Oper}{rest:List Oper}{o:Oper}{a:Act}{w:World}{Q:Exit→Act→World→Prop}(Lt:o.guard=none)(ty:TypeId)(x:Operand)(ho:o.op = .load ty x)
  (g:Nat) (hx:a.eval x = .pointer (some ⟨g,0,none⟩)) (t:TypeId) (cs:Array Value) (fr:Nat×Nat) (d:TypeDesc) (hg:w.heap[g]?=some (.cells cs t fr))
  (hu:P.underlying ty=some d) (hd:(match d with | .struct _ | .array _ _=>true|_=>false)=true) (hi:(P.info? ty).map (·.size)=some cs.size)
  (h:wpList P ops Q rest (a.put o.dst (.agg cs)) w):wpList P ops Q (o :: rest) a w:=wpList_load_row Lt ty x ho g hx t cs fr d hg hu hd hi h
def qQ(l:List Int)(x:Int):YF (l++[x])=YF l++[.int .u32 x]:=by simp[YF]
def NS{w:World}{a a':Option Addr}{c c' l h:Nat}{b:List UInt8}(hh:h≤b.length)(hl:l≤h)(ZW:∀w xs,xs.length=b.length*1→XG w (.slice a b.length c) b.length xs→XG w (.slice a' (h-l) c') (h-l) ((xs.drop (l*1)).take ((h-l)*1)))(hv:XU w (.slice a b.length c) b):XU w (.slice a' (h-l) c') ((b.drop l).take (h-l)):=by
 have h1:=ZW w (Re b) (by rw[Xa,Nat.mul_one]) hv;rw[Nat.mul_one,Nat.mul_one,PN,Oh]at h1;have h2:((b.drop l).take (h-l)).length=h-l:=by rw[SC,QG];omega
 unfold XU;rw[h2];exact h1
def qE(v:Value)(b:List UInt8)(w:World)(hv:XU w v b)(h0:(looks b).2=0) :
  Calls prog 125 #[v] w fun e w'=>(∃a,e = .returned (.tuple #[a,.int .i64 (YH b).2])∧Np w' a (YH b).1)∧Below w w w':=by
 have HX:Hid (YH b=(Ti b (looks b).1,0)):=by show _=_;unfold YH;rw[Z3 (by simp[h0])]
 have C:=fun w1 h=>yA v b w1 (hv.below (h:Below w w w1))
 have HC:=Zh C;have HV:Hid (∀w',Below w w w'→XU w' v b):=fun w' h=>hv.below h
 obtain⟨l12,l512,l1,l2,l3,l4⟩:=lO h0;obtain⟨g,off,c,rfl,Rt,x8,WO⟩:=Rk hv Zo;clear C hv WO;generalize YH b=X at *;generalize looks b=Y at *;obtain⟨⟨Y1,Y2,Y3⟩,Y4⟩:=Y;obtain rfl:Y4=0:=h0;dsimp only at l1 l2 l3 l4 HX HC;have HN:Hid (∀w',Below w w w'→∀p q:Int,Calls prog 153 #[(.slice (some ⟨g,off,none⟩) b.length c),.int .i64 p,.int .i64 q] w' fun e w''=>e = .returned (.int .u64 (get b p q:Nat))∧w'=w''):=fun w' h p q=>uC _ b p q w' (HV.o w' h)
 have HBY:Hid (∀w',Below w w w'→w'.cell? ⟨g,off,none⟩=some (.int .u8 (at8 b 0:Int))∧w'.cell? ⟨g,off+1,none⟩=some (.int .u8 (at8 b 1:Int))):=fun w' h=>by
  obtain⟨_,_,_,e,_,_,hc⟩:=Rk (HV.o w' h) Zo;cases e;exact⟨hc 0 Zo,hc 1 Zo⟩
 have nU:Hid (Ti b (Y1,Y2,Y3)=⟨decide (128≤at8 b 1),(at8 b 1%128:Nat),get b 2 2,get b 4 4,get b 8 4,(List.range (at8 b 0%16)).map fun(i:Nat)=>((get b (12+4*(i:Int)) 4:Nat):Int),decide (at8 b 0/16%2=1),if at8 b 0/16%2=1 then(get b ((Y1:Int)-4) 2:Int)else 0,if at8 b 0/16%2=1 then(b.drop Y1).take (Y2-Y1)else[],(b.drop Y2).take (Y3-Y2),(b.length:Int)-(Y3:Int)⟩):=rfl;have PE:=Xd b 0;have Sg:=Xd b 1;have a128:=rE (at8 b 1) Sg;have a127:=eu (at8 b 1) Sg;have Ua:=jI (at8 b 0) PE;have TI:=jJ (at8 b 0) PE;have b0:get b 2 2<65536:=U7 b 2 2 2 Zd;have b1:get b 4 4<4294967296:=U7 b 4 4 4 Zd;have b2:get b 8 4<4294967296:=U7 b 8 4 4 Zd;have HM:Hid (decide (128≤at8 b 1)=(((at8 b 1/128%2*128:Nat):Int)!=0)):=by show _=_;rw[Bool.eq_iff_iff,Su,Rs];omega
 have hT:at8 b 1%128<128:=Nat.mod_lt _ Zd;have hm:at8 b 0%16<16:=Nat.mod_lt _ Zd;have hE:at8 b 0/16%2<2:=Nat.mod_lt _ Zd;generalize at8 b 1/128%2*128=M at *;generalize at8 b 1%128=T at *;generalize at8 b 0%16=m at *;generalize at8 b 0/16%2=E at *;have hTw:IntKind.i64.wrap (T:Int)=(T:Int):=SZ _ Zo;have hmw:IntKind.i64.wrap (m:Int)=(m:Int):=SZ _ Zo;have hLw:IntKind.i64.wrap ((b.length:Int)-(Y3:Int))=(b.length:Int)-(Y3:Int):=SZ _ Zo;have hbI:(1:Int)<(b.length:Int):=by omega
 have hbN:1<b.length:=by omega
 have hbI0:(0:Int)<(b.length:Int):=by omega
 have hbN0:0<b.length:=by omega
 have hbZ:¬b.length=0:=by omega
 have hq0w:IntKind.u16.wrap ((get b 2 2:Nat):Int)=((get b 2 2:Nat):Int):=by rw[IntKind.wrap_u16];omega
 have hq1w:IntKind.u32.wrap ((get b 4 4:Nat):Int)=((get b 4 4:Nat):Int):=by rw[Nr];omega
 have hq2w:IntKind.u32.wrap ((get b 8 4:Nat):Int)=((get b 8 4:Nat):Int):=by rw[Nr];omega
 have mU:=Zh Rt;clear b0 b1 b2 PE Sg Rt x8;go_enter func125,ntmps125;go_wp2_with fail
 refine(HC.o _ (Z' _ _)).mono ?_;rintro e w2 ⟨rfl,Y7⟩;clear HC;have kP:=Y7.block w Ah;rw[Z9]at kP;have TF:w.heap.size+1≤w2.heap.size:=by have h:=Y7.size;have h:(w.heap.push _).size≤w2.heap.size:=h;rw[N9]at h;exact h
 have hb2':Below w w w2:=(Z' w _).trans (Y7.mono jm);have HRES:Hid ((w2.alloc (.cells (Qn (Y1:Int) (Y2:Int) (Y3:Int)) 238)).heap[w.heap.size]?=some (.cells UO 79)):=((Z' w2 _).block _ Zo).trans kP;have HSHP:Hid ((w2.alloc (.cells (Qn (Y1:Int) (Y2:Int) (Y3:Int)) 238)).heap[w2.heap.size]?=some (.cells (Qn (Y1:Int) (Y2:Int) (Y3:Int)) 238)):=Z9 _ _;have WB:Hid (Below w w (w2.alloc (.cells (Qn (Y1:Int) (Y2:Int) (Y3:Int)) 238))):=ZA hb2' (Zq _) _;have vW:w2.heap.size<(w2.alloc (.cells (Qn (Y1:Int) (Y2:Int) (Y3:Int)) 238)).heap.size:=by show _<(w2.heap.push _).size;rw[N9];exact Nat.lt_succ_self _
 clear kP Y7 hb2';go_wp2_with fail
 generalize w2.alloc (.cells (Qn (Y1:Int) (Y2:Int) (Y3:Int)) 238)=w3 at *;have GG:w.heap.size<w2.heap.size:=by omega
 clear TF;generalize w2.heap.size=s at *;clear w2
 have SI:Hid (∀w',Below w3 w3 w'→w'.cell? ⟨g,off+1,none⟩=some (.int .u8 (at8 b 1:Int))∧w'.cell? ⟨s,2,none⟩=some (.int .i64 (Y3:Int))∧Below w3 w3 w'):=fun w' h=>
  ⟨(HBY.o w' (WB.o.trans (h.mono (by have:=WB.o.size;omega)))).2,Zc ((h.block s vW).trans HSHP.o) 2 rfl,h⟩
 refine RX ?_;refine wp_region_held_drew (S:=(fun w'=>w'.cell? ⟨g,off+1,none⟩=some (.int .u8 (at8 b 1:Int))∧w'.cell? ⟨s,2,none⟩=some (.int .i64 (Y3:Int))∧Below w3 w3 w')) X6 ?_ (fun XY=>?_)
 ·exact SI.o _ (YE _ _).drew
 refine YA 0 (h:=YA 1 (h:=YA 2 (h:=YA 3 (h:=YA 4 (h:=YA 5 (h:=YA 6 (h:=YA 7 (h:=YA 8 (h:=YA 9 (h:=YA 10 (h:=YA 11 (h:=YA 12 (h:=YA 13 (h:=YA 14 (h:=YA 15 (h:=?_))))))))))))))));refine Rv 16 (h:=fun K hK=>?_);go_simp;refine hK.out _ _ ?_ (fun XC=>?_)
 ·exact bh
 clear hK K;try simp only[pt]
 refine Rv 17 (h:=fun K hK=>?_);refine RU Zr 79 (.tmp 6) (.tmp 32) Zr Zr w3 (Qc ((M:Int)!=0) (T:Int) 0 0 0 none 0 0 false 0 none 0 0 none 0 0 ((b.length:Int)-(Y3:Int))) Zr Zr 79 _ (Z9 w3.drew _) X6 X6 X6 ?_;refine hK.out _ _ ?_ (fun Vq=>?_)
 ·exact bh
 clear hK K;try simp only[pt]
 refine wpAnyH_done X6 ?_ _;refine QP ?_
 have EM:Hid (PK w ((w3.alloc (.cells UO 79)).drew.setRow w3 (Qc ((M:Int)!=0) (T:Int) 0 0 0 none 0 0 false 0 none 0 0 none 0 0 ((b.length:Int)-(Y3:Int)))) s w3 (Qn (Y1:Int) (Y2:Int) (Y3:Int)) (Qc ((M:Int)!=0) (T:Int) 0 0 0 none 0 0 false 0 none 0 0 none 0 0 ((b.length:Int)-(Y3:Int)))):=
  (PK.mk (cs:=Yz3) (ZA WB.o.drew (Zq _) _) (((Z' w3.drew _).block _ (show w.heap.size<w3.heap.size by omega)).trans HRES.o) (((Z' w3.drew _).block _ vW).trans HSHP.o) (Z9 w3.drew _) ⟨GG,vW⟩).row (Qc ((M:Int)!=0) (T:Int) 0 0 0 none 0 0 false 0 none 0 0 none 0 0 ((b.length:Int)-(Y3:Int)))
 clear SI HRES HSHP WB XY XC Vq;generalize(w3.alloc (.cells UO 79)).drew.setRow w3 (Qc ((M:Int)!=0) (T:Int) 0 0 0 none 0 0 false 0 none 0 0 none 0 0 ((b.length:Int)-(Y3:Int)))=w5 at *;have hs4:s<w3.heap.size:=vW;clear vW;generalize w3.heap.size=p at *;clear w3;have PD:=Zh EM.o.Za;have u2:w5.cell? ⟨p,2,none⟩=some (.int .u16 0):=EM.o.cell 2;have u3:w5.cell? ⟨p,3,none⟩=some (.int .u32 0):=EM.o.cell 3;have u4:w5.cell? ⟨p,4,none⟩=some (.int .u32 0):=EM.o.cell 4;have f2:=EM.o.frozen 2;have f3:=EM.o.frozen 3;have f4:=EM.o.frozen 4;go_upto_region 6 with(go_at_call 153;refine(HN.o _ PD.o _ _).mono ?_;rintro e w' ⟨rfl,rfl⟩)
 have HPK6:Hid (PK w (((w5.setCell ⟨p,2,none⟩ (.int .u16 ((get b 2 2:Nat):Int))).setCell ⟨p,3,none⟩ (.int .u32 ((get b 4 4:Nat):Int))).setCell ⟨p,4,none⟩ (.int .u32 ((get b 8 4:Nat):Int))) s p (Qn (Y1:Int) (Y2:Int) (Y3:Int)) (Qc ((M:Int)!=0) (T:Int) ((get b 2 2:Nat):Int) ((get b 4 4:Nat):Int) ((get b 8 4:Nat):Int) none 0 0 false 0 none 0 0 none 0 0 ((b.length:Int)-(Y3:Int)))):=((EM.o.set 2 (.int .u16 ((get b 2 2:Nat):Int))).set 3 (.int .u32 ((get b 4 4:Nat):Int))).set 4 (.int .u32 ((get b 8 4:Nat):Int));clear EM PD u2 u3 u4 f2 f3 f4;generalize((w5.setCell ⟨p,2,none⟩ (.int .u16 ((get b 2 2:Nat):Int))).setCell ⟨p,3,none⟩ (.int .u32 ((get b 4 4:Nat):Int))).setCell ⟨p,4,none⟩ (.int .u32 ((get b 8 4:Nat):Int))=w6 at *;clear w5 hq0w hq1w hq2w hTw hLw;generalize hg0:get b 2 2=q0 at *;generalize hg1:get b 4 4=q1 at *;generalize ky:get b 8 4=q2 at *;have HG0:=Zh hg0;have N7:=Zh hg1;have JL:=Zh ky;clear hg0 hg1 ky;obtain⟨d0,d1⟩:=HBY.o _ HPK6.o.Za;clear d1;go_upto_region 7 with fail
 have HPL0:Hid (PL w w6 s p (Qn (Y1:Int) (Y2:Int) (Y3:Int)) (Qc ((M:Int)!=0) (T:Int) (q0:Int) (q1:Int) (q2:Int) none 0 0 false 0 none 0 0 none 0 0 ((b.length:Int)-(Y3:Int))) (.slice none 0 0) 0 (YF ((List.range 0).map fun(i:Nat)=>((get b (12+4*(i:Int)) 4:Nat):Int)))):=⟨HPK6.o,TH _ _ _ _⟩;clear HPK6 d0;go_loopw [50] (fun i w'=>∃(j:Nat) (cv:Value),j≤m∧i = .int .i64 (j:Int)∧PL w w' s p (Qn (Y1:Int) (Y2:Int) (Y3:Int)) [.bool ((M:Int)!=0),.int .i64 (T:Int),.int .u16 (q0:Int),.int .u32 (q1:Int),.int .u32 (q2:Int),cv,.bool false,.int .u16 0,.slice none 0 0,.slice none 0 0,.int .i64 ((b.length:Int)-(Y3:Int))] cv j (YF ((List.range j).map fun(i:Nat)=>((get b (12+4*(i:Int)) 4:Nat):Int)))) (fun i _=>m-(intOf i).toNat)
 case atStart=>exact⟨0,_,Tv _,rfl,HPL0.o⟩
 case round=>
  clear HPL0;obtain⟨j,cv,hj,rfl,kN⟩:=hrel;obtain⟨JE,JF,rfl,-,-⟩:=Row.Z4 kN.own;have sP:=Zh kN;clear kN;by_cases xY:j<m
  ·have dx:Hid (PL w wr.drew s p (Qn (Y1:Int) (Y2:Int) (Y3:Int)) (Qc ((M:Int)!=0) (T:Int) (q0:Int) (q1:Int) (q2:Int) JE j JF false 0 none 0 0 none 0 0 ((b.length:Int)-(Y3:Int))) (.slice JE j JF) j (YF ((List.range j).map fun(i:Nat)=>((get b (12+4*(i:Int)) 4:Nat):Int)))):=⟨sP.o.pk.drew,sP.o.own⟩;have c5:wr.cell? ⟨p,5,none⟩=some (.slice JE j JF):=sP.o.pk.cell 5;have kN:p<wr.heap.size:=sP.o.pk.pW;have C9:=Zh (HN.o wr.drew dx.o.pk.Za (12+4*(j:Int)) 4);have yh:get b (12+4*(j:Int)) 4<4294967296:=U7 b _ 4 4 Zd;obtain⟨xs,GJ⟩:∃xs,xs=YF ((List.range j).map fun(i:Nat)=>((get b (12+4*(i:Int)) 4:Nat):Int)):=⟨_,rfl⟩;rw[←GJ]at sP dx;have HXS:=Zh GJ;clear GJ;generalize pP:get b (12+4*(j:Int)) 4=x at *;have BG:=Zh pP;clear pP;have Hg:Hid (PL w (wr.alloc (.cells #[.int .u32 (x:Int)] 66)).drew s p (Qn (Y1:Int) (Y2:Int) (Y3:Int)) (Qc ((M:Int)!=0) (T:Int) (q0:Int) (q1:Int) (q2:Int) JE j JF false 0 none 0 0 none 0 0 ((b.length:Int)-(Y3:Int))) (.slice JE j JF) j xs):=⟨sP.o.pk.below (Z' _ _).drew,Yq sP.o.own (Z' _ _).drew⟩;have gZ:IntKind.i64.wrap (4*(j:Int))=4*(j:Int):=SZ _ Zo;have hw2:IntKind.i64.wrap (12+4*(j:Int))=12+4*(j:Int):=SZ _ Zo;have hxw:IntKind.u32.wrap (x:Int)=(x:Int):=by rw[Nr];omega
   go_upto_region 9 with fail
   refine RX ?_;refine wp_region_held_drew (S:=(fun w'=>Below w w w')) X6 ?_ (fun XY=>?_)
   ·exact dx.o.pk.Za
   refine YA 0 (h:=YA 2 (h:=YA 3 (h:=YA 4 (h:=YA 5 (h:=?_)))));refine wpAnyH_ready (rs:=[1,6]) X6 Zi ?_;refine AllReadyH.cons (i:=1) rfl (fun K hK=>?_) ?_
   ·skip
    go_simp;refine hK.out _ _ ?_ (fun XC=>?_)
    ·exact rB
    clear hK K;try simp only[pt]
    refine Rv 6 (h:=fun K hK=>?_);go_simp;refine C9.o.mono ?_;rintro e w' ⟨rfl,rfl⟩;go_wp2_with fail
    refine hK.out _ _ ?_ (fun Vq=>?_)
    ·exact rB
    clear hK K;try simp only[pt]
    refine YA 7 (h:=?_);refine Rv 8 (h:=fun K hK=>?_);go_simp;refine hK.out _ _ ?_ (fun MB=>?_)
    ·exact rB
    clear hK K;try simp only[pt]
    refine Rv 9 (h:=fun K hK=>?_);refine Y9 Zr (.tmp 54) (.tmp 61) 29 Zr (p+1) Ve (.slice JE j JF) j xs Zr Hg.o.own (.slice (some ⟨wr,0,none⟩) 1 1) 1 [.int .u32 (x:Int)] Zr (Vw wr 66 1 [.int .u32 (x:Int)] Zd) rfl (by intro u hu;simp at hu;subst hu;rfl) Zo Zo (by show _≤(wr.heap.push _).size;rw[N9];omega) ?_;intro v' w5 HO HG;obtain⟨va,vc,ll,-,-⟩:=Row.Z4 HO.o;subst ll;have m_:=Zh (Hg.o.grown HG.o);have c55:w5.cell? ⟨p,5,none⟩=some (.slice JE j JF):=m_.o.cell 5;have f55:=m_.o.frozen 5;refine hK.out _ _ ?_ (fun Fm=>?_)
    ·exact rB
    clear hK K;try simp only[pt]
    refine YA 10 (h:=?_);refine Rv 11 (h:=fun K hK=>?_);go_simp;have HP6:=Zh (m_.o.set 5 (.slice va (j+1) vc));have Hf:=Zh (UX HO.o (b:=p) (o:=5) (Nat.lt_succ_self _) (.slice va (j+1) vc));refine hK.out _ _ ?_ (fun Fp=>?_)
    ·exact rB
    exact Yx58
   refine AllReadyH.cons (i:=6) rfl (fun K hK=>?_) AllReadyH.nil;go_simp;refine C9.o.mono ?_;rintro e w' ⟨rfl,rfl⟩;go_wp2_with fail
   refine hK.out _ _ ?_ (fun j6=>?_)
   ·exact rB
   clear hK K;try simp only[pt]
   refine YA 7 (h:=?_);refine wpAnyH_ready (rs:=[1,8]) X6 Zi ?_;refine AllReadyH.cons (i:=1) rfl (fun K hK=>?_) ?_
   ·skip
    go_simp;refine hK.out _ _ ?_ (fun hHeld7=>?_)
    ·exact rB
    clear hK K;try simp only[pt]
    refine Rv 8 (h:=fun K hK=>?_);go_simp;refine hK.out _ _ ?_ (fun hHeld8=>?_)
    ·exact rB
    clear hK K;try simp only[pt]
    refine Rv 9 (h:=fun K hK=>?_);refine Y9 Zr (.tmp 54) (.tmp 61) 29 Zr (p+1) Ve (.slice JE j JF) j xs Zr Hg.o.own (.slice (some ⟨wr,0,none⟩) 1 1) 1 [.int .u32 (x:Int)] Zr (Vw wr 66 1 [.int .u32 (x:Int)] Zd) rfl (by intro u hu;simp at hu;subst hu;rfl) Zo Zo (by show _≤(wr.heap.push _).size;rw[N9];omega) ?_;intro v' w5 HO HG;obtain⟨va,vc,ll,-,-⟩:=Row.Z4 HO.o;subst ll;have m_:=Zh (Hg.o.grown HG.o);have c55:w5.cell? ⟨p,5,none⟩=some (.slice JE j JF):=m_.o.cell 5;have f55:=m_.o.frozen 5;refine hK.out _ _ ?_ (fun hHeld9=>?_)
    ·exact rB
    clear hK K;try simp only[pt]
    refine YA 10 (h:=?_);refine Rv 11 (h:=fun K hK=>?_);go_simp;have HP6:=Zh (m_.o.set 5 (.slice va (j+1) vc));have Hf:=Zh (UX HO.o (b:=p) (o:=5) (Nat.lt_succ_self _) (.slice va (j+1) vc));refine hK.out _ _ ?_ (fun AH=>?_)
    ·exact rB
    exact Yx58
   refine AllReadyH.cons (i:=8) rfl (fun K hK=>?_) AllReadyH.nil;go_simp;refine hK.out _ _ ?_ (fun AJ=>?_)
   ·exact rB
   clear hK K;try simp only[pt]
   refine Rv 1 (h:=fun K hK=>?_);go_simp;refine hK.out _ _ ?_ (fun AK=>?_)
   ·exact rB
   clear hK K;try simp only[pt]
   refine Rv 9 (h:=fun K hK=>?_);refine Y9 Zr (.tmp 54) (.tmp 61) 29 Zr (p+1) Ve (.slice JE j JF) j xs Zr Hg.o.own (.slice (some ⟨wr,0,none⟩) 1 1) 1 [.int .u32 (x:Int)] Zr (Vw wr 66 1 [.int .u32 (x:Int)] Zd) rfl (by intro u hu;simp at hu;subst hu;rfl) Zo Zo (by show _≤(wr.heap.push _).size;rw[N9];omega) ?_;intro v' w5 HO HG;obtain⟨va,vc,ll,-,-⟩:=Row.Z4 HO.o;subst ll;have m_:=Zh (Hg.o.grown HG.o);have c55:w5.cell? ⟨p,5,none⟩=some (.slice JE j JF):=m_.o.cell 5;have f55:=m_.o.frozen 5;refine hK.out _ _ ?_ (fun AO=>?_)
   ·exact rB
   clear hK K;try simp only[pt]
   refine YA 10 (h:=?_);refine Rv 11 (h:=fun K hK=>?_);go_simp;have HP6:=Zh (m_.o.set 5 (.slice va (j+1) vc));have Hf:=Zh (UX HO.o (b:=p) (o:=5) (Nat.lt_succ_self _) (.slice va (j+1) vc));refine hK.out _ _ ?_ (fun rK=>?_)
   ·exact rB
   exact Yx58
  ·obtain rfl:j=m:=by omega
   obtain⟨CL,hCL⟩:∃CL,CL=(List.range j).map fun(i:Nat)=>((get b (12+4*(i:Int)) 4:Nat):Int):=⟨_,rfl⟩
   have Ls:CL.length=j:=by rw[hCL,Te,List.length_range]
   rw[←hCL]at sP nU;have G3:Hid (PR w wr s p (Qn (Y1:Int) (Y2:Int) (Y3:Int)) (Qc ((M:Int)!=0) (T:Int) (q0:Int) (q1:Int) (q2:Int) JE j JF false 0 none 0 0 none 0 0 ((b.length:Int)-(Y3:Int))) (.slice JE j JF) (.slice none 0 0) (.slice none 0 0) CL [] []):=⟨sP.o.pk,by rw[Ls];exact Row.Z4 sP.o.own,Row.nil _ _,Row.nil _ _⟩;have HCLE:=Zh Ls;clear sP hCL Ls xY hj;obtain⟨d0,d1⟩:=HBY.o _ G3.o.pk.Za;clear d1;have cz:p<wr.heap.size:=G3.o.pk.pW;obtain hE0|hE1:E=0∨E=1:=by omega
   ·subst hE0;rw[Nat.zero_mul]at TI;go_upto_region 13 with fail
    have sc1:wr.cell? ⟨s,1,none⟩=some (.int .i64 (Y2:Int)):=G3.o.pk.QB 1;have sc2:wr.cell? ⟨s,2,none⟩=some (.int .i64 (Y3:Int)):=G3.o.pk.QB 2;obtain⟨a',Uf,ZW⟩:=VZ (P:=prog) Vt (some ⟨g,off,none⟩) b.length c Y2 Y3 l3 l4 mU.o;have kO:((b.drop Y2).take (Y3-Y2)).length=Y3-Y2:=by rw[SC,QG];omega
    have qX:=Zh (K8 _ ((b.drop Y2).take (Y3-Y2)) wr (NS l4 l3 ZW (HV.o _ G3.o.pk.Za)) (by rw[kO];omega));rw[kO]at qX;clear ZW kO;obtain⟨PY,hPY⟩:∃PY,PY=(b.drop Y2).take (Y3-Y2):=⟨_,rfl⟩;rw[←hPY]at qX nU;have HPY:=Zh hPY;clear hPY;go_upto_region 14 with(go_at_call 154;refine qX.o.mono ?_;rintro e TL ⟨⟨pv,rfl,pK⟩,Ou⟩;obtain⟨pa,pc,Mk,-,-⟩:=id pK;subst Mk;have SF:=Zh (G3.o.below Ou);have iO:=Zh pK;clear pK Ou;have c9:TL.cell? ⟨p,9,none⟩=some (.slice none 0 0):=SF.o.pk.cell 9;have f9:=SF.o.pk.frozen 9)
    have EM:Hid (PK w (TL.setCell ⟨p,9,none⟩ (.slice pa (Y3-Y2) pc)) s p (Qn (Y1:Int) (Y2:Int) (Y3:Int)) (Qc ((M:Int)!=0) (T:Int) (q0:Int) (q1:Int) (q2:Int) JE j JF false 0 none 0 0 pa (Y3-Y2) pc ((b.length:Int)-(Y3:Int)))):=SF.o.pk.set 9 (.slice pa (Y3-Y2) pc);have JM:=Zh (SF.o.csr.setCell (p:=⟨p,9,none⟩) SF.o.pk.Y8 Zd (.slice pa (Y3-Y2) pc));have rh:=Zh (SF.o.exr.setCell (p:=⟨p,9,none⟩) SF.o.pk.Y8 Zd (.slice pa (Y3-Y2) pc));have wM:=Zh (iO.o.setCell (p:=⟨p,9,none⟩) SF.o.pk.Y8 Zd (.slice pa (Y3-Y2) pc));clear G3 SF iO qX c9 f9 sc1 sc2 Uf;generalize TL.setCell ⟨p,9,none⟩ (.slice pa (Y3-Y2) pc)=Gl at *;clear TL;have Ov:Gl.heap[p]?=some (.cells (Qc ((M:Int)!=0) (T:Int) (q0:Int) (q1:Int) (q2:Int) JE j JF false 0 none 0 0 pa (Y3-Y2) pc ((b.length:Int)-(Y3:Int))) 79 (0,0)):=EM.o.Y8;have Kh:Gl.heap[w.heap.size]?=some (.cells UO 79 (0,0)):=EM.o.res;go_wp2_with (first|with_reducible refine Zl Ov underlying79 ?_|with_reducible refine Zs Kh ?_)
    have y0:=setRow_heap Gl w _ (Qc ((M:Int)!=0) (T:Int) (q0:Int) (q1:Int) (q2:Int) JE j JF false 0 none 0 0 pa (Y3-Y2) pc ((b.length:Int)-(Y3:Int))) 79 (0,0) Kh;have z0:=cell_of y0 0;have z1:=cell_of y0 1;have z2:=cell_of y0 2;have z3:=cell_of y0 3;have z4:=cell_of y0 4;have z5:=cell_of y0 5;have z6:=cell_of y0 6;have z7:=cell_of y0 7;have z8:=cell_of y0 8;have z9:=cell_of y0 9;have mQ:=cell_of y0 10;simp only[Ss,R_,Rw]at z0 z1 z2 z3 z4 z5 z6 z7 z8 z9 mQ;refine Vr (v:= .tuple (Qo (Qc ((M:Int)!=0) (T:Int) (q0:Int) (q1:Int) (q2:Int) JE j JF false 0 none 0 0 pa (Y3-Y2) pc ((b.length:Int)-(Y3:Int))) 0)) (by simp[results,results125,go_sem,z0,z1,z2,z3,z4,z5,z6,z7,z8,z9,mQ]) rfl ⟨⟨_,by rw[HX.o],?_⟩,?_⟩
    ·rw[HX.o];show Np _ _ (Ti b (Y1,Y2,Y3));rw[nU.o,HM.o];refine⟨.slice JE j JF,.slice none 0 0,.slice pa (Y3-Y2) pc,rfl,Row.setRow JM.o Kh Zd _,Row.setRow rh.o Kh Zd _,?_⟩;have h:=Row.setRow wM.o Kh Zd (Qc ((M:Int)!=0) (T:Int) (q0:Int) (q1:Int) (q2:Int) JE j JF false 0 none 0 0 pa (Y3-Y2) pc ((b.length:Int)-(Y3:Int)));rw[show Y3-Y2=PY.length by rw[HPY.o,SC,QG];omega]at h ⊢;exact h
    ·exact Z0 EM.o.Za (Zq _) _
   ·subst hE1;rw[Nat.one_mul]at TI;go_upto_region 12 with fail
    have sc0:wr.cell? ⟨s,0,none⟩=some (.int .i64 (Y1:Int)):=G3.o.pk.QB 0;have sU:Hid (∀w',Below wr wr w'→w'.cell? ⟨s,0,none⟩=some (.int .i64 (Y1:Int))∧w'.cell? ⟨s,1,none⟩=some (.int .i64 (Y2:Int))∧Below w w w'):=fun w' h=>⟨(G3.o.below h).pk.QB 0,(G3.o.below h).pk.QB 1,(G3.o.below h).pk.Za⟩
    obtain⟨a',Uf,ZW⟩:=VZ (P:=prog) Vt (some ⟨g,off,none⟩) b.length c Y1 Y2 l2 Zo mU.o;have kO:((b.drop Y1).take (Y2-Y1)).length=Y2-Y1:=by rw[SC,QG];omega
    have qX:=Zh (K8 _ ((b.drop Y1).take (Y2-Y1)) wr.drew (NS Zo l2 ZW (HV.o _ G3.o.pk.Za.drew)) (by rw[kO];omega));rw[kO]at qX;clear ZW kO d0 sc0;obtain⟨ES,hES⟩:∃ES,ES=(b.drop Y1).take (Y2-Y1):=⟨_,rfl⟩;have bK:ES.length=Y2-Y1:=by rw[hES,SC,QG];omega
    rw[←hES]at qX nU;have HEL:=Zh bK;clear hES bK;have hw4:IntKind.i64.wrap ((Y1:Int)-4)=(Y1:Int)-4:=SZ _ Zo;have Cq:get b ((Y1:Int)-4) 2<65536:=U7 b _ 2 2 Zd;have CNP:=Zh (HN.o wr.drew G3.o.pk.Za.drew ((Y1:Int)-4) 2);generalize get b ((Y1:Int)-4) 2=pf at *;have hpw:IntKind.u16.wrap (pf:Int)=(pf:Int):=by rw[IntKind.wrap_u16];omega
    clear Cq;refine RX ?_;refine wp_region_held_drew (S:=(fun w'=>w'.cell? ⟨s,0,none⟩=some (.int .i64 (Y1:Int))∧w'.cell? ⟨s,1,none⟩=some (.int .i64 (Y2:Int))∧Below w w w')) X6 ?_ (fun XY=>?_)
    ·exact sU.o _ (YE _ _).drew
    refine YA 0 (h:=YA 1 (h:=YA 2 (h:=YA 3 (h:=YA 6 (h:=YA 7 (h:=YA 8 (h:=YA 9 (h:=YA 10 (h:=YA 11 (h:=YA 13 (h:=?_)))))))))));refine Rv 4 (h:=fun K hK=>?_);go_simp;refine CNP.o.mono ?_;rintro e w' ⟨rfl,rfl⟩;go_wp2_with fail
    refine hK.out _ _ ?_ (fun XC=>?_)
    ·exact jx
    clear hK K;try simp only[pt]
    refine YA 5 (h:=?_);refine Rv 12 (h:=fun K hK=>?_);go_simp;refine qX.o.mono ?_;rintro e w8 ⟨⟨ev,rfl,Rl⟩,fx⟩;obtain⟨ea,ec,LQ,-,-⟩:=id Rl;subst LQ;go_wp2_with fail
    have Ir:=Zh ((G3.o.drew).below fx);have HER:=Zh Rl;clear Rl;have v6:w8.cell? ⟨p,6,none⟩=some (.bool false):=Ir.o.pk.cell 6;have v7:w8.cell? ⟨p,7,none⟩=some (.int .u16 0):=Ir.o.pk.cell 7;have v8:w8.cell? ⟨p,8,none⟩=some (.slice none 0 0):=Ir.o.pk.cell 8;have g6:=Ir.o.pk.frozen 6;have g7:=Ir.o.pk.frozen 7;have g8:=Ir.o.pk.frozen 8;have hp8:p<w8.heap.size:=Ir.o.pk.pW;have k0:=Ir.o.pk.QB 0;have k1:=Ir.o.pk.QB 1;refine hK.out _ _ ?_ (fun Vq=>?_)
    ·exact jx
    clear hK K;try simp only[pt]
    refine Rv 14 (h:=fun K hK=>?_);go_simp;have TP:=Zh (Ir.o.set 6 (.bool true));refine hK.out _ _ ?_ (fun MB=>?_)
    ·exact jx
    clear hK K;try simp only[pt]
    refine YA 15 (h:=?_);refine Rv 16 (h:=fun K hK=>?_);go_simp;have O5:=Zh (TP.o.set 7 (.int .u16 (pf:Int)));refine hK.out _ _ ?_ (fun Fm=>?_)
    ·exact jx
    clear hK K;try simp only[pt]
    refine YA 17 (h:=?_);refine Rv 18 (h:=fun K hK=>?_);go_simp;have dA:=Zh (O5.o.set 8 (.slice ea (Y2-Y1) ec));refine hK.out _ _ ?_ (fun Fp=>?_)
    ·exact jx
    clear hK K;try simp only[pt]
    refine wpAnyH_done X6 ?_ _;refine QP ?_;have HER3:=Zh (((HER.o.setCell (p:=⟨p,6,none⟩) Ir.o.pk.Y8 Zd (.bool true)).setCell (p:=⟨p,7,none⟩) TP.o.pk.Y8 Zd (.int .u16 (pf:Int))).setCell (p:=⟨p,8,none⟩) O5.o.pk.Y8 Zd (.slice ea (Y2-Y1) ec));have HPRE:Hid (PR w (((w8.setCell ⟨p,6,none⟩ (.bool true)).setCell ⟨p,7,none⟩ (.int .u16 (pf:Int))).setCell ⟨p,8,none⟩ (.slice ea (Y2-Y1) ec)) s p (Qn (Y1:Int) (Y2:Int) (Y3:Int)) (Qc ((M:Int)!=0) (T:Int) (q0:Int) (q1:Int) (q2:Int) JE j JF true (pf:Int) ea (Y2-Y1) ec none 0 0 ((b.length:Int)-(Y3:Int))) (.slice JE j JF) (.slice ea (Y2-Y1) ec) (.slice none 0 0) CL ES []):=⟨dA.o.pk,dA.o.csr,by rw[HEL.o];exact HER3.o,Row.nil _ _⟩;clear Ir TP O5 dA HER HER3 v6 v7 v8 g6 g7 g8 hp8 k0 k1 sU G3 CNP qX Uf hw4 hpw cz XY XC Vq MB Fm Fp fx;generalize((w8.setCell ⟨p,6,none⟩ (.bool true)).setCell ⟨p,7,none⟩ (.int .u16 (pf:Int))).setCell ⟨p,8,none⟩ (.slice ea (Y2-Y1) ec)=w9 at *;clear w8;have G3:=HPRE;clear HPRE;obtain⟨d0,-⟩:=HBY.o _ G3.o.pk.Za;have cz:p<w9.heap.size:=G3.o.pk.pW;go_upto_region 13 with fail
    have sc1:w9.cell? ⟨s,1,none⟩=some (.int .i64 (Y2:Int)):=G3.o.pk.QB 1;have sc2:w9.cell? ⟨s,2,none⟩=some (.int .i64 (Y3:Int)):=G3.o.pk.QB 2;obtain⟨a',Uf,ZW⟩:=VZ (P:=prog) Vt (some ⟨g,off,none⟩) b.length c Y2 Y3 l3 l4 mU.o;have kO:((b.drop Y2).take (Y3-Y2)).length=Y3-Y2:=by rw[SC,QG];omega
    have qX:=Zh (K8 _ ((b.drop Y2).take (Y3-Y2)) w9 (NS l4 l3 ZW (HV.o _ G3.o.pk.Za)) (by rw[kO];omega));rw[kO]at qX;clear ZW kO;obtain⟨PY,hPY⟩:∃PY,PY=(b.drop Y2).take (Y3-Y2):=⟨_,rfl⟩;rw[←hPY]at qX nU;have HPY:=Zh hPY;clear hPY;go_upto_region 14 with(go_at_call 154;refine qX.o.mono ?_;rintro e TL ⟨⟨pv,rfl,pK⟩,Ou⟩;obtain⟨pa,pc,Mk,-,-⟩:=id pK;subst Mk;have SF:=Zh (G3.o.below Ou);have iO:=Zh pK;clear pK Ou;have c9:TL.cell? ⟨p,9,none⟩=some (.slice none 0 0):=SF.o.pk.cell 9;have f9:=SF.o.pk.frozen 9)
    have EM:Hid (PK w (TL.setCell ⟨p,9,none⟩ (.slice pa (Y3-Y2) pc)) s p (Qn (Y1:Int) (Y2:Int) (Y3:Int)) (Qc ((M:Int)!=0) (T:Int) (q0:Int) (q1:Int) (q2:Int) JE j JF true (pf:Int) ea (Y2-Y1) ec pa (Y3-Y2) pc ((b.length:Int)-(Y3:Int)))):=SF.o.pk.set 9 (.slice pa (Y3-Y2) pc);have JM:=Zh (SF.o.csr.setCell (p:=⟨p,9,none⟩) SF.o.pk.Y8 Zd (.slice pa (Y3-Y2) pc));have rh:=Zh (SF.o.exr.setCell (p:=⟨p,9,none⟩) SF.o.pk.Y8 Zd (.slice pa (Y3-Y2) pc));have wM:=Zh (iO.o.setCell (p:=⟨p,9,none⟩) SF.o.pk.Y8 Zd (.slice pa (Y3-Y2) pc));clear G3 SF iO qX c9 f9 sc1 sc2 Uf;generalize TL.setCell ⟨p,9,none⟩ (.slice pa (Y3-Y2) pc)=Gl at *;clear TL;have Ov:Gl.heap[p]?=some (.cells (Qc ((M:Int)!=0) (T:Int) (q0:Int) (q1:Int) (q2:Int) JE j JF true (pf:Int) ea (Y2-Y1) ec pa (Y3-Y2) pc ((b.length:Int)-(Y3:Int))) 79 (0,0)):=EM.o.Y8;have Kh:Gl.heap[w.heap.size]?=some (.cells UO 79 (0,0)):=EM.o.res;go_wp2_with (first|with_reducible refine Zl Ov underlying79 ?_|with_reducible refine Zs Kh ?_)
    have y0:=setRow_heap Gl w _ (Qc ((M:Int)!=0) (T:Int) (q0:Int) (q1:Int) (q2:Int) JE j JF true (pf:Int) ea (Y2-Y1) ec pa (Y3-Y2) pc ((b.length:Int)-(Y3:Int))) 79 (0,0) Kh;have z0:=cell_of y0 0;have z1:=cell_of y0 1;have z2:=cell_of y0 2;have z3:=cell_of y0 3;have z4:=cell_of y0 4;have z5:=cell_of y0 5;have z6:=cell_of y0 6;have z7:=cell_of y0 7;have z8:=cell_of y0 8;have z9:=cell_of y0 9;have mQ:=cell_of y0 10;simp only[Ss,R_,Rw]at z0 z1 z2 z3 z4 z5 z6 z7 z8 z9 mQ;refine Vr (v:= .tuple (Qo (Qc ((M:Int)!=0) (T:Int) (q0:Int) (q1:Int) (q2:Int) JE j JF true (pf:Int) ea (Y2-Y1) ec pa (Y3-Y2) pc ((b.length:Int)-(Y3:Int))) 0)) (by simp[results,results125,go_sem,z0,z1,z2,z3,z4,z5,z6,z7,z8,z9,mQ]) rfl ⟨⟨_,by rw[HX.o],?_⟩,?_⟩
    ·rw[HX.o];show Np _ _ (Ti b (Y1,Y2,Y3));rw[nU.o,HM.o];refine⟨.slice JE j JF,.slice ea (Y2-Y1) ec,.slice pa (Y3-Y2) pc,rfl,Row.setRow JM.o Kh Zd _,Row.setRow rh.o Kh Zd _,?_⟩;have h:=Row.setRow wM.o Kh Zd (Qc ((M:Int)!=0) (T:Int) (q0:Int) (q1:Int) (q2:Int) JE j JF true (pf:Int) ea (Y2-Y1) ec pa (Y3-Y2) pc ((b.length:Int)-(Y3:Int)));rw[show Y3-Y2=PY.length by rw[HPY.o,SC,QG];omega]at h ⊢;exact h
    ·exact Z0 EM.o.Za (Zq _) _
def Oi{w:World}{g o:Nat}{u:Value}(h:w.cell? ⟨g,o,none⟩=some u)(x:Obj):(w.alloc x).cell? ⟨g,o,none⟩=some u:=by
 rw[World.cell?_of_block (w:=w) ((Z' w x).block g (World.block_lt_of_cell? w ⟨g,o,none⟩ h))];exact h
def Pv(k x:Int)(w:World):Calls prog 78 (Q5 k x) w fun e w'=>(∃cs:List Value,e = .returned (.agg cs.toArray)∧X8 w' cs (Ya k x))∧Below w w w':=by
 have hb:Below w w ((w.alloc (.cells W_ 100)).setRow w (Qm k 0 0 x false 0 0 0 0 none 0 0 false 0 none 0 0 none 0 0 0 0 false false 0 none 0 0 none 0 0 0)):=Z0 (Z' w _) (Zq _) _;have y0:=setRow_heap (w.alloc (.cells W_ 100)) w W_ (Qm k 0 0 x false 0 0 0 0 none 0 0 false 0 none 0 0 none 0 0 0 0 false false 0 none 0 0 none 0 0 0) 100 (0,0) (Z9 w _);have hT:∃cs:List Value,Ending.returned (.agg (Qm k 0 0 x false 0 0 0 0 none 0 0 false 0 none 0 0 none 0 0 0 0 false false 0 none 0 0 none 0 0 0)) = .returned (.agg cs.toArray)∧X8 ((w.alloc (.cells W_ 100)).setRow w (Qm k 0 0 x false 0 0 0 0 none 0 0 false 0 none 0 0 none 0 0 0 0 false false 0 none 0 0 none 0 0 0)) cs (Ya k x):=⟨(Qm k 0 0 x false 0 0 0 0 none 0 0 false 0 none 0 0 none 0 0 0 0 false false 0 none 0 0 none 0 0 0),rfl,X8.refused _ k x⟩;have HT:=Zh hT;clear hT;go_enter func78,ntmps78;go_wp2_with (with_reducible refine Zs (Z9 w _) ?_)
 exact Vr (results_cell_row Zr _ _ w 100 (Qm k 0 0 x false 0 0 0 0 none 0 0 false 0 none 0 0 none 0 0 0 0 false false 0 none 0 0 none 0 0 0) (0,0) _ Zr y0 underlying100 rfl X6) rfl ⟨HT.o,hb⟩
def Lj{B:Nat}{S:Nat→Prop}{a w:World}(h:Fr B S a w){g:Nat}(hg:B≤g)(c:Array Value):Fr B S a (w.setRow g c):=
 ⟨h.os,h.tape,h.output,by simpa[World.setRow]using h.size,fun k hk hs=>by rw[setRow_other w g k _ Zo];exact h.block k hk hs⟩
def sA{cs:Array Value}(h:cs.all (·.oneCell')=true)(i:Nat){v:Value}(hv:v.oneCell'=true):(cs.setIfInBounds i v).all (·.oneCell')=true:=by
 rw[Array.all_eq_true]at h ⊢;intro j hj;rw[Array.getElem_setIfInBounds];split
 ·exact hv
 ·exact h j (by simpa using hj)
def Hr(g:Nat)(c0:Value)(ep:Int)(cs:List Value)(w:World)(hg:w.heap[g]?=some (.cells #[c0,.int .i64 ep] 131 (0,0)))(h0:0≤ep)(h9:ep<1000000000)(Tx:cs.length=22)(h1:cs.toArray.all (·.oneCell')=true) :
  Calls prog 79 (Qi (some ⟨g,0,none⟩) cs.toArray) w fun e w'=>e = .returned (.agg ((cs.set 0 (.int .i64 2)).set 2 (.int .i64 (ep+1))).toArray)∧w'.heap[g]?=some (.cells #[c0,.int .i64 (ep+1)] 131 (0,0))∧Fr w (· = g) w w':=by
 have Yh:w.cell? ⟨g,1,none⟩=some (.int .i64 ep):=cell_of hg 1;have IV:=ZP hg 1;have zK:=ZY hg;have hw:IntKind.i64.wrap (ep+1)=ep+1:=SZ _ Zo;have hsz':((cs.set 0 (.int .i64 2)).set 2 (.int .i64 (ep+1))).length=22:=by rw[List.length_set,List.length_set,Tx]
 have Oz:((cs.set 0 (.int .i64 2)).set 2 (.int .i64 (ep+1))).toArray.all (·.oneCell')=true:=by
  have h:=sA (sA h1 0 (v:= .int .i64 2) rfl) 2 (v:= .int .i64 (ep+1)) rfl;rw[List.setIfInBounds_toArray,List.setIfInBounds_toArray]at h;exact h
 have tW:(w.setCell ⟨g,1,none⟩ (.int .i64 (ep+1))).heap[g]?=some (.cells #[c0,.int .i64 (ep+1)] 131 (0,0)):=Vu hg 1 _;have c0':=cell_of tW 1;clear hg h1;go_enter func79,ntmps79;go_upto_region 2 with fail
 have WA:g≠w.heap.size:=by omega
 refine RX ?_;refine wp_region_held_drew (S:=(fun w'=>w'.cell? ⟨g,1,none⟩=some (.int .i64 (ep+1)))) X6 ?_ (fun XY=>?_)
 ·exact Oi (Oi c0' _) _
 refine YA 0 (h:=YA 1 (h:=YA 2 (h:=YA 3 (h:=YA 4 (h:=YA 5 (h:=?_))))));refine Rv 6 (h:=fun K hK=>?_);go_simp;refine hK.out _ _ ?_ (fun XC=>?_)
 ·exact Oi (Oi c0' _) _
 clear hK K;try simp only[pt]
 refine YA 7 (h:=YA 8 (h:=?_));refine Rv 9 (h:=fun K hK=>?_);go_simp;refine hK.out _ _ ?_ (fun Vq=>?_)
 ·exact Oi (Oi c0' _) _
 clear hK K;try simp only[pt]
 refine wpAnyH_done X6 ?_ _;refine QP ?_;have hfr1:Fr w (· = g) w ((((w.setCell ⟨g,1,none⟩ (.int .i64 (ep+1))).alloc (.cells ((cs.set 0 (.int .i64 2)).set 2 (.int .i64 (ep+1))).toArray 100)).alloc (.cells W_ 100)).drew):=(((Fr.refl w (· = g) w).setAt 1 (.int .i64 (ep+1))).alloc (by show w.heap.size≤(w.heap.modify _ _).size;rw[Array.size_modify];exact Zq _) _ |>.alloc (by show w.heap.size≤((w.heap.modify _ _).push _).size;rw[N9,Array.size_modify];exact JV _) _).drew;have pM:(w.setCell ⟨g,1,none⟩ (.int .i64 (ep+1))).heap.size=w.heap.size:=by show(w.heap.modify _ _).size=_;rw[Array.size_modify]
 have y2:((((w.setCell ⟨g,1,none⟩ (.int .i64 (ep+1))).alloc (.cells ((cs.set 0 (.int .i64 2)).set 2 (.int .i64 (ep+1))).toArray 100)).alloc (.cells W_ 100)).drew).heap[w.heap.size]?=some (.cells ((cs.set 0 (.int .i64 2)).set 2 (.int .i64 (ep+1))).toArray 100 (0,0)):=by
  show(((w.setCell ⟨g,1,none⟩ (.int .i64 (ep+1))).alloc (.cells ((cs.set 0 (.int .i64 2)).set 2 (.int .i64 (ep+1))).toArray 100)).alloc _).heap[w.heap.size]?=_;rw[(Z' _ _).block _ (by show _<((w.setCell _ _).heap.push _).size;rw[N9,pM];exact Nat.lt_succ_self _),←pM];exact Z9 _ _
 have PF:((((w.setCell ⟨g,1,none⟩ (.int .i64 (ep+1))).alloc (.cells ((cs.set 0 (.int .i64 2)).set 2 (.int .i64 (ep+1))).toArray 100)).alloc (.cells W_ 100)).drew).heap[w.heap.size+1]?=some (.cells W_ 100 (0,0)):=by
  have h:=Z9 ((w.setCell ⟨g,1,none⟩ (.int .i64 (ep+1))).alloc (.cells ((cs.set 0 (.int .i64 2)).set 2 (.int .i64 (ep+1))).toArray 100)) (.cells W_ 100);have e:((w.setCell ⟨g,1,none⟩ (.int .i64 (ep+1))).alloc (.cells ((cs.set 0 (.int .i64 2)).set 2 (.int .i64 (ep+1))).toArray 100)).heap.size=w.heap.size+1:=by show((w.setCell _ _).heap.push _).size=_;rw[N9,pM]
  rw[e]at h;exact h
 have hgb1:((((w.setCell ⟨g,1,none⟩ (.int .i64 (ep+1))).alloc (.cells ((cs.set 0 (.int .i64 2)).set 2 (.int .i64 (ep+1))).toArray 100)).alloc (.cells W_ 100)).drew).heap[g]?=some (.cells #[c0,.int .i64 (ep+1)] 131 (0,0)):=by
  show(((w.setCell ⟨g,1,none⟩ (.int .i64 (ep+1))).alloc (.cells ((cs.set 0 (.int .i64 2)).set 2 (.int .i64 (ep+1))).toArray 100)).alloc _).heap[g]?=_;rw[(Z' _ _).block _ (by show _<((w.setCell _ _).heap.push _).size;rw[N9,pM];omega),(Z' _ _).block _ (by rw[pM];exact zK)];exact tW
 clear XY XC Vq c0' tW pM;generalize(((w.setCell ⟨g,1,none⟩ (.int .i64 (ep+1))).alloc (.cells ((cs.set 0 (.int .i64 2)).set 2 (.int .i64 (ep+1))).toArray 100)).alloc (.cells W_ 100)).drew=w2 at *;have TN:=Zh hfr1;have HGB:=Zh hgb1;clear hfr1 hgb1;generalize hcs2:(cs.set 0 (.int .i64 2)).set 2 (.int .i64 (ep+1))=eH at *;have HCS2:=Zh hcs2;clear hcs2;have hi:(prog.info? 100).map (·.size)=some eH.toArray.size:=by rw[List.size_toArray,hsz'];kernel_rfl
 have hold:(W_:Array Value).size=eH.toArray.size:=by rw[show eH.toArray.size=22 by rw[List.size_toArray,hsz']];rfl
 have hgs:g≠w.heap.size+1:=by omega
 go_wp2_with (first|(with_reducible refine Zy 100 (.tmp 3) rfl ?_;refine yz rfl 100 (.tmp 3) rfl w rfl 100 eH.toArray (0,0) _ y2 underlying100 rfl hi ?_)|(with_reducible refine ZT 100 (.tmp 4) (.tmp 20) rfl ?_;refine VM rfl 100 (.tmp 4) (.tmp 20) rfl rfl (w.heap.size+1) eH.toArray rfl rfl 100 W_ PF hi hold Oz ?_))
 refine Vr (v:= .agg eH.toArray) ?_ rfl ?_
 ·exact results_cell_row Zr _ _ (w.heap.size+1) 100 eH.toArray (0,0) _ Zr (setRow_heap _ _ _ _ _ _ PF) underlying100 rfl hi
 refine⟨by rw[HCS2.o],?_,?_⟩
 ·rw[(S6 w2 (w.heap.size+1) eH.toArray).block g (ZY HGB.o) hgs];exact HGB.o
 ·exact Lj TN.o (JV _) eH.toArray
def dq{a b:ByteArray}(h:a=b):Ending.returned (.string a) = .returned (.string b):=by rw[h]
def b8{a b:Bool}(h:a=b):Ending.returned (.bool a) = .returned (.bool b):=by rw[h]
def dr{k:IntKind}{a b:Int}(h:a=b):Ending.returned (.int k a) = .returned (.int k b):=by rw[h]
def db(n k:Int):Vv n k=true↔1≤n∧n<k:=by unfold Vv;simp
def Lu(n k:Int)(w:World):Calls prog 111 (Q5 n k) w fun e w'=>e = .returned (.bool (Vv n k))∧w=w':=by
 have hi:=db n k;by_cases h:1≤n
 ·have HF:Hid (Vv n k=decide (n<k)):=by show _=_;unfold Vv;simp[h]
  clear hi;go_enter func111,ntmps111;go_wp2;go_ret;exact⟨b8 HF.o.symm,rfl⟩
 ·have HF:Hid (Vv n k=false):=by show _=_;rw[JU,ne_eq,hi];omega
  clear hi;go_enter func111,ntmps111;go_wp2;go_ret;exact⟨b8 HF.o.symm,rfl⟩
def mF(l:List UInt8):(str l).toList=[]↔l=[]:=by
 rw[toList_nil_iff_emptyBytes];constructor
 ·intro h;have:=congrArg (fun b:ByteArray=>b.data.toList) h;simpa[str]using this
 ·intro h;subst h;rfl
def GR(l:List UInt8):(str l).toList.isEmpty=l.isEmpty:=by
 rw[Bool.eq_iff_iff,List.isEmpty_iff,List.isEmpty_iff,mF]
def Tc(b:Nat)(R:Room)(p:Int)(w:World)(hR:ZQ w b R):Calls prog 80 (Qk (some ⟨b,0,none⟩) p) w fun e w'=>e = .returned (.bool (Y5 R p))∧w=w':=by
 have C:=Zh (fun w=>Lu p 9 w);by_cases hi:Vv p 9=true
 ·rw[hi]at C;obtain⟨h1,h2⟩:=(db p 9).1 hi;obtain⟨n,rfl⟩:=RV (show 0≤p by omega);have hn:n<9:=by omega
  have hc:=hR.r8 hn;have HF:Hid (Y5 R n = !(str (R.names n)).toList.isEmpty):=by show _=_;unfold Y5;rw[hi,Wi,GR,Bool.true_and]
  clear hi hR;go_enter func80,ntmps80;go_wp2_with (go_at_call 111;refine(C.o _).mono ?_;rintro e w' ⟨rfl,rfl⟩)
  all_goals go_ret
  all_goals exact⟨b8 (by rw[HF.o]),rfl⟩
 ·have hi:Vv p 9=false:=by simpa using hi
  have HF:Hid (Y5 R p=false):=by show _=_;unfold Y5;rw[hi];rfl
  rw[hi]at C;clear hi;go_enter func80,ntmps80;go_wp2_with (go_at_call 111;refine(C.o _).mono ?_;rintro e w' ⟨rfl,rfl⟩)
  go_ret;exact⟨b8 HF.o.symm,rfl⟩
def Ay(b:Nat)(R:Room)(p n:Nat)(w:World)(hR:ZQ w b R)(hn:n<9)(hp:p<9) :
  Calls prog 139 (Qv (some ⟨b,0,none⟩) p n) w fun e w'=>e = .returned (.agg (Qh 2 p n 0 0))∧ZQ w' b (R.ZO n p UW)∧Fr w (· = b) w w':=by
 obtain⟨c0,c1,c2⟩:=hR.Ge hn hp;have f0:=hR.Yv (54+n*27+p*3);have f1:=hR.Yv (54+n*27+p*3+1);have f2:=hR.Yv (54+n*27+p*3+2);have hb:=hR.lt;go_enter func139,ntmps139;go_wp2;refine Vr (v:= .agg (Qh 2 p n 0 0)) (by simp[results,results139,go_sem]) rfl ⟨rfl,?_,?_⟩
 ·exact(hR.ZO hn hp UW).below (Z' _ _)
 ·exact((((Fr.refl _ _ _).setAt _ _).setAt _ _).setAt _ _).alloc (by simp only[size_setCell];exact Zq _) _
def xd(b:Nat)(R:Room)(p n:Nat)(w:World)(hR:ZQ w b R)(hn:n<9)(hp:p<9)(hw:0≤(R.sub n p).want∧(R.sub n p).want<(R.src n).ss.length) :
  Calls prog 166 (Qv (some ⟨b,0,none⟩) p n) w fun e w'=>e = .returned (VN (asks R p n))∧Below w w w':=by
 obtain⟨c0,c1,c2⟩:=hR.Ge hn hp;obtain⟨s0,s1,s2,s3,s4⟩:=hR.L_ hn;obtain⟨k,hk⟩:=RV hw.1;rw[hk]at hw c2;have Vz:k<(R.src n).ss.length:=by omega
 obtain⟨g,off,cap,Ki,hlc,tS,hg,Yp⟩:=M0 (hR.rows n hn) Zo;have hx:=Yp k Vz;have HA:Hid (asks R p n=⟨9,(R.src n).own,n,0,(R.src n).ss.getD k 0⟩):=by show _=_;unfold asks;rw[hk];rfl
 rw[Ki]at s3;have hb:=hR.lt;have hlen:=(hR.rows n hn).len;clear hk Yp Ki hR;generalize(R.src n).ss.getD k 0=X at *;generalize(R.src n).ss.length=L at *;generalize(R.src n).own=O at *;go_enter func166,ntmps166;go_wp2
 go_region
 go_wp2;refine Vr (v:=VN ⟨9,O,n,0,X⟩) (by simp[results,results166,go_sem,VN]) rfl ⟨by rw[HA.o],?_⟩;exact(((YE _ _).alloc (Zq _) _).alloc Zi _).drew
def JG(b:Nat)(R:Room)(p n:Nat)(w:World)(hR:ZQ w b R)(hn:n<9)(hp:p<9)(hw:0≤(R.sub n p).want∧(R.sub n p).want<(R.src n).ss.length) :
  Calls prog 141 (Qv (some ⟨b,0,none⟩) p n) w fun e w'=>(∃v,e = .returned v∧Yx w' v (waits R p n))∧Below w w w':=by
 obtain⟨c0,c1,c2⟩:=hR.Ge hn hp;obtain⟨s0,s1,s2,s3,s4⟩:=hR.L_ hn;have hb:=hR.lt;have ca:=fun w hR=>xd b R p n w hR hn hp hw
 unfold VN at ca;have CA:=Zh ca;clear ca;have HR:=Zh hR;have HW:Hid (waits R p n=if(R.sub n p).ZV||(R.src n).ZJ then[]else[asks R p n]):=rfl;clear hR hw;generalize asks R p n=A at *;obtain⟨a1,a2,a3,a4,a5⟩:=A;dsimp only at CA;cases cx:(R.sub n p).ZV
 ·rw[cx]at c1;cases kI:(R.src n).ZJ
  ·rw[kI]at s4;have HF:Hid (waits R p n=[⟨a1,a2,a3,a4,a5⟩]):=by show _=_;rw[HW.o,cx,kI];rfl
   clear cx kI HW;go_enter func141,ntmps141;go_wp2_with (go_at_call 166;refine(CA.o _ HR.o).mono ?_;rintro e w1 ⟨rfl,YV⟩)
   go_ret;refine⟨⟨_,rfl,?_⟩,YV.alloc (by simp[YV.size]) _⟩;rw[HF.o];exact dd w1 _ 1 _ Zd
  ·rw[kI]at s4;have HF:Hid (waits R p n=[]):=by show _=_;rw[HW.o,cx,kI];rfl
   clear cx kI HW;exact bz
 ·rw[cx]at c1;have HF:Hid (waits R p n=[]):=by show _=_;rw[HW.o,cx];rfl
  clear cx HW;exact bz
def index_hit{l:List Int}{x:Int}{k:Nat}(hk:k<l.length)(h:l.getD k 0=x)(hn:∀j,j<k→l.getD j 0≠x):index l x=k:=by
 unfold index
 have:l.findIdx? (fun y=>y==x)=some k:=by
  rw[List.findIdx?_eq_some_iff_getElem];refine⟨hk,?_,fun j hj=>?_⟩
  ·rw[QQ,U' hk]at h;simpa using h
  ·have:=hn j hj;rw[QQ,U' Zo]at this;simpa using this
 rw[this]
def ug{l:List Int}{x:Int}(hn:∀j,j<l.length→l.getD j 0≠x):index l x=-1:=by
 unfold index
 have:l.findIdx? (fun y=>y==x)=none:=by
  rw[List.findIdx?_eq_none_iff];intro y hy;obtain⟨j,hj,rfl⟩:=List.getElem_of_mem hy;have:=hn j hj;rw[QQ,U' hj]at this;simpa using this
 rw[this]
def BH(v:Value)(l:List Int)(x:Int)(w:World)(hv:XG w v l.length (bd l)) :
  Calls prog 156 #[v,.int .u32 x] w fun e w'=>e = .returned (.int .i64 (index l x))∧w=w':=by
 have hlen:=hv.len;by_cases h0:0<l.length
 ·obtain⟨g,off,cap,rfl,hlc,tS,hg,Yp⟩:=OY hv h0;have HC:=Zh Yp;have HH:=Zh (fun k hk h hn=>@index_hit l x k hk h hn);have HM:=Zh (@ug l x);clear Yp hv;go_enter func156,ntmps156;go_wp2
  go_loop [8] (fun i=>∃k:Nat,k≤l.length∧i = .int .i64 k∧Hid (∀j,j<k→l.getD j 0≠x)) (fun i=>l.length-(intOf i).toNat)
  case atStart=>exact⟨0,Tv _,rfl,fun j hj=>by omega⟩
  case round=>
   obtain⟨k,hk,rfl,N_⟩:=hrel;by_cases Vz:k<l.length
   ·have hc:=HC.o k Vz;by_cases hx:l.getD k 0=x
    ·have HF:=Zh (HH.o k Vz hx N_.o);rw[hx]at hc;clear hx;go_wp2;go_ret;exact⟨dr HF.o.symm,rfl⟩
    ·have hbeq:(x==l.getD k 0)=false:=by rw[Wz];exact fun e=>hx e.symm
     have HX:=Zh hx;clear hx;generalize hy:l.getD k 0=y at *;have HY:=Zh hy;clear hy;go_wp2
     go_round
     case rel=>exact⟨k+1,Zo,Zn,fun j hj=>by by_cases H7:j<k;exact N_.o j H7;rw[show j=k by omega,HY.o];exact HX.o⟩
     case measure=>simp[intOf];omega
   ·have HF:=Zh (HM.o (fun j hj=>N_.o j Zo));go_wp2;go_ret;exact⟨dr HF.o.symm,rfl⟩
 ·have:l=[]:=BK Zo;subst this;obtain⟨a,cap,rfl,_⟩:=hv;go_enter func156,ntmps156;go_wp2
  go_loop [8] (fun i=>i = .int .i64 0) (fun _=>0)
  case atStart=>rfl
  case round=>
   subst hrel;go_wp2;go_ret;exact⟨rfl,rfl⟩
def VL(R:Room):Array Value:=((List.range 45).map fun j=>Wy R (9+j)).toArray
def Q_(R:Room):(VL R).size=45:=by simp[VL]
def LF(R:Room)(j:Nat)(h:j<45):(VL R)[j]?=some (Wy R (9+j)):=by simp[VL,h]
def KP(R:Room)(n:Nat)(h:n<9):(VL R).extract (n*5) (n*5+5)=(Jp (R.src n).there (R.src n).num (R.src n).own (R.src n).sv (R.src n).ZJ):=by
 apply Array.ext';rw[Array.toList_extract];apply List.ext_getElem?;intro i;by_cases hi:i<5
 ·have:((VL R).toList.extract (n*5) (n*5+5))[i]?=(VL R)[n*5+i]?:=by
   rw[List.extract_eq_take_drop,List.getElem?_take_of_lt Zo,List.getElem?_drop];simp
  rw[this,LF R _ Zo,show 9+(n*5+i)=9+n*5+i by omega,I8 R h hi];have:i=0∨i=1∨i=2∨i=3∨i=4:=by omega
  rcases this with rfl|rfl|rfl|rfl|rfl <;> rfl
 ·rw[List.getElem?_eq_none (by rw[List.extract_eq_take_drop,SC];omega),List.getElem?_eq_none TY]
def Iy(b:Nat)(R:Room)(x:Int)(w:World)(hR:ZQ w b R) :
  Calls prog 127 (Jk (some ⟨b,0,none⟩) x) w fun e w'=>e = .returned (.tuple (Q7 (of R x).1 (of R x).2.1 (of R x).2.2))∧Below w w w':=by
 have Tx:∀j,j<(VL R).size→w.cell? ⟨b,9+j,none⟩=(VL R)[j]?:=by
  intro j hj;rw[Q_]at hj;rw[hR.cell Zo,LF R j hj]
 have Um:(prog.info? 146).map (·.size)=some (VL R).size:=by rw[Q_];kernel_rfl
 have HP:Hid (∀n:Nat,n<9→∀w,(Instr.index 146 (.agg (VL R)) (.int .i64 (n:Int))).run prog w = .ok (.agg (Jp (R.src n).there (R.src n).num (R.src n).own (R.src n).sv (R.src n).ZJ)) w):=
  fun n hn w=>LZ w 146 145 9 (VL R) n 5 _ underlying146 hn underlying145 rfl X6 _ (KP R n hn)
 have HR:=Zh hR;have hb:=hR.lt;have HO:Hid (of R x=Ro R x 9 0):=rfl;have HS:Hid (∀k n:Nat,Ro R x (k+1) n=if(R.src n).there&&decide (0≤index (R.src n).ss x)then((n:Int),index (R.src n).ss x,true)else Ro R x k (n+1)):=fun _ _=>rfl
 have HZ:Hid (∀n:Nat,Ro R x 0 n=(0,0,false)):=fun _=>rfl
 clear hR;generalize VL R=CS at *;go_enter func127,ntmps127;go_wp2_with (refine Sp rfl 146 (.tmp 14) rfl b 9 rfl CS (.array 9 145) Tx underlying146 rfl Um ?_)
 clear Tx Um;go_loopw [16] (fun i w'=>∃k:Nat,k≤9∧i = .int .i64 k∧Below w w w'∧Hid (of R x=Ro R x (9-k) k)) (fun i _=>9-(intOf i).toNat)
 case atStart=>exact⟨0,Zo,rfl,YE _ _,HO.o⟩
 case round=>
  obtain⟨k,hk,rfl,WO,hof⟩:=hrel;by_cases Uu:k<9
  ·have fJ:=HP.o k Uu;have hRr:=HR.o.below WO;have CI:=Zh (fun(w1:World) (h:Below wr wr w1)=>BH (R.src k).sv (R.src k).ss x w1 ((hRr.rows k Uu).below h).r);have HE:=HS.o (8-k) k;rw[show 8-k+1=9-k by omega]at HE;have DG:=Zh HE;obtain⟨sa,scap,Ki,Sg⟩:=hRr.rows k Uu;clear Sg;rw[Ki]at fJ CI;clear HE hRr Ki;generalize index (R.src k).ss x=q at *;generalize(R.src k).ss.length=sl at *;generalize(R.src k).num=nm at *;generalize(R.src k).own=ow at *;generalize(R.src k).ZJ=mt at *;by_cases ht:(R.src k).there=true∧0≤q
   ·have HF:Hid (of R x=((k:Int),q,true)):=by
     show _=_;rw[hof.o,DG.o,ht.1];simp[ht.2]
    obtain⟨ht1,ht2⟩:=ht;rw[ht1]at fJ;clear ht1;go_wp2_with (go_at_call 156;refine(CI.o _ (Z' _ _)).mono ?_;rintro e w1 ⟨rfl,rfl⟩)
    go_ret3
    exact⟨by rw[HF.o];rfl,WO.trans ((Z' _ _).mono WO.size)⟩
   ·have HF:Hid (of R x=Ro R x (9-(k+1)) (k+1)):=by
     show _=_;rw[hof.o,DG.o,Z3 (by simpa using ht),show 8-k=9-(k+1) by omega]
    cases gY:(R.src k).there
    ·exact aM
    ·have ht2:q<0:=by
      rw[gY]at ht;simp at ht;exact ht
     exact aM
  ·have HF:Hid (of R x=(0,0,false)):=by
    show _=_;rw[hof.o,show 9-k=0 by omega,HZ.o]
   go_wp2
   go_ret3
   exact⟨by rw[HF.o];rfl,WO⟩
def Bz(v:Value)(l:List Int)(w:World)(hv:XG w v l.length (bd l))(hl:l.length≤1000000) :
  Calls prog 112 #[v] w fun e w'=>(∃v',e = .returned v'∧Row w' 66 v' l.length (bd l))∧Below w w w':=by
 obtain⟨a,cap,rfl,Sg,Nv,SA,K7⟩:=id hv;have HV:=Zh hv;have HN:=Zh SA;clear hv K7 Sg Nv SA;cases a with
 | none=>
  obtain⟨h1,h2⟩:=HN.o rfl;have HL:Hid (l=[]):=BK h1;have he:=fun w=>Lib.run_eql_slice_nil (P:=prog) w 29 66 none l.length cap 0 0 underlying29
  clear h1 h2;go_enter func112,ntmps112;go_wp2;go_ret;exact⟨⟨_,rfl,by rw[HL.o];exact Row.nil _ _⟩,YE _ _⟩
 | some a=>
  have he:=fun w=>Lib.run_eql_slice_nil (P:=prog) w 29 66 (some a) l.length cap 0 0 underlying29
  clear HN;go_enter func112,ntmps112;go_wp2_with (at_builtin;refine Py rfl (.tmp 5) (.tmp 6) 29 rfl w bm _ 0 [] rfl (Sh w 66 1) _ l.length (bd l) rfl (HV.o.below (Z' _ _)) (by rw[VI];omega) (QE l) Zo Zo Zi (fun v' w1 HO HG=>?_))
  go_ret
  have hb:=((Fr.refl w Pj w).alloc (Zq _) (.cells #[] 66)).grown HG.o Zi (by
   intro k hk;have hk:some w.heap.size=some k:=hk;cases hk
   exact Zq _)
  refine⟨⟨_,rfl,?_⟩,hb.below⟩;have:=Row.Z4 HO.o
  rwa[PA,IC]at this
def Ag(b:Nat)(R:Room)(p n:Int)(w:World)(hR:ZQ w b R) :
  Calls prog 83 (Qv (some ⟨b,0,none⟩) p n) w fun e w'=>
   e = .returned (.tuple (Q4 (if Ze R p n then(Ql p n (R.sub n.toNat p.toNat).want (R.sub n.toNat p.toNat).ZV)else(Ql 0 0 0 false)) (Ze R p n)))∧Below w w w':=by
 have CP:=Zh (fun w=>Lu p 9 w);have CN:=Zh (fun w=>Lu n 9 w);have hb:=hR.lt;have HH:Hid (Ze R p n=(Vv p 9&&Vv n 9&&(R.sub n.toNat p.toNat).there)):=rfl;by_cases hp:Vv p 9=true
 ·by_cases hn:Vv n 9=true
  ·obtain⟨h1,h2⟩:=(db p 9).1 hp;obtain⟨h3,h4⟩:=(db n 9).1 hn;obtain⟨p,rfl⟩:=RV (show 0≤p by omega);obtain⟨n,rfl⟩:=RV (show 0≤n by omega);rw[Wi,Wi]at HH ⊢;rw[hp]at CP HH;rw[hn]at CN HH;obtain⟨c0,c1,c2⟩:=hR.Ge (n:=n) (p:=p) Zo Zo;clear hp hn hR;cases ht:(R.sub n p).there
   ·rw[ht]at c0;have HF:Hid (Ze R p n=false):=by show _=_;rw[HH.o,ht];rfl
    rw[HF.o];clear ht;exact a_
   ·rw[ht]at c0;have HF:Hid (Ze R p n=true):=by show _=_;rw[HH.o,ht];rfl
    rw[HF.o];clear ht;go_enter func83,ntmps83;go_wp2_with fail
    refine(CP.o _).mono ?_;rintro e w1 ⟨rfl,rfl⟩;go_wp2_with fail
    refine(CN.o _).mono ?_;rintro e w1 ⟨rfl,rfl⟩;go_wp2_with fail
    refine Vr (v:= .tuple (Q4 (Ql p n (R.sub n p).want (R.sub n p).ZV) true)) (by simp[results,results83,go_sem]) rfl ⟨rfl,?_⟩
    repeat(first|exact YE _ _|refine Below.drew ?_|refine Below.alloc ?_ Zi _)
  ·have hn:Vv n 9=false:=by simpa using hn
   have HF:Hid (Ze R p n=false):=by show _=_;rw[HH.o,hp,hn];rfl
   rw[HF.o];rw[hp]at CP;rw[hn]at CN;clear hp hn hR;exact a_
 ·have hp:Vv p 9=false:=by simpa using hp
  have HF:Hid (Ze R p n=false):=by show _=_;rw[HH.o,hp];rfl
  rw[HF.o];rw[hp]at CP;clear hp hR;go_enter func83,ntmps83;go_wp2_with fail
  refine(CP.o _).mono ?_;exact Yx75
def oh(b:Nat)(R:Room)(n:Int)(w:World)(hR:ZQ w b R)(h:(Vv n 9&&(R.src n.toNat).there)=false) :
  Calls prog 81 (Qk (some ⟨b,0,none⟩) n) w fun e w'=>
   e = .returned (.tuple (Q4 (Qq 0 0 none 0 0 false) false))∧Below w w w':=by
 have CN:=Zh (fun w=>Lu n 9 w);have hb:=hR.lt;by_cases hn:Vv n 9=true
 ·obtain⟨h3,h4⟩:=(db n 9).1 hn;obtain⟨n,rfl⟩:=RV (show 0≤n by omega);rw[hn,Wi,Bool.true_and]at h;obtain⟨s0,s1,s2,s3,s4⟩:=hR.L_ (n:=n) Zo;rw[h]at s0;exact Yx84
 ·have hn:Vv n 9=false:=by simpa using hn
  exact Yx84
def tA(b:Nat)(R:Room)(n:Nat)(w:World)(hR:ZQ w b R)(hn:1≤n∧n<9)(h:(R.src n).there=true)(hl:(R.src n).ss.length≤1000000) :
  Calls prog 81 (Qk (some ⟨b,0,none⟩) n) w fun e w'=>
   (∃v',e = .returned (.tuple (Q4 #[.int .i64 (R.src n).num,.int .i64 (R.src n).own,v',.bool (R.src n).ZJ] true))∧Row w' 66 v' (R.src n).ss.length (bd (R.src n).ss))∧Below w w w':=by
 have CN:=Zh (fun w=>Lu n 9 w);have hb:=hR.lt;have hi:Vv n 9=true:=(db _ _).2 Zo;obtain⟨s0,s1,s2,s3,s4⟩:=hR.L_ hn.2;rw[h]at s0;rw[hi]at CN;have U0:=Zh (hR.rows n hn.2);obtain⟨sa,scap,Ki,Sg⟩:=hR.rows n hn.2;have CC:=Zh (fun w1 (hw:Below w w w1)=>Bz (R.src n).sv (R.src n).ss w1 ((hR.rows n hn.2).below hw).r hl);rw[Ki]at s3 CC;clear hi h hR Sg Ki;generalize(R.src n).ss=ss at *;generalize(R.src n).num=nm at *;generalize(R.src n).own=ow at *;generalize(R.src n).ZJ=mt at *;go_enter func81,ntmps81;go_wp2_with fail
 refine(CN.o _).mono ?_;rintro e w1 ⟨rfl,rfl⟩;go_wp2_with fail
 refine(CC.o _ (by repeat(first|exact YE _ _|refine Below.alloc ?_ Zi _))).mono ?_;rintro e w1 ⟨⟨v',rfl,ZW⟩,YV⟩;have PH:=Zh ZW;obtain⟨a',cap',rfl,Sg⟩:=ZW;obtain⟨Ls,IV⟩:=Sv YV;have hz:w.heap.size+1<w1.heap.size:=by have:=YV.size;simp at this;omega
 have HB:=Zh YV;have r0:=Ls w 0 TY;have r1:=Ls w 1 TY;have r2:=Ls w 2 TY;have r3:=Ls w 3 TY;simp at r0 r1 r2 r3;clear Sg YV;go_wp2_with fail
 refine Vr (v:= .tuple (Q4 (Qq nm ow a' ss.length cap' mt) true)) (by simp[results,results81,go_sem,r0,r1,r2,r3]) rfl ⟨⟨_,rfl,?_⟩,?_⟩
 ·refine PH.o.fr (B:=w1.heap.size) (S:=fun k=>w.heap.size≤k∧k<w.heap.size+2) ?_ (Zq _) ?_
  ·repeat(refine Fr.setCell ?_ (WG Zi) _)
   exact Fr.refl _ _ _
  ·intro k c fr hk;rw[HB.o.block k TY];obtain⟨n1,n2⟩:=ao w (.cells (Qq 0 0 none 0 0 false) 108) (.cells (Qq nm ow sa ss.length scap mt) 108);have:k=w.heap.size∨k=w.heap.size+1:=by omega
   rcases this with rfl|rfl
   ·rw[n1];exact Ub Zd
   ·rw[n2];exact Ub Zd
 ·repeat(refine Below.setCell ?_ Zi _)
  exact((Z' _ _).trans ((Z' _ _).mono Zi)).trans (HB.o.mono TY)
def Zp{base:Nat}{e:TypeId}{size:Nat}{v:Value}{n:Nat}{xs:List Value}{w w':World}(h:w.ownsRow base e size v n xs)(hb:Below w w w'):w'.ownsRow base e size v n xs:=by
 obtain⟨h1,h2⟩:=h;refine⟨h1,?_⟩;rcases h2 with h2|⟨g,cap,cur,hv,hg,hh,r⟩
 ·exact WQ h2
 ·have Ow:g<w.heap.size:=by
   rcases Nat.lt_or_ge g w with h|h
   ·exact h
   ·rw[DT h]at hh;cases hh
  exact WG ⟨g,cap,cur,hv,hg,by rw[hb.block g Ow];exact hh,r⟩
def Sm(R:Room)(n:Int)(k:Nat):List Nat:=(List.range k).filter fun p=>Ze R p n
def zt(R:Room)(n:Int)(k:Nat):Sm R n (k+1)=Sm R n k++if Ze R k n then[k]else[]:=by
 unfold Sm;rw[ny,List.filter_append]
 congr 1
 cases h:Ze R k n <;> simp[h]
def Gf(R:Room)(n:Int)(k:Nat):(Sm R n k).length≤k:=by
 have:=List.length_filter_le (fun p:Nat=>Ze R p n) (List.range k);rw[List.length_range]at this;exact this
def Ib(a b:List Nat):ints (a++b)=ints a++ints b:=Ng
def YG{base:Nat}{e:TypeId}{size:Nat}{v:Value}{n:Nat}{xs:List Value}{w:World}(h:w.ownsRow base e size v n xs):∀k,v.ownBlock=some k→base≤k:=by
 intro k hk;obtain⟨_,h⟩:=h;rcases h with⟨rfl,_⟩|⟨g,cap,cur,rfl,hg,_⟩
 ·cases hk
 ·have hk:some g=some k:=hk;cases hk;exact hg
def ET(b:Nat)(R:Room)(n:Int)(w:World)(hR:ZQ w b R) :
  Calls prog 82 (Qk (some ⟨b,0,none⟩) n) w fun e w'=>(∃v,e = .returned v∧Row w' 3 v (ZX R n).length (ints (ZX R n)))∧Below w w w':=by
 have HR:=Zh hR;have hb:=hR.lt;have HS:Hid (ZX R n=Sm R n 9):=rfl;clear hR;go_enter func82,ntmps82;go_wp2;go_loopw [5,9] (fun v i w'=>∃k:Nat,k≤9∧i = .int .i64 k∧Below w w w'∧w'.ownsRow w 3 1 v (Sm R n k).length (ints (Sm R n k))) (fun _ i _=>9-(intOf i).toNat)
 case atStart=>exact⟨0,Zo,rfl,YE _ _,TH _ _ _ _⟩
 case round=>
  obtain⟨k,hk,rfl,WO,Yy⟩:=hrel;have Yd:=Zh Yy;clear Yy;by_cases Uu:k<9
  ·have cs:=Ag b R k n wr (HR.o.below WO);have rq:=Zh (zt R n k);have Hi:=Gf R n k;cases hh:Ze R k n
   ·rw[hh,Z3 Zd]at cs;have CS:=Zh cs;clear cs;have HF:Hid (Sm R n (k+1)=Sm R n k):=by show _=_;rw[rq.o,hh];simp
    clear hh;go_wp2_with (go_at_call 83;refine CS.o.mono ?_;rintro e w1 ⟨rfl,YV⟩)
    go_roundw
    case rel=>
     refine⟨k+1,Zo,Zn,(WO.trans (YV.mono WO.size)).alloc (PJ WO.size YV.size) _,?_⟩;rw[HF.o];exact(Zp Yd.o YV).alloc _
    case measure=>simp[intOf];omega
   ·rw[hh,ZU rfl,Wi]at cs;generalize(R.sub n.toNat k).want=wa at cs;generalize(R.sub n.toNat k).ZV=pa at cs;have CS:=Zh cs;clear cs;have HF:Hid (Sm R n (k+1)=Sm R n k++[k]):=by show _=_;rw[rq.o,hh];simp
    clear hh;go_wp2_with (first|(go_at_call 83;refine CS.o.mono ?_;rintro e w1 ⟨rfl,YV⟩)|(at_builtin;refine YN rfl (.tmp 20) (.tmp 22) 72 rfl w WU _ (Sm R n k).length (ints (Sm R n k)) rfl ?a1 _ 1 [.int .i64 k] rfl ?a2 rfl ?a4 ?a5 ?a6 ?a7 (fun v' w2 M7 HG=>?_)))
    case a1=>exact((Zp Yd.o YV).alloc _).alloc _
    case a2=>exact Yn _ _ 1 _ [.int .i64 k] Zd Zi
    case a4=>intro u hu;simp at hu;subst hu;rfl
    case a5=>omega
    case a6=>omega
    case a7=>have h1:=WO.size;have h2:=YV.size;simp;omega
    go_roundw
    case rel=>
     refine⟨k+1,Zo,Zn,?_,?_⟩
     ·have h1:=WO.trans (YV.mono WO.size);have h2:=h1.alloc h1.size (.cells (Ql k n wa pa) 105);have h3:=h2.alloc h2.size (.cells #[.int .i64 k] 3);exact h3.grown HG.o h3.size (YG Yd.o)
     ·rw[HF.o,UC,Ib];exact M7.o
    case measure=>simp[intOf];omega
  ·have cf:k=9:=by omega
   subst cf;go_wp2;go_ret;exact⟨⟨_,rfl,by rw[HS.o];exact Row.Z4 Yd.o⟩,WO⟩
def Row.grown{w w':World}{e:TypeId}{v:Value}{n:Nat}{xs:List Value}(h:Row w e v n xs){base:Nat}{e2:TypeId}{size:Nat}{vo:Value}{m:Nat}{ys:List Value}(ho:w.ownsRow base e2 size vo m ys)(hg:w.grownBy w' vo.ownBlock)(WA:e≠e2):Row w' e v n xs:=by
 refine h.fr (B:=w.heap.size) (S:=fun k=>vo.ownBlock=some k) ⟨hg.os,hg.tape,hg.output,hg.size,fun k hk hs=>hg.block k hk (fun e=>hs e.symm)⟩ (Zq _) ?_;intro k c fr hk he;obtain⟨_,ho⟩:=ho;rcases ho with⟨rfl,_⟩|⟨g,cap,cur,rfl,_,hh,_⟩
 ·cases hk
 ·have hk:some g=some k:=hk;cases hk;rw[hh]at he;exact Ub (fun h=>WA h.symm) he
def ZQ.grown{w w':World}{b:Nat}{R:Room}(h:ZQ w b R){base:Nat}{e2:TypeId}{size:Nat}{vo:Value}{m:Nat}{ys:List Value}(ho:w.ownsRow base e2 size vo m ys)(hg:w.grownBy w' vo.ownBlock)(hb:b<base)(WA:66≠e2):ZQ w' b R:=by
 refine⟨?_,fun n hn=>Row.grown (h.rows n hn) ho hg WA⟩;obtain⟨c,hc,hs,Ut⟩:=h.cells;refine⟨c,?_,hs,Ut⟩;rw[hg.block b h.lt (fun e=>by have:=YG ho b e.symm;omega)];exact hc
def V_{base:Nat}{e:TypeId}{size:Nat}{v:Value}{n:Nat}{xs:List Value}{w w':World}{S:Nat→Prop}(h:w.ownsRow base e size v n xs)(hf:Fr w S w w')(hS:∀k,S k→k<base):w'.ownsRow base e size v n xs:=by
 obtain⟨h1,h2⟩:=h;refine⟨h1,?_⟩;rcases h2 with h2|⟨g,cap,cur,hv,hg,hh,r⟩
 ·exact WQ h2
 ·have Ow:g<w.heap.size:=by
   rcases Nat.lt_or_ge g w with h|h
   ·exact h
   ·rw[DT h]at hh;cases hh
  exact WG ⟨g,cap,cur,hv,hg,by rw[hf.block g Ow (fun hs=>by have:=hS g hs;omega)];exact hh,r⟩
def ZQ.EA{w:World}{b:Nat}{R:Room}(h:ZQ w b R){e:TypeId}(he:e≠152):∀k c fr,k=b→w.heap[k]?≠some (.cells c e fr):=by
 intro k c fr hk;subst hk;obtain⟨c',hc,_,_⟩:=h.cells;rw[hc];exact Ub (fun h=>he h.symm)
def Sl(R:Room)(n:Nat)(x:Src):(R.YW n x).src n=x:=by simp[Room.YW]
def R5(R:Room)(n:Nat)(x y:Src):(R.YW n x).YW n y=R.YW n y:=by
 unfold Room.YW
 congr 1
 funext m;dsimp only;split <;> rfl
def ZQ.Tk{w:World}{b:Nat}{R:Room}(h:ZQ w b R){n i:Nat}(hn:n<9)(hi:i<5){x:Src}{v:Value}(hx:∀j,j<5→Mo x j=if j=i then v else Mo (R.src n) j)
  (ZW:Row w 66 x.sv x.ss.length (bd x.ss)):ZQ (w.setCell ⟨b,9+n*5+i,none⟩ v) b (R.YW n x):=by
 refine h.set Zo (fun j hj=>?_) (fun m hm=>?_)
 ·by_cases h1:j<9∨54≤j
  ·unfold Wy;rw[Z3 (by omega:¬j=9+n*5+i)];by_cases h2:j<9
   ·rw[ZU h2,ZU h2];rfl
   ·rw[Z3 h2,Z3 h2,Z3 Zo,Z3 Zo];rfl
  ·unfold Wy;rw[Z3 (by omega:¬j<9),ZU (by omega:j<54),Z3 (by omega:¬j<9),ZU (by omega:j<54)];by_cases h3:(j-9)/5=n
   ·have e:(R.YW n x).src ((j-9)/5)=x:=by simp[Room.YW,h3]
    rw[e,h3,hx _ Zo];have:((j-9)%5=i)↔(j=9+n*5+i):=by omega
    by_cases h4:(j-9)%5=i
    ·rw[ZU h4,ZU (this.1 h4)]
    ·rw[Z3 h4,Z3 (fun e=>h4 (this.2 e))]
   ·have e:(R.YW n x).src ((j-9)/5)=R.src ((j-9)/5):=by simp[Room.YW,h3]
    rw[e,Z3 Zo]
 ·by_cases hmn:m=n
  ·subst hmn;rw[Sl];exact ZW
  ·have e:(R.YW n x).src m=R.src m:=by simp[Room.YW,hmn]
   rw[e];exact h.rows m hm
def ZQ.YW{w:World}{b:Nat}{R:Room}(h:ZQ w b R){n:Nat}(hn:n<9)(x:Src)(ZW:Row w 66 x.sv x.ss.length (bd x.ss)) :
  ZQ (((((w.setCell ⟨b,9+n*5,none⟩ (.bool x.there)).setCell ⟨b,9+n*5+1,none⟩ (.int .i64 x.num)).setCell ⟨b,9+n*5+2,none⟩ (.int .i64 x.own)).setCell ⟨b,9+n*5+3,none⟩ x.sv).setCell ⟨b,9+n*5+4,none⟩ (.bool x.ZJ)) b (R.YW n x):=by
 have ho:=h.other;obtain⟨c,hc,_,_⟩:=h.cells;have r1:=h.rows n hn;have c5:∀j,j<5→(j=0∨j=1∨j=2∨j=3∨j=4):=by intro j hj;omega
 have h1:=h.Tk hn (i:=0) Zo (x:={R.src n with there:=x.there}) (v:= .bool x.there) (by intro j hj;rcases c5 j hj with rfl|rfl|rfl|rfl|rfl <;> rfl) r1;have h2:=h1.Tk hn (i:=1) Zo (x:={R.src n with there:=x.there,num:=x.num}) (v:= .int .i64 x.num) dO (by have:=h1.rows n hn;rw[Sl]at this;exact this);have h3:=h2.Tk hn (i:=2) Zo (x:={R.src n with there:=x.there,num:=x.num,own:=x.own}) (v:= .int .i64 x.own) dO (by have:=h2.rows n hn;rw[Sl]at this;exact this)
 have hrow3:Row (((w.setCell ⟨b,9+n*5,none⟩ (.bool x.there)).setCell ⟨b,9+n*5+1,none⟩ (.int .i64 x.num)).setCell ⟨b,9+n*5+2,none⟩ (.int .i64 x.own)) 66 x.sv x.ss.length (bd x.ss):=
  ZW.fr ((((Fr.refl w (· = b) w).setAt _ _).setAt _ _).setAt _ _) (Zq _) ho
 have h4:=h3.Tk hn (i:=3) Zo (x:={R.src n with there:=x.there,num:=x.num,own:=x.own,sv:=x.sv,ss:=x.ss}) (v:=x.sv) dO hrow3;have h5:=h4.Tk hn (i:=4) Zo (x:=x) (v:= .bool x.ZJ) dO (by have:=h4.rows n hn;rw[Sl]at this;exact this);rw[R5,R5,R5,R5]at h5;exact h5
def Hv(n:Nat)(p:Nat):∀(l:List Nat) (R:Room),Xe n (l++[p]) R=((Xe n l R).1++[⟨3,p,n,0,0⟩,⟨2,p,n,0,0⟩],(Xe n l R).2.ZO n p UW)
 | [],R=>rfl
 | q :: l,R=>by
  simp only[List.cons_append,Xe];rw[Hv n p l]
def Ll(n:Nat):∀(l:List Nat) (R:Room),(Xe n l R).1.length=2*l.length
 | [],R=>rfl
 | q :: l,R=>by
  simp only[Xe,List.length_cons,Ll n l];omega
def Eo(t:Yz):(Z7 t).length=5:=rfl
def XT(l:List Yz):∀u∈l.flatMap Z7,u.oneCell'=true:=by
 intro u hu;obtain⟨t,_,hu⟩:=List.mem_flatMap.1 hu;simp only[Z7,K5,List.mem_nil_iff,or_false]at hu;rcases hu with rfl|rfl|rfl|rfl|rfl <;> rfl
def Vo(l:List Yz):(l.flatMap Z7).length=l.length*5:=XH _ 5 Eo l
def SL{w:World}{v:Value}{l:List Nat}(h:Row w 3 v l.length (ints l))(hl:0<l.length):∃g off cap,v = .slice (some ⟨g,off,none⟩) l.length cap∧g<w.heap.size∧∀j,j<l.length→w.cell? ⟨g,off+j,none⟩=some (.int .i64 (l.getD j 0:Nat)):=by
 have kB:(ints l).length=l.length:=Te _;obtain⟨g,off,cap,h1,_,_,h4,h5⟩:=h.open (by rw[kB];exact hl);refine⟨g,off,cap,h1,h4,fun j hj=>?_⟩;rw[h5 j (by rw[kB];exact hj),QQ,U' hj];simp[ints,hj]
def Gg{R:Room}{n:Int}{j:Nat}(h:j<(ZX R n).length):(ZX R n).getD j 0<9:=by
 rw[QQ,U' h];have:=O6 h;have:=(Z1g.1 this).1;simpa using this
def OW(R:Room)(n:Int):(ZX R n).length≤9:=Gf R n 9
def Dy{l:List Nat}{k:Nat}(h:k<l.length):l.take (k+1)=l.take k++[l.getD k 0]:=by
 rw[List.take_succ_eq_append_getElem h,QQ,U' h];rfl
def Fj(b:Nat)(R:Room)(n:Nat)(w:World)(hR:ZQ w b R)(hn:n<9) :
  Calls prog 137 (Qk (some ⟨b,0,none⟩) n) w fun e w'=>(∃v,e = .returned v∧Yx w' v (gone R n).1)∧ZQ w' b (gone R n).2∧Fr w (· = b) w w':=by
 have hb:=hR.lt;have CS:=Zh (ET b R n w hR);have HG0:Hid (gone R n=((Xe n (ZX R n) R).1,(Xe n (ZX R n) R).2.YW n TU)):=rfl;have HM:Hid (∀j,j<(ZX R n).length→(ZX R n).getD j 0<9):=fun j h=>Gg h
 have HL:=OW R n;have HR:=Zh hR;clear hR;generalize ZX R n=L at *;go_enter func137,ntmps137;go_wp2_with fail
 refine CS.o.mono ?_;rintro e w1 ⟨⟨lv,rfl,ZW⟩,YV⟩;have U0:=Zh ZW;have HB:=Zh YV;clear YV;rcases Nat.eq_zero_or_pos L.length with h0|h0
 ·obtain⟨la,uo,rfl,hx⟩:=ZW;clear hx;have dg:Hid (L=[]):=BK h0;have Xr:=Zh (HR.o.below HB.o);obtain⟨s0,s1,s2,s3,s4⟩:=Xr.o.L_ hn;have f0:=Xr.o.Yv (9+n*5);have f1:=Xr.o.Yv (9+n*5+1);have f2:=Xr.o.Yv (9+n*5+2);have f3:=Xr.o.Yv (9+n*5+3);have f4:=Xr.o.Yv (9+n*5+4);go_wp2_with fail
  go_loopw [5,12] (fun v i w'=>v = .slice none 0 0∧i = .int .i64 0∧w'=w1) (fun _ _ _=>0)
  case atStart=>exact⟨rfl,rfl,rfl⟩
  case round=>
   obtain⟨rfl,rfl,rfl⟩:=hrel;go_wp2;go_ret;rw[HG0.o,dg.o];refine⟨⟨_,rfl,?_⟩,Xr.o.YW hn TU (Row.nil _ _),((((((Fr.Z8 _ HB.o).setAt _ _).setAt _ _).setAt _ _).setAt _ _).setAt _ _)⟩;exact Row.nil _ _
 ·obtain⟨g,off,cap,rfl,hg,Yp⟩:=SL ZW h0;have HC:=Zh Yp;clear ZW Yp;go_wp2_with fail
  go_loopw [5,12] (fun v i w'=>∃k:Nat,k≤L.length∧i = .int .i64 k∧Fr w (· = b) w w'∧Row w' 3 (.slice (some ⟨g,off,none⟩) L.length cap) L.length (ints L)∧ZQ w' b (Xe n (L.take k) R).2∧w'.ownsRow w 158 5 v (Xe n (L.take k) R).1.length ((Xe n (L.take k) R).1.flatMap Z7)) (fun _ i _=>L.length-(intOf i).toNat)
  case atStart=>exact⟨0,Zo,rfl,Fr.Z8 _ HB.o,U0.o,HR.o.below HB.o,TH _ _ _ _⟩
  case round=>
   obtain⟨k,hk,rfl,Wb,ZW,Xh,Yy⟩:=hrel;have TN:=Zh Wb;have PH:=Zh ZW;have Xr:=Zh Xh;have Yd:=Zh Yy;clear Wb Yy Xh;by_cases Vz:k<L.length
   ·obtain⟨g',off',cap',e1,hg',Yp⟩:=SL ZW h0;cases e1;have hc:=Yp k Vz;have hp:=HM.o k Vz;have HT:=Zh (Dy Vz);have zV:=Ll n (L.take k) R;rw[SC]at zV;clear Yp ZW;generalize L.getD k 0=p at *;have HS:=Zh (Hv n p (L.take k) R);have CE:=Zh (Ay b (Xe n (L.take k) R).2 p n wr Xr.o hn hp);generalize Xe n (L.take k) R=G at *;go_wp2_with (first|(go_at_call 139;refine CE.o.mono ?_;rintro e w2 ⟨rfl,PW,RD⟩;have Lb:=Zh PW;have TG:=Zh RD;clear PW RD)|(at_builtin;refine YN rfl (.tmp 16) (.tmp 24) 98 rfl w Xt _ G.1.length (G.1.flatMap Z7) rfl ?a1 _ 2 ([⟨3,p,n,0,0⟩,⟨2,p,n,0,0⟩].flatMap Z7) rfl ?a2 rfl ?a4 ?a5 ?a6 ?a7 (fun v' w3 HO HG=>?_)))
    case a1=>exact(V_ Yd.o TG.o (fun k hk=>by omega)).alloc _
    case a2=>exact Yn _ _ 2 _ ([⟨3,p,n,0,0⟩,⟨2,p,n,0,0⟩].flatMap Z7) Zd rfl
    case a4=>exact XT _
    case a5=>omega
    case a6=>omega
    case a7=>have h1:=TN.o.size;have h2:=TG.o.size;simp;omega
    go_roundw
    case rel=>
     have h1:=TN.o.size;have h2:=TG.o.size;have RF:=(V_ Yd.o TG.o (fun k hk=>by omega)).alloc (.cells ([⟨3,p,n,0,0⟩,⟨2,p,n,0,0⟩].flatMap Z7).toArray 158);have WO:=Z' w2 (.cells ([⟨3,p,n,0,0⟩,⟨2,p,n,0,0⟩].flatMap Z7).toArray 158);refine⟨k+1,Zo,Zn,?_,?_,?_,?_⟩
     ·exact jt
     ·exact Row.grown ((PH.o.fr TG.o (Zq _) (Xr.o.EA Zd)).below WO) RF HG.o Zd
     ·rw[HT.o,HS.o];exact ZQ.grown (Lb.o.below WO) RF HG.o hb Zd
     ·rw[HT.o,HS.o];dsimp only;rw[UC,O7];exact HO.o
    case measure=>simp[intOf];omega
   ·have hkk:k=L.length:=by omega
    have hT:L.take k=L:=by rw[hkk,nv]
    rw[hT]at Xr Yd;obtain⟨s0,s1,s2,s3,s4⟩:=Xr.o.L_ hn;have f0:=Xr.o.Yv (9+n*5);have f1:=Xr.o.Yv (9+n*5+1);have f2:=Xr.o.Yv (9+n*5+2);have f3:=Xr.o.Yv (9+n*5+3);have f4:=Xr.o.Yv (9+n*5+4);clear hT ZW;generalize Xe n L R=G at *;go_wp2;go_ret;rw[HG0.o];exact⟨⟨_,rfl,(Row.Z4 Yd.o).fr (((((((Fr.refl wr (· = b) wr).setAt _ _).setAt _ _).setAt _ _).setAt _ _).setAt _ _)) (Zq _) (Xr.o.EA Zd)⟩,Xr.o.YW hn TU (Row.nil _ _),(((((TN.o.setAt _ _).setAt _ _).setAt _ _).setAt _ _).setAt _ _)⟩
def below_drewN{B:Nat}{a w:World}(h:Below B a w):∀q,Below B a (w.drewN q)
 | 0=>h
 | q+1=>(below_drewN h q).drew
def Cx(b:Nat)(R:Room)(o:Op)(sa ba:Option Addr)(sl sc bl bc:Nat)(w:World)(hR:ZQ w b R)(hs:1≤o.source∧o.source<9) :
  Calls prog 164 (Qi (some ⟨b,0,none⟩) (Jr o sa sl sc ba bl bc)) w fun e w'=>e = .returned (.int .i64 (ZC R o))∧Below w w w':=by
 obtain⟨k,p,n,q,nm,ss⟩:=o;obtain⟨n,rfl⟩:=RV (show 0≤n by have:=hs.1;dsimp only at this;omega);have hn:n<9:=by have:=hs.2;dsimp only at this;omega
 obtain⟨s0,s1,s2,s3,s4⟩:=hR.L_ hn;have hb:=hR.lt;have HL:Hid (ZC R ⟨k,p,n,q,nm,ss⟩=if q<0∨((R.src n).ss.length:Int)≤q then 5 else 0):=rfl;have hlen:=(hR.rows n hn).len;obtain⟨va,vc,Ki,hx⟩:=hR.rows n hn;rw[Ki]at s3;clear hR hs hx Ki;generalize(R.src n).ss.length=L at *;dsimp only;by_cases h1:q<0
 ·have HF:Hid (ZC R ⟨k,p,n,q,nm,ss⟩=5):=by show _=_;rw[HL.o,ZU (WQ h1)]
  exact Yx65
 ·by_cases h2:(L:Int)≤q
  ·have HF:Hid (ZC R ⟨k,p,n,q,nm,ss⟩=5):=by show _=_;rw[HL.o,ZU (WG h2)]
   have hd1:decide (q<0)=false:=WH h1;have nA:decide ((L:Int)≤q)=true:=WV h2;exact Yx65
  ·have HF:Hid (ZC R ⟨k,p,n,q,nm,ss⟩=0):=by show _=_;rw[HL.o,Z3 Zo]
   have hd1:decide (q<0)=false:=WH h1;have nA:decide ((L:Int)≤q)=false:=WH h2;exact Yx65
def pB(b:Nat)(R:Room)(o:Op)(sa ba:Option Addr)(sl sc bl bc:Nat)(w:World)(hR:ZQ w b R)(hs:1≤o.source∧o.source<9)(hp:1≤o.peer∧o.peer<9) :
  Calls prog 165 (Qi (some ⟨b,0,none⟩) (Jr o sa sl sc ba bl bc)) w fun e w'=>e = .returned (.int .i64 (heard R o))∧Below w w w':=by
 have CL:=Zh (fun(w1:World) (h:Below w w w1)=>Cx b R o sa ba sl sc bl bc w1 (hR.below h) hs);obtain⟨k,p,n,q,nm,ss⟩:=o;obtain⟨n,rfl⟩:=RV (show 0≤n by have:=hs.1;dsimp only at this;omega);obtain⟨p,rfl⟩:=RV (show 0≤p by have:=hp.1;dsimp only at this;omega);have hn:n<9:=by have:=hs.2;dsimp only at this;omega
 have MH:p<9:=by have:=hp.2;dsimp only at this;omega
 obtain⟨c0,c1,c2⟩:=hR.Ge hn MH;have hb:=hR.lt
 have HL:Hid (heard R ⟨k,p,n,q,nm,ss⟩=(let x:=R.sub n p
   if !x.there then 8 else if k=10∧x.ZV=true then 9 else if k=11∧x.ZV=false then 11 else if k≠12 then 0
   else if ZC R ⟨k,p,n,q,nm,ss⟩≠0 then ZC R ⟨k,p,n,q,nm,ss⟩else if x.want=q then 9 else 0)):=rfl
 clear hR hs hp;dsimp only at CL HL ⊢;generalize ZC R ⟨k,p,n,q,nm,ss⟩=ly at *;generalize heard R ⟨k,p,n,q,nm,ss⟩=hd at *;generalize(R.sub n p).there=t0 at *;generalize(R.sub n p).ZV=t1 at *;generalize(R.sub n p).want=t2 at *;go_enter func165,ntmps165;go_wp2
 go_region
 go_wp2_with (go_at_call 164;refine(CL.o _ tD).mono ?_;rintro e w1 ⟨rfl,YV⟩;obtain⟨Ls,IV⟩:=Sv YV)
 all_goals(go_ret;refine⟨dr ?_,?_⟩)
 all_goals try(refine Below.trans ?_ (YV.mono TY))
 all_goals try(refine Below.drew ?_)
 all_goals try(refine Below.alloc (Below.alloc (YE _ _) (Zq _) _) Zi _)
 all_goals(rw[HL.o];first|(simp[*];done)|(simp_all;done)|skip)
def oL(b:Nat)(R:Room)(o:Op)(sa ba:Option Addr)(sl sc bl bc:Nat)(w:World)(hR:ZQ w b R)(hs:1≤o.source∧o.source<9)(hp:1≤o.peer∧o.peer<9) :
  Calls prog 135 (Qi (some ⟨b,0,none⟩) (Jr o sa sl sc ba bl bc)) w fun e w'=>e = .returned (.int .i64 (about R o))∧Below w w w':=by
 have CL:=Zh (fun(w1:World) (h:Below w w w1)=>Cx b R o sa ba sl sc bl bc w1 (hR.below h) hs);have CH:=Zh (fun(w1:World) (h:Below w w w1)=>pB b R o sa ba sl sc bl bc w1 (hR.below h) hs hp);obtain⟨k,p,n,q,nm,ss⟩:=o;obtain⟨n,rfl⟩:=RV (show 0≤n by have:=hs.1;dsimp only at this;omega);obtain⟨p,rfl⟩:=RV (show 0≤p by have:=hp.1;dsimp only at this;omega);have hn:n<9:=by have:=hs.2;dsimp only at this;omega
 have MH:p<9:=by have:=hp.2;dsimp only at this;omega
 obtain⟨c0,c1,c2⟩:=hR.Ge hn MH;obtain⟨s0,s1,s2,s3,s4⟩:=hR.L_ hn;have hb:=hR.lt
 have HL:Hid (about R ⟨k,p,n,q,nm,ss⟩=(if k=5∨k=8∨k=9 then
   (if(R.src n).own≠p then 10 else if k=8∧(R.src n).ZJ=true then 9 else if k=9∧(R.src n).ZJ=false then 11 else 0)
  else if k=6 then(if(R.src n).own=p then 10 else if(R.sub n p).there then 9 else ZC R ⟨k,p,n,q,nm,ss⟩)
  else heard R ⟨k,p,n,q,nm,ss⟩)):=rfl
 obtain⟨va,vc,Ki,hx⟩:=hR.rows n hn;rw[Ki]at s3;clear hR hs hp Ki hx;dsimp only at CL CH HL ⊢;generalize ZC R ⟨k,p,n,q,nm,ss⟩=ly at *;generalize heard R ⟨k,p,n,q,nm,ss⟩=hd at *;generalize about R ⟨k,p,n,q,nm,ss⟩=ab at *;generalize(R.sub n p).there=t0 at *;generalize(R.src n).there=u0 at *;generalize(R.src n).num=u1 at *;generalize(R.src n).own=u2 at *;generalize(R.src n).ZJ=u4 at *;generalize(R.src n).ss.length=vl at *;go_enter func135,ntmps135;go_wp2
 go_region
 go_wp2_with (first|(go_at_call 164;refine(CL.o _ tD).mono ?_;rintro e w1 ⟨rfl,YV⟩)|(go_at_call 165;refine(CH.o _ tD).mono ?_;rintro e w1 ⟨rfl,YV⟩))
 all_goals try(go_region;go_wp2_with (first|(go_at_call 164;refine(CL.o _ tD).mono ?_;rintro e w1 ⟨rfl,YV⟩)|(go_at_call 165;refine(CH.o _ tD).mono ?_;rintro e w1 ⟨rfl,YV⟩)))
 all_goals(go_ret;refine⟨dr ?_,?_⟩)
 all_goals try(refine Below.trans ?_ (YV.mono TY))
 all_goals try(refine Below.drew ?_)
 all_goals try(refine Below.drew ?_)
 all_goals try(refine Below.alloc (Below.alloc (YE _ _) (Zq _) _) Zi _)
 all_goals try(rw[HL.o];first|(simp[*];done)|(simp_all;done)|skip)
 go_goals
def pR{l:List Int}{x:Int}:decide (0≤index l x)=l.contains x:=by
 unfold index;cases h:l.findIdx? (fun y=>y==x)with
 | none=>
  have:=List.findIdx?_eq_none_iff.1 h
  have hx:l.contains x=false:=by
   rw[JU];intro hc;have:=this x (by simpa using hc);simp at this
  rw[hx];rfl
 | some i=>
  have hx:l.contains x=true:=by
   obtain⟨hi,h1,_⟩:=List.findIdx?_eq_some_iff_getElem.1 h;have:l[i]=x:=by simpa using h1
   rw[List.contains_iff_mem,←this];exact O6 hi
  rw[hx];simp
def zQ(v:Value)(l:List Int)(x:Int)(w:World)(hv:XG w v l.length (bd l)) :
  Calls prog 163 #[v,.int .u32 x] w fun e w'=>e = .returned (.bool (l.contains x))∧w=w':=by
 have CI:=Zh (BH v l x w hv);have HN:Hid (decide (0≤index l x)=l.contains x):=pR;clear hv;generalize index l x=q at *;go_enter func163,ntmps163;go_wp2_with (go_at_call 156;refine CI.o.mono ?_;rintro e w1 ⟨rfl,rfl⟩)
 all_goals go_ret
 all_goals exact⟨b8 (by rw[←HN.o]),rfl⟩
def mM{w:World}{g off n cap:Nat}{l:List Int}(h:XG w (.slice (some ⟨g,off,none⟩) n cap) l.length (bd l))(k:Nat)(hk:k≤l.length):XG w (.slice (some ⟨g,off,none⟩) k cap) (l.take k).length (bd (l.take k)):=by
 obtain⟨a,cap',hv,h1,h2,h3,h4⟩:=h;injection hv with ha hn hc
 subst hc;have hl:(l.take k).length=k:=by rw[SC];omega
 refine⟨some ⟨g,off,none⟩,cap,by rw[hl],by rw[hl];omega,h2,(fun h=>by cases h),?_⟩;by_cases hz:k=0
 ·subst hz;exact WQ rfl
 ·rcases h4 with h4|⟨b,o,Ry,Ow,Rt⟩
  ·have:(bd l).length=0:=by rw[h4];rfl
   rw[VI]at this;omega
  ·refine WG ⟨b,o,by rw[ha,Ry],Ow,fun j hj=>?_⟩;rw[VI,hl]at hj;rw[Rt j (by rw[VI];omega)];simp[bd,List.getElem?_take_of_lt hj]
def zB(R:Room)(l:List Int)(k:Nat):Vl R l k=((of R (l.getD k 0)).2.2||(l.take k).contains (l.getD k 0)):=rfl
def Eg(b:Nat)(R:Room)(o:Op)(sa ba:Option Addr)(sc bl bc:Nat)(w:World)(hR:ZQ w b R)(hs:1≤o.source∧o.source<9)
  (ZW:XG w (.slice sa o.ZG.length sc) o.ZG.length (bd o.ZG)) :
  Calls prog 134 (Qi (some ⟨b,0,none⟩) (Jr o sa o.ZG.length sc ba bl bc)) w fun e w'=>e = .returned (.int .i64 (VE R o))∧Below w w w':=by
 have CO:=Zh (fun(w1:World) (x:Int) (h:Below w w w1)=>Iy b R x w1 (hR.below h));obtain⟨kd,p,n,q,nm,ss⟩:=o;obtain⟨n,rfl⟩:=RV (show 0≤n by have:=hs.1;dsimp only at this;omega);have hn:n<9:=by have:=hs.2;dsimp only at this;omega
 obtain⟨s0,s1,s2,s3,s4⟩:=hR.L_ hn;have hb:=hR.lt;have HP:Hid (VE R ⟨kd,p,n,q,nm,ss⟩=(if ss.length<1∨3<ss.length then 5 else if ss.any (fun s=>decide (s<2)||decide (3221225472≤s))then 5 else if(R.src n).there then 9 else if(List.range ss.length).any (Vl R ss)then 9 else 0)):=rfl;dsimp only at *;have hlen:=ZW.len;clear hR hs s1 s2 s3 s4;generalize VE R ⟨kd,p,n,q,nm,ss⟩=Bb at *;generalize(R.src n).there=u0 at *;by_cases h1:ss.length<1
 ·have HF:Hid (Bb=5):=by show _=_;rw[HP.o,ZU (WQ h1)]
  exact bD
 by_cases h2:3<ss.length
 ·have HF:Hid (Bb=5):=by show _=_;rw[HP.o,ZU (WG h2)]
  exact bD
 have iN:Hid (Bb=(if ss.any (fun s=>decide (s<2)||decide (3221225472≤s))then 5 else if u0 then 9 else if(List.range ss.length).any (Vl R ss)then 9 else 0)):=by
  show _=_;rw[HP.o,Z3 Zo]
 obtain⟨g,off,cap,e1,_,_,hg,Yp⟩:=OY ZW Zo;cases e1;have HC:=Zh Yp;have U0:=Zh ZW;clear Yp ZW HP;go_enter func134,ntmps134;go_wp2
 go_loop [25] (fun i=>∃k:Nat,k≤ss.length∧i = .int .i64 k∧Hid (∀j,j<k→2≤ss.getD j 0∧ss.getD j 0<3221225472)) (fun i=>ss.length-(intOf i).toNat)
 case atStart=>exact⟨0,Tv _,rfl,fun j hj=>by omega⟩
 case round=>
  obtain⟨k,hk,rfl,N_⟩:=hrel;by_cases Vz:k<ss.length
  ·exact Yx45
  ·have HP3:Hid (Bb=if u0 then 9 else if(List.range ss.length).any (Vl R ss)then 9 else 0):=by
    exact aT
   clear N_ iN;cases u0
   ·have HP4:Hid (Bb=if(List.range ss.length).any (Vl R ss)then 9 else 0):=by show _=_;rw[HP3.o];rfl
    clear HP3;go_wp2;go_quiet (fail)
    go_wp2;go_loopw [47] (fun i w'=>∃k:Nat,k≤ss.length∧i = .int .i64 k∧Below w w w'∧w.heap.size<w'.heap.size∧w'.cell? ⟨w,5,none⟩=some (.slice (some ⟨g,off,none⟩) ss.length sc)∧Hid (∀j,j<k→Vl R ss j=false)) (fun i _=>ss.length-(intOf i).toNat)
    case atStart=>exact⟨0,Tv _,rfl,below_drewN (Z' _ _) _,by simp,by simp,fun j hj=>by omega⟩
    case round=>
     obtain⟨k,hk,rfl,WO,T8,AQ,N_⟩:=hrel;by_cases Vz:k<ss.length
     ·have Cr:=U0.o.below WO;obtain⟨g',off',cap',e1,_,_,hg',Yp⟩:=OY Cr Zo;cases e1;have hc:=Yp k Vz;have ah:=Zh (CO.o wr (ss.getD k 0) WO)
      have CC:Hid (∀w1,Below wr wr w1→Calls prog 163 #[.slice (some ⟨g,off,none⟩) k sc,.int .u32 (ss.getD k 0)] w1 fun e w'=>e = .returned (.bool ((ss.take k).contains (ss.getD k 0)))∧w1=w'):=
       fun w1 h=>zQ _ (ss.take k) _ w1 (mM (Cr.below h) k hk)
      have dG:=Zh (zB R ss k)
      have iL:Hid (Vl R ss k=true→Bb=9):=by
       intro h;rw[HP4.o,ZU];rw[List.any_eq_true];exact⟨k,by simpa using Vz,h⟩
      clear Yp Cr;generalize of R (ss.getD k 0)=O at *;obtain⟨o1,o2,o3⟩:=O;dsimp only at ah dG;generalize fB:(ss.take k).contains (ss.getD k 0)=cn at *;clear fB;generalize ss.getD k 0=x at *;cases o3
      ·cases cn
       ·have HF:Hid (Vl R ss k=false):=by show _=_;rw[dG.o];rfl
        go_wp2_with (first|(go_at_call 127;refine ah.o.mono ?_;rintro e w2 ⟨rfl,Y7⟩;have Hx:=(Y7.cell (p:=⟨w,5,none⟩) T8).trans AQ)|(go_at_call 163;refine(CC.o _ Y7).mono ?_;rintro e w3 ⟨rfl,rfl⟩))
        exact aQ
       ·have HF:=Zh (iL.o (by rw[dG.o];rfl));go_wp2_with (first|(go_at_call 127;refine ah.o.mono ?_;rintro e w2 ⟨rfl,Y7⟩;have Hx:=(Y7.cell (p:=⟨w,5,none⟩) T8).trans AQ)|(go_at_call 163;refine(CC.o _ Y7).mono ?_;rintro e w3 ⟨rfl,rfl⟩))
        go_ret;exact⟨dr HF.o.symm,WO.trans (Y7.mono WO.size)⟩
      ·have HF:=Zh (iL.o (by rw[dG.o];rfl));go_wp2_with (first|(go_at_call 127;refine ah.o.mono ?_;rintro e w2 ⟨rfl,Y7⟩;have Hx:=(Y7.cell (p:=⟨w,5,none⟩) T8).trans AQ))
       go_ret;exact⟨dr HF.o.symm,WO.trans (Y7.mono WO.size)⟩
     ·exact aW
   ·have HF:Hid (Bb=9):=by show _=_;rw[HP3.o];rfl
    go_wp2;go_quiet (fail)
    go_wp2;go_ret;exact⟨dr HF.o.symm,below_drewN (Z' _ _) _⟩
section
open Go.Lib
def Sa(w:World)(s:ByteArray)(p:Nat):Below w w (w.iter s p):=(YE _ _).alloc (Zq _) _
def GP{a b:ByteArray}(h:a=b):Ending.returned (.string a) = .returned (.string b):=by rw[h]
def aE{a b:Bool}(h:a=b):Ending.returned (.bool a) = .returned (.bool b):=by rw[h]
def YI{k:IntKind}{a b:Int}(h:a=b):Ending.returned (.int k a) = .returned (.int k b):=by rw[h]
def I7(s:ByteArray)(k:Nat)(h:cutAt s.data.toList k<s.size):k<(rn s.data.toList).length∧cutAt s.data.toList (k+1)=cutAt s.data.toList k+(Utf8.decode s (cutAt s.data.toList k)).2∧k≤cutAt s.data.toList k∧(rn s.data.toList)[k]?=some (Utf8.decode s (cutAt s.data.toList k)):=by
 exact Yx108
def Ba(s:ByteArray)(k:Nat)(h:¬cutAt s.data.toList k<s.size):(rn s.data.toList).length≤k:=by
 have hl:s.data.toList.length=s.size:=(Lib.size_eq s).symm;have:=J2 s.data.toList k;omega
def Mw{p:Nat×Nat→Bool}{R:List (Nat×Nat)}{k:Nat}{x:Nat×Nat}(h:(R.take k).all p=true)(hk:R[k]?=some x)(hx:p x=true):(R.take (k+1)).all p=true:=by
 rw[List.take_add_one,hk,List.all_append,h];simp[hx]
def Aj{p:Nat×Nat→Bool}{R:List (Nat×Nat)}{k:Nat}{x:Nat×Nat}(hk:R[k]?=some x)(hx:p x=false):R.all p=false:=by
 rw[JU];intro h;have:=List.all_eq_true.1 h x (List.mem_of_getElem? hk);rw[hx]at this;cases this
def rz(s:ByteArray)(w:World)(hs:s.size<9223372036854775807) :
  Calls prog 161 #[.string s] w (fun e w'=>e = .returned (.bool (may s.data.toList))∧Below w w w'):=by
 exact Yx14
def gf(r:Nat):GM r=true↔33≤r∧(r<127∨159<r)∧r≠65533:=by
 unfold GM;simp;omega
def jg(r:Int)(w:World)(h0:0≤r)(h1:r≤1114111) :
  Calls prog 150 #[.int .i32 r] w (fun e w'=>e = .returned (.bool (GM r.toNat))∧w=w'):=by
 exact Yx31
def jY(s:ByteArray)(n:Nat):s.extract n s.size=str (s.data.toList.drop n):=by
 apply ByteArray.ext;apply Array.toList_inj.1;rw[Lib.extract_to_end];rfl
def xG(s:ByteArray)(at':Nat)(h:at'<s.size):decodeGo (s.extract at' s.size)=Utf8.decode s at':=by
 rw[jY,←decodeL_drop];unfold decodeGo;rw[Z3 (by rw[MV,QG,←Lib.size_eq];omega)];rfl
abbrev Xn(w:World):Prop:=Utf8Tabs 0 1 w
def ie(s:ByteArray)(at':Nat)(w:World)(h:at'<s.size)(hT:Xn w) :
  Calls prog 149 #[.string (s.extract at' s.size)] w (fun e w'=>e = .returned (.tuple #[.int .i32 (Utf8.decode s at').1,.int .i64 (Utf8.decode s at').2])∧Below w w w'):=by
 have:=Tryz.utf8_DecodeRuneInString (s.extract at' s.size) w hT;rw[xG s at' h]at this;exact this
def uJ(s:ByteArray)(w:World)(hs:s.size<9223372036854775807)(hT:Xn w) :
  Calls prog 148 #[.string s] w (fun e w'=>e = .returned (.int .i64 (runes s.data.toList))∧Below w w w'):=by
 exact Yx17
def yN(s:ByteArray)(w:World)(hs:s.size<9223372036854775807)(hT:Xn w) :
  Calls prog 120 #[.string s] w (fun e w'=>e = .returned (.bool (may s.data.toList))∧Below w w w'):=by
 exact Yx11
def je(r:Int)(w:World)(h0:0≤r)(h1:r≤1114111) :
  Calls prog 178 #[.int .i32 r] w (fun e w'=>e = .returned (.int .i32 (Nl r))∧w=w'):=by
 exact Yx47
def dK(s:ByteArray)(w:World)(hs:s.size<9223372036854775807)(hT:Xn w) :
  Calls prog 162 #[.string s] w (fun e w'=>e = .returned (.string (str (key s.data.toList)))∧Below w w w'):=by
 exact Yx22
def I0(l:List UInt8)(k:Nat)(h:k<l.length):((l.take k).map low++l.drop k).getD k 0=l.getD k 0:=by
 rw[QQ,Z1d TY,Te,SC,List.getElem?_drop,QQ]
 congr 2;omega
def uz(l:List UInt8)(k:Nat)(h:k<l.length):((l.take k).map low++l.drop k).set k (low (l.getD k 0))=(l.take (k+1)).map low++l.drop (k+1):=by
 exact Yx93
def low_up(b:UInt8)(h1:65≤b.toNat)(h2:b.toNat≤90):(low b).toNat=b.toNat+32:=by rw[QH];unfold Tz;rw[ZU ⟨h1,h2⟩]
def low_id(b:UInt8)(h:¬(65≤b.toNat∧b.toNat≤90)):low b=b:=by unfold low;rw[Z3 h]
def cJ(l:List UInt8)(k:Nat)(h:k<l.length)(x:UInt8)(hx:x=l.getD k 0):l.set k x=l:=by
 subst hx;rw[QQ,U' h];exact List.set_getElem_self h
def mi(s:ByteArray)(w:World)(hs:s.size<9223372036854775807)(hT:Xn w) :
  Calls prog 121 #[.string s] w (fun e w'=>e = .returned (.string (str (key s.data.toList)))∧Below w w w'):=by
 exact Yx12
end
def TB(R:Room):Array Value:=((List.range 9).map fun j=>Value.string (str (R.names j))).toArray
def LY(R:Room):(TB R).size=9:=by simp[TB]
def Ik(R:Room)(j:Nat)(h:j<9):(TB R)[j]?=some (.string (str (R.names j))):=by simp[TB,h]
def pU(b:Nat)(R:Room)(o:Op)(sa ba:Option Addr)(sl sc bl bc:Nat)(w:World)(hR:ZQ w b R)(hp:1≤o.peer∧o.peer<9)(hT:Xn w)(UD:o.name.length<9223372036854775807)(hRn:∀p,(R.names p).length<9223372036854775807) :
  Calls prog 133 (Qi (some ⟨b,0,none⟩) (Jr o sa sl sc ba bl bc)) w fun e w'=>e = .returned (.int .i64 (LX R o))∧Below w w w':=by
 have CJ:=Zh (fun(w1:World) (h:Below w w w1)=>Tc b R o.peer w1 (hR.below h));obtain⟨kd,p,n,q,nm,ss⟩:=o;have hb:=hR.lt;have HJ:Hid (LX R ⟨kd,p,n,q,nm,ss⟩=if Y5 R p then 9 else if !may nm then 12 else if(List.range 9).any (sameKey R ⟨kd,p,n,q,nm,ss⟩)then 9 else 0):=rfl;have CM:Hid (∀w1,Calls prog 161 #[.string (str nm)] w1 fun e w'=>e = .returned (.bool (may nm))∧Below w1 w1 w'):=fun w1=>rz (str nm) w1 (by rw[MV];exact UD)
 have CK:Hid (∀(s:List UInt8) w1,s.length<9223372036854775807→Below w w w1→Calls prog 162 #[.string (str s)] w1 fun e w'=>e = .returned (.string (str (key s)))∧Below w1 w1 w'):=fun s w1 hs h=>dK (str s) w1 (by rw[MV];exact hs) (Utf8Tabs_below hT h)
 dsimp only at *
 have Tx:∀j,j<(TB R).size→w.cell? ⟨b,0+j,none⟩=(TB R)[j]?:=by
  intro j hj;rw[LY]at hj;rw[PA,hR.r8 hj,Ik R j hj]
 have Um:(prog.info? 143).map (·.size)=some (TB R).size:=by rw[LY];kernel_rfl
 have HP:Hid (∀n:Nat,n<9→∀w,(Instr.index 143 (.agg (TB R)) (.int .i64 (n:Int))).run prog w = .ok (.string (str (R.names n))) w):=
  fun n hn w=>F8 w 143 9 9 (TB R) n _ underlying143 hn underlying9 rfl X6 _ (Ik R n hn)
 have gD:=Zh Tx;have HNL:=Zh hRn;have hnmL:=UD;clear hR Tx hRn UD;generalize TB R=CS at *;generalize LX R ⟨kd,p,n,q,nm,ss⟩=jn at *;cases hj:Y5 R p
 ·cases hm:may nm
  ·have HF:Hid (jn=12):=by show _=_;rw[HJ.o,hj,hm];rfl
   rw[hj]at CJ;rw[hm]at CM;clear hj hm HJ;go_enter func133,ntmps133;go_wp2_with (first|(go_at_call 80;refine(CJ.o _ (Z' _ _)).mono ?_;rintro e w1 ⟨rfl,rfl⟩)|(go_at_call 161;refine(CM.o _).mono ?_;rintro e w1 ⟨rfl,YV⟩))
   exact dS
  ·have HJ2:Hid (jn=if(List.range 9).any (sameKey R ⟨kd,p,n,q,nm,ss⟩)then 9 else 0):=by show _=_;rw[HJ.o,hj,hm];rfl
   rw[hj]at CJ;rw[hm]at CM;clear hj hm HJ
   have Xh:∀w',Below w w w'→∀j,j<CS.size→w'.cell? ⟨b,0+j,none⟩=CS[j]?:=fun w' h j hj=>by
    rw[h.cell (p:=⟨b,0+j,none⟩) hb];exact gD.o j hj
   have Xr:=Zh Xh;clear Xh;go_enter func133,ntmps133;go_wp2_with (first|(go_at_call 80;refine(CJ.o _ (Z' _ _)).mono ?_;rintro e w1 ⟨rfl,rfl⟩)|(go_at_call 161;refine(CM.o _).mono ?_;rintro e w1 ⟨rfl,YV⟩;have PV:=(Z' w _).trans (YV.mono Zi);have fA:=Xr.o _ PV;have xU:=YV.cell (p:=⟨w,4,none⟩) Zi;simp at xU)|(refine Sp rfl 143 (.tmp 17) rfl b 0 rfl CS (.array 9 9) fA underlying143 rfl Um ?_))
   have PF:w.heap.size<w1.heap.size:=by have:=YV.size;simp at this;omega
   clear fA Um;go_loopw [19] (fun i w'=>∃k:Nat,k≤9∧i = .int .i64 k∧Below w w w'∧w.heap.size<w'.heap.size∧w'.cell? ⟨w,4,none⟩=some (.string (str nm))∧Hid (∀j,j<k→sameKey R ⟨kd,p,n,q,nm,ss⟩ j=false)) (fun i _=>9-(intOf i).toNat)
   case atStart=>exact⟨0,Tv _,rfl,PV,PF,xU,fun j hj=>by omega⟩
   case round=>
    obtain⟨k,hk,rfl,WO,T8,AQ,N_⟩:=hrel;by_cases Uu:k<9
    ·have fJ:=HP.o k Uu;have HSK:Hid (sameKey R ⟨kd,p,n,q,nm,ss⟩ k=(!(R.names k).isEmpty&&decide (key (R.names k)=key nm))):=rfl;have Vz:=HNL.o k
     have HIN:Hid (sameKey R ⟨kd,p,n,q,nm,ss⟩ k=true→jn=9):=by
      intro h;rw[HJ2.o,ZU];rw[List.any_eq_true];exact⟨k,by simpa using Uu,h⟩
     generalize R.names k=nk at *;cases WA:nk.isEmpty
     ·have e1:(str nk).toList.isEmpty=false:=by rw[GR];exact WA
      have CK1:=Zh (fun w2 (h:Below w w w2)=>CK.o nk w2 Vz h);have CK2:=Zh (fun w2 (h:Below w w w2)=>CK.o nm w2 hnmL h);rw[WA]at HSK;clear WA;by_cases Ru:key nk=key nm
      ·have HF:=Zh (HIN.o (by rw[HSK.o,Ru];simp));rw[Ru]at CK1;clear Ru;go_wp2_with fail
       go_region_held3 (fun w'=>w'.cell? ⟨w,4,none⟩=some (.string (str nm))∧Below w w w'∧w.heap.size<w'.heap.size) (first|(refine⟨?_,?_,?_⟩ <;> first|assumption|(refine Below.drew ?_;assumption))|go_keep) (first|(go_at_call 162;go_split_ands;refine Calls.mono (CK1.o _ Sw) ?_;rintro e w2 ⟨rfl,Y7⟩;have Hx:=(Y7.cell (p:=⟨w,4,none⟩) Sw).trans Sw;have Yk:=Below.trans Sw (Y7.mono (jD Sw));have pN:=Od Sw Y7.size)|(go_at_call 162;go_split_ands;refine Calls.mono (CK2.o _ Sw) ?_;rintro e w3 ⟨rfl,WM⟩;have hbox3:=(WM.cell (p:=⟨w,4,none⟩) Sw).trans Sw;have V6:=Below.trans Sw (WM.mono (jD Sw));have ld:=Od Sw WM.size))
       all_goals(go_wp2;go_ret;exact⟨dr HF.o.symm,by assumption⟩)
      ·have HF:Hid (sameKey R ⟨kd,p,n,q,nm,ss⟩ k=false):=by show _=_;rw[HSK.o];simp[Ru]
       have e3:((str (key nk)).toList==(str (key nm)).toList)=false:=by rw[Wz,ByteArray.toList_eq,ByteArray.toList_eq];exact Ru
       clear Ru;go_wp2_with fail
       go_region_held3 (fun w'=>w'.cell? ⟨w,4,none⟩=some (.string (str nm))∧Below w w w'∧w.heap.size<w'.heap.size) (first|(refine⟨?_,?_,?_⟩ <;> first|assumption|(refine Below.drew ?_;assumption))|go_keep) (first|(go_at_call 162;go_split_ands;refine Calls.mono (CK1.o _ Sw) ?_;rintro e w2 ⟨rfl,Y7⟩;have Hx:=(Y7.cell (p:=⟨w,4,none⟩) Sw).trans Sw;have Yk:=Below.trans Sw (Y7.mono (jD Sw));have pN:=Od Sw Y7.size)|(go_at_call 162;go_split_ands;refine Calls.mono (CK2.o _ Sw) ?_;rintro e w3 ⟨rfl,WM⟩;have hbox3:=(WM.cell (p:=⟨w,4,none⟩) Sw).trans Sw;have V6:=Below.trans Sw (WM.mono (jD Sw));have ld:=Od Sw WM.size))
       all_goals
        go_wp2;go_roundw
        case rel=>exact⟨k+1,Zo,Zn,by assumption,by assumption,by assumption,fun j hj=>by by_cases H7:j<k;exact N_.o j H7;rw[show j=k by omega];exact HF.o⟩
        case measure=>simp[intOf];omega
     ·have hnk:nk=[]:=List.isEmpty_iff.1 WA;have e1:(str nk).toList=[]:=(mF _).2 hnk;have e2:(str nk).toList.isEmpty=true:=by rw[GR];exact WA
      have HF:Hid (sameKey R ⟨kd,p,n,q,nm,ss⟩ k=false):=by show _=_;rw[HSK.o,WA];rfl
      clear WA hnk;go_wp2;go_quiet (fail)
      go_wp2;go_roundw
      case rel=>exact⟨k+1,Zo,Zn,below_drewN WO _,T8,AQ,fun j hj=>by by_cases H7:j<k;exact N_.o j H7;rw[show j=k by omega];exact HF.o⟩
      case measure=>simp[intOf];omega
    ·have HF:Hid (jn=0):=by
      show _=_;rw[HJ2.o,Z3];rw[List.any_eq_true];rintro⟨j,hj,hj2⟩;rw[N_.o j (by simp at hj;omega)]at hj2;cases hj2
     go_wp2;go_ret;exact⟨dr HF.o.symm,WO⟩
 ·have HF:Hid (jn=9):=by show _=_;rw[HJ.o,hj];rfl
  rw[hj]at CJ;clear hj HJ;go_enter func133,ntmps133;go_wp2_with (first|(go_at_call 80;refine(CJ.o _ (Z' _ _)).mono ?_;rintro e w1 ⟨rfl,rfl⟩))
  go_ret;exact⟨dr HF.o.symm,Z' _ _⟩
def Pp(p:Nat)(R:Room)(k:Nat):ZH p R (k+1)=if((ZH p R k).2.sub k p).there then((ZH p R k).1++[⟨2,p,k,0,0⟩],(ZH p R k).2.ZO k p UW)else ZH p R k:=rfl
def Pq(p:Nat)(R:Room)(k:Nat):ZB R p (k+1)=if(R.src k).there&&decide ((R.src k).own=p)then((ZB R p k).1++(gone (ZB R p k).2 k).1,(gone (ZB R p k).2 k).2)else ZB R p k:=rfl
def Oq(R:Room)(n:Nat):(gone R n).1.length≤18:=by
 unfold gone;dsimp only;rw[Ll];have:=OW R n;omega
def P5(p:Nat)(R:Room):∀k,(ZH p R k).1.length≤k
 | 0=>Zq _
 | k+1=>by
  rw[Pp];have:=P5 p R k;split
  ·simp;omega
  ·omega
def NL(p:Nat)(R:Room):∀k,(ZB R p k).1.length≤k*18
 | 0=>Zq _
 | k+1=>by
  rw[Pq];have:=NL p R k;have:=Oq (ZB R p k).2 k;split
  ·simp;omega
  ·omega
def Ec(R:Room)(p:Nat)(s:List UInt8):(R.setName p s).names p=s:=by simp[Room.setName]
def ZQ.setName{w:World}{b:Nat}{R:Room}(h:ZQ w b R){p:Nat}(hp:p<9)(s:List UInt8):ZQ (w.setCell ⟨b,p,none⟩ (.string (str s))) b (R.setName p s):=by
 refine h.set Zo (fun j hj=>?_) h.rows;unfold Wy;by_cases h1:j<9
 ·rw[ZU h1,ZU h1];by_cases h2:j=p
  ·subst h2;rw[ZU rfl,Ec]
  ·rw[Z3 h2];simp[Room.setName,h2]
 ·rw[Z3 h1,Z3 h1,Z3 (by omega:¬j=p)];rfl
def pY(b:Nat)(R:Room)(p:Nat)(w:World)(hR:ZQ w b R)(hp:p<9) :
  Calls prog 136 (Qk (some ⟨b,0,none⟩) p) w fun e w'=>(∃v,e = .returned v∧Yx w' v (leave R p).1)∧ZQ w' b (leave R p).2∧Fr w (· = b) w w':=by
 have hb:=hR.lt;have HL0:Hid (leave R p=((ZH p R 9).1++(ZB (ZH p R 9).2 p 9).1,(ZB (ZH p R 9).2 p 9).2.setName p [])):=rfl;have HR:=Zh hR;clear hR;go_enter func136,ntmps136;go_wp2;go_loopw [5,9] (fun v i w'=>∃k:Nat,k≤9∧i = .int .i64 k∧Fr w (· = b) w w'∧ZQ w' b (ZH p R k).2∧w'.ownsRow w 158 5 v (ZH p R k).1.length ((ZH p R k).1.flatMap Z7)) (fun _ i _=>9-(intOf i).toNat)
 case atStart=>exact⟨0,Zo,rfl,Fr.refl _ _ _,HR.o,TH _ _ _ _⟩
 case round=>
  obtain⟨k,hk,rfl,Wb,Xh,Yy⟩:=hrel;have TN:=Zh Wb;have Xr:=Zh Xh;have Yd:=Zh Yy;clear Wb Xh Yy;by_cases Uu:k<9
  ·have HS:=Zh (Pp p R k);have zV:=P5 p R k;have CE:=Zh (Ay b (ZH p R k).2 p k wr Xr.o Uu hp);obtain⟨c0,c1,c2⟩:=Xr.o.Ge Uu hp;clear c1 c2;generalize ZH p R k=G at *;cases ht:(G.2.sub k p).there
   ·rw[ht]at c0;have HF:Hid (ZH p R (k+1)=G):=by show _=_;rw[HS.o,ht];rfl
    clear ht;go_wp2;go_roundw
    case rel=>exact⟨k+1,Zo,Zn,TN.o,by rw[HF.o];exact Xr.o,by rw[HF.o];exact Yd.o⟩
    case measure=>simp[intOf];omega
   ·rw[ht]at c0;have HF:Hid (ZH p R (k+1)=(G.1++[⟨2,p,k,0,0⟩],G.2.ZO k p UW)):=by show _=_;rw[HS.o,ht];rfl
    clear ht;go_wp2_with (first|(go_at_call 139;refine CE.o.mono ?_;rintro e w2 ⟨rfl,PW,RD⟩;have Lb:=Zh PW;have TG:=Zh RD;clear PW RD)|(at_builtin;refine YN rfl (.tmp 21) (.tmp 26) 98 rfl w Xt _ G.1.length (G.1.flatMap Z7) rfl ?a1 _ 1 ([⟨2,p,k,0,0⟩].flatMap Z7) rfl ?a2 rfl ?a4 ?a5 ?a6 ?a7 (fun v' w3 HO HG=>?_)))
    case a1=>exact(V_ Yd.o TG.o (fun k hk=>by omega)).alloc _
    case a2=>exact Yn _ _ 1 _ ([⟨2,p,k,0,0⟩].flatMap Z7) Zd rfl
    case a4=>exact XT _
    case a5=>omega
    case a6=>omega
    case a7=>have h1:=TN.o.size;have h2:=TG.o.size;simp;omega
    go_roundw
    case rel=>
     have h1:=TN.o.size;have h2:=TG.o.size;have RF:=(V_ Yd.o TG.o (fun k hk=>by omega)).alloc (.cells ([⟨2,p,k,0,0⟩].flatMap Z7).toArray 158);have WO:=Z' w2 (.cells ([⟨2,p,k,0,0⟩].flatMap Z7).toArray 158);refine⟨k+1,Zo,Zn,?_,?_,?_⟩
     ·exact jt
     ·rw[HF.o];exact ZQ.grown (Lb.o.below WO) RF HG.o hb Zd
     ·rw[HF.o];dsimp only;rw[UC,O7];exact HO.o
    case measure=>simp[intOf];omega
  ·obtain rfl:k=9:=by omega
   have zV:=P5 p R 9;have q9:Hid (∀k,ZB (ZH p R 9).2 p (k+1)=if((ZH p R 9).2.src k).there&&decide (((ZH p R 9).2.src k).own=p)then((ZB (ZH p R 9).2 p k).1++(gone (ZB (ZH p R 9).2 p k).2 k).1,(gone (ZB (ZH p R 9).2 p k).2 k).2)else ZB (ZH p R 9).2 p k):=fun k=>Pq p _ k
   have HLL:Hid (∀k,(ZB (ZH p R 9).2 p k).1.length≤k*18):=fun k=>NL p _ k
   have sN:Hid (ZB (ZH p R 9).2 p 0=([],(ZH p R 9).2)):=rfl;generalize ZH p R 9=X at *
   have Tx:∀j,j<(VL X.2).size→wr.cell? ⟨b,9+j,none⟩=(VL X.2)[j]?:=by
    intro j hj;rw[Q_]at hj;rw[Xr.o.cell Zo,LF X.2 j hj]
   have Um:(prog.info? 146).map (·.size)=some (VL X.2).size:=by rw[Q_];kernel_rfl
   have HP:Hid (∀n:Nat,n<9→∀w,(Instr.index 146 (.agg (VL X.2)) (.int .i64 (n:Int))).run prog w = .ok (.agg (Jp (X.2.src n).there (X.2.src n).num (X.2.src n).own (X.2.src n).sv (X.2.src n).ZJ)) w):=
    fun n hn w=>LZ w 146 145 9 (VL X.2) n 5 _ underlying146 hn underlying145 rfl X6 _ (KP X.2 n hn)
   have ru:Hid (∀n,n<9→∃a c,(X.2.src n).sv = .slice a (X.2.src n).ss.length c):=fun n hn=>by
    obtain⟨a,c,h,_⟩:=Xr.o.rows n hn;exact⟨a,c,h⟩
   generalize VL X.2=CS at *;obtain⟨wo,rfl⟩:∃wo:World,wo=wr:=⟨_,rfl⟩;go_wp2_with (refine Sp rfl 146 (.tmp 31) rfl b 9 rfl CS (.array 9 145) Tx underlying146 rfl Um ?_)
   clear Tx Um;go_loopw [5,33] (fun v i w'=>∃k:Nat,k≤9∧i = .int .i64 k∧Fr w (· = b) w w'∧ZQ w' b (ZB X.2 p k).2∧w'.ownsRow w 158 5 v (X.1++(ZB X.2 p k).1).length ((X.1++(ZB X.2 p k).1).flatMap Z7)) (fun _ i _=>9-(intOf i).toNat)
   case atStart=>exact⟨0,Zo,rfl,TN.o,by rw[sN.o];exact Xr.o,by rw[sN.o,rC];exact Yd.o⟩
   case round=>
    obtain⟨k,hk,rfl,Wb,Xh,Yy⟩:=hrel;clear TN Xr Yd sN;have TN:=Zh Wb;have Xr:=Zh Xh;have Yd:=Zh Yy;clear Wb Xh Yy;by_cases Uu:k<9
    ·have HS:=Zh (q9.o k);have HGL2:=HLL.o k;have HGN:=Oq (ZB X.2 p k).2 k;have fJ:=HP.o k Uu;have T8:=TN.o.size;have CG:=Zh (fun w1 (h:Below wr wr w1)=>Fj b (ZB X.2 p k).2 k w1 (Xr.o.below h) Uu);obtain⟨sa,sc,Ki⟩:=ru.o k Uu;rw[Ki]at fJ;clear Ki;generalize ZB X.2 p k=G at *;generalize(X.2.src k).num=u1 at *;generalize(X.2.src k).ZJ=u4 at *;generalize(X.2.src k).ss.length=ul at *;cases ht:(X.2.src k).there
     ·have HF:Hid (ZB X.2 p (k+1)=G):=by show _=_;rw[HS.o,ht];rfl
      rw[ht]at fJ;clear ht;exact aV
     ·by_cases ho:(X.2.src k).own=p
      ·have HF:Hid (ZB X.2 p (k+1)=(G.1++(gone G.2 k).1,(gone G.2 k).2)):=by show _=_;rw[HS.o,ht,ho];simp
       rw[ht,ho]at fJ;clear ht ho;generalize gone G.2 k=Y at *;go_wp2_with (first|(go_at_call 137;refine(CG.o _ (Z' _ _)).mono ?_;rintro e w2 ⟨⟨tv,rfl,Sz⟩,PW,RD⟩;have Ew:=Zh Sz;have Lb:=Zh PW;have TG:=Zh RD;clear PW RD Sz)|(at_builtin;refine YN rfl (.tmp 46) (.tmp 49) 98 rfl w Xt _ (X.1++G.1).length ((X.1++G.1).flatMap Z7) rfl ?b1 _ Y.1.length (Y.1.flatMap Z7) rfl ?b2 ?b3 ?b4 ?b5 ?b6 ?b7 (fun v' w3 HO HG=>?_)))
       case b1=>exact V_ (Yd.o.alloc _) TG.o (fun k hk=>by omega)
       case b2=>exact Ew.o
       case b3=>exact Vo _
       case b4=>exact XT _
       case b5=>simp;omega
       case b6=>simp;omega
       case b7=>have h2:=TG.o.size;simp at h2;omega
       go_roundw
       case rel=>
        have h2:=TG.o.size;simp at h2;refine⟨k+1,Zo,Zn,?_,?_,?_⟩
        ·have h3:=(TN.o.alloc T8 _).trans (TG.o.mono TY (fun _ _ h=>h));exact h3.grown HG.o Zo (YG Yd.o)
        ·rw[HF.o];exact ZQ.grown Lb.o (V_ (Yd.o.alloc _) TG.o (fun k hk=>by omega)) HG.o hb Zd
        ·rw[HF.o];dsimp only;rw[←bF,UC,O7];exact HO.o
       case measure=>simp[intOf];omega
      ·have HF:Hid (ZB X.2 p (k+1)=G):=by show _=_;rw[HS.o,ht];simp[ho]
       have rO:((X.2.src k).own==(p:Int))=false:=by rw[Wz];exact ho
       rw[ht]at fJ;clear ht ho;generalize(X.2.src k).own=u2 at *;exact aV
    ·obtain rfl:k=9:=by omega
     have c0:=Xr.o.r8 hp;have f0:=Xr.o.Yv p;clear HP q9 HLL;generalize ZB X.2 p 9=G at *;go_wp2;go_ret;rw[HL0.o];exact⟨⟨_,rfl,(Row.Z4 Yd.o).fr ((Fr.refl wr (· = b) wr).setAt _ _) (Zq _) (Xr.o.EA Zd)⟩,Xr.o.setName hp [],TN.o.setAt _ _⟩
