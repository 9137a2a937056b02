/- Part of a proof. -/
import Derived.Test.YtpdjhlcbcomdkaaGreatDoorChecked
import Derived.Test.YtpdjhlcbcomdkaaGreatDoorT04
set_option linter.unusedVariables false
set_option linter.unusedSimpArgs false
set_option maxRecDepth 100000
set_option maxHeartbeats 16000000
open Go Go.Q Go.Proofs.Tryz
namespace Go.Proofs.By
open Go.RowKit Go.Proofs.Heap
theorem mK{b:List UInt8}(h:(looks b).2=0):12≤b.length∧b.length≤512∧12≤(looks b).1.1∧(looks b).1.1≤(looks b).1.2.1∧(looks b).1.2.1≤(looks b).1.2.2∧(looks b).1.2.2≤b.length:=by
 unfold looks at h ⊢;by_cases h1:512<b.length
 ·rw[ZU h1]at h;cases h
 rw[Z3 h1]at h ⊢;by_cases h2:b.length<12
 ·rw[ZU h2]at h;cases h
 rw[Z3 h2]at h ⊢;by_cases h3:at8 b 0/64≠2
 ·rw[ZU h3]at h;cases h
 rw[Z3 h3]at h ⊢;by_cases h4:192≤at8 b 1∧at8 b 1≤223
 ·rw[ZU h4]at h;cases h
 rw[Z3 h4]at h ⊢;dsimp only at h ⊢
 have hE:(Vp b (12+4*(at8 b 0%16))).2=true→12≤(Vp b (12+4*(at8 b 0%16))).1.1∧(Vp b (12+4*(at8 b 0%16))).1.1≤(Vp b (12+4*(at8 b 0%16))).1.2∧(Vp b (12+4*(at8 b 0%16))).1.2≤b.length:=by
  unfold Vp;by_cases g:at8 b 0/16%2=0
  ·rw[ZU g];intro h;have h:=of_decide_eq_true h;exact⟨Nat.le_add_right _ _,Zw _,h⟩
  ·rw[Z3 g];intro h;have h:=(UW _ _).mp h;have h:=of_decide_eq_true h.2;exact⟨by show 12≤12+4*(at8 b 0%16)+4;omega,Nat.le_add_right _ _,h⟩
 generalize Vp b (12+4*(at8 b 0%16))=x at *
 by_cases h5:x.2=false
 ·rw[ZU h5]at h;cases h
 rw[Z3 h5]at h ⊢;obtain⟨e1,e2,e3⟩:=hE (by simpa using h5)
 have hP:(RU b (b.drop x.1.2)).2=true→(RU b (b.drop x.1.2)).1≤b.length-x.1.2:=by
  unfold RU;by_cases g:at8 b 0/32%2=0
  ·rw[ZU g];intro _;exact TH _
  rw[Z3 g];by_cases g2:(b.drop x.1.2).length=0
  ·rw[ZU g2];intro h;cases h
  rw[Z3 g2];dsimp only;by_cases g3:at8 (b.drop x.1.2) ((b.drop x.1.2).length-1)=0∨(b.drop x.1.2).length<at8 (b.drop x.1.2) ((b.drop x.1.2).length-1)
  ·rw[ZU g3];intro h;cases h
  rw[Z3 g3];have hl:(b.drop x.1.2).length=b.length-x.1.2:=Ra;split
  ·intro _;show at8 _ _≤_;omega
  ·intro h;cases h
 generalize RU b (b.drop x.1.2)=y at *
 by_cases h6:y.2=false
 ·rw[ZU h6]at h;cases h
 rw[Z3 h6];have:=hP (by simpa using h6);exact⟨Zo,Zo,e1,e2,by show x.1.2≤b.length-y.1;omega,by show b.length-y.1≤b.length;omega⟩
theorem ZX{w:World}{g:Nat}{o:Obj}(h:w.heap[g]?=some o):g<w.heap.size:=by
 rcases Nat.lt_or_ge g w with h1|h1
 ·exact h1
 ·rw[D_ h1]at h;cases h
theorem VH{w:World}{g:Nat}{c:Array Value}{t:TypeId}{f:Nat×Nat}(h:w.heap[g]?=some (.cells c t f))(o:Nat)(u:Value):(w.setCell ⟨g,o,none⟩ u).heap[g]?=some (.cells (c.setIfInBounds o u) t f):=by
 simp[World.setCell,Array.getElem?_modify,h]
theorem Ti(w:World)(g:Nat)(c:Array Value):Fr w (· = g) w (w.setRow g c):=
 ⟨rfl,rfl,rfl,by simp[World.setRow],fun k _ hk=>setRow_other w g k _ (fun e=>hk e)⟩
theorem Row.setRow{w:World}{e:TypeId}{v:Value}{n:Nat}{xs:List Value}(h:Row w e v n xs){g:Nat}{c:Array Value}{t:TypeId}{f:Nat×Nat}(hg:w.heap[g]?=some (.cells c t f))(WN:e≠t)(c':Array Value):Row (w.setRow g c') e v n xs:=
 h.fr (Ti w g c') (Zw _) (fun k _ _ hk=>by have hk:k=g:=hk;rw[hk,hg];intro h;injection h with h;injection h with _ h;exact WN h.symm)
def zpkt:List Value:=Yz3
structure PK(w w':World)(s p:Nat)(sh cs:List Value):Prop where
 Zf:Below w w w'
 res:w'.heap[w.heap.size]?=some (.cells zpkt.toArray 79)
 shp:w'.heap[s]?=some (.cells sh.toArray 238)
 Y8:w'.heap[p]?=some (.cells cs.toArray 79)
 lt:w.heap.size<s∧s<p
theorem PK.qD{w w':World}{s p:Nat}{sh cs:List Value}(h:PK w w' s p sh cs):p<w'.heap.size:=ZX h.Y8
theorem PK.cell{w w':World}{s p:Nat}{sh cs:List Value}(h:PK w w' s p sh cs)(j:Nat):w'.cell? ⟨p,j,none⟩=cs[j]?:=by
 rw[cell_of h.Y8 j];exact SN
theorem PK.frozen{w w':World}{s p:Nat}{sh cs:List Value}(h:PK w w' s p sh cs)(j:Nat):w'.frozen? ⟨p,j,none⟩=false:=ZP h.Y8 j
theorem PK.QT{w w':World}{s p:Nat}{sh cs:List Value}(h:PK w w' s p sh cs)(j:Nat):w'.cell? ⟨s,j,none⟩=sh[j]?:=by
 rw[cell_of h.shp j];exact SN
theorem PK.drew{w w':World}{s p:Nat}{sh cs:List Value}(h:PK w w' s p sh cs):PK w w'.drew s p sh cs:=⟨h.Zf.drew,h.res,h.shp,h.Y8,h.lt⟩
theorem PK.below{w w1 w':World}{s p:Nat}{sh cs:List Value}(h:PK w w1 s p sh cs)(hb:Below w1 w1 w'):PK w w' s p sh cs:=by
 have hk:=h.qD;have hl:=h.lt;refine⟨h.Zf.trans (hb.mono Zo),?_,?_,?_,hl⟩
 ·rw[hb.block _ Zo];exact h.res
 ·rw[hb.block _ Zo];exact h.shp
 ·rw[hb.block _ Zo];exact h.Y8
theorem PK.set{w w':World}{s p:Nat}{sh cs:List Value}(h:PK w w' s p sh cs)(j:Nat)(u:Value):PK w (w'.setCell ⟨p,j,none⟩ u) s p sh (cs.set j u):=by
 have hl:=h.lt;refine⟨h.Zf.setCell (p:=⟨p,j,none⟩) (by show w.heap.size≤p;omega) u,?_,?_,?_,hl⟩
 ·rw[Mg _ _ _ _ (by show w.heap.size≠p;omega)];exact h.res
 ·rw[Mg _ _ _ _ (by show s≠p;omega)];exact h.shp
 ·rw[VH h.Y8 j u];simp
theorem PK.grown{w w1 w':World}{s p:Nat}{sh cs:List Value}(h:PK w w1 s p sh cs){row:Option Nat}(hg:w1.grownBy w' row)(hr:∀j,row=some j→p<j):PK w w' s p sh cs:=by
 have hk:=h.qD;have hl:=h.lt;refine⟨h.Zf.trans ⟨hg.os,hg.tape,hg.output,hg.size,fun i hi=>hg.block i Zo (fun e=>by have:=hr i e.symm;omega)⟩,?_,?_,?_,hl⟩
 ·rw[hg.block _ Zo (fun e=>by have:=hr _ e.symm;omega)];exact h.res
 ·rw[hg.block _ Zo (fun e=>by have:=hr _ e.symm;omega)];exact h.shp
 ·rw[hg.block _ hk (fun e=>by have:=hr _ e.symm;omega)];exact h.Y8
theorem PK.row{w w':World}{s p:Nat}{sh cs:List Value}(h:PK w w' s p sh cs)(cs':List Value):PK w (w'.setRow (p) cs'.toArray) s p sh cs':=by
 have hl:=h.lt;have hf:=Ti w' (p) cs'.toArray;have hk:=h.qD;refine⟨h.Zf.trans (Fr.below (hf.mono (show w.heap.size≤w'.heap.size by omega) (fun j hj hs=>by have hs:j=p:=hs;omega))),?_,?_,setRow_heap _ _ _ _ _ _ h.Y8,hl⟩
 ·rw[hf.block _ Zo (fun hs=>by have hs:w.heap.size=p:=hs;omega)];exact h.res
 ·rw[hf.block _ Zo (fun hs=>by have hs:s=p:=hs;omega)];exact h.shp
structure PL(w w':World)(s p:Nat)(sh cs:List Value)(cv:Value)(j:Nat)(xs:List Value):Prop where
 pk:PK w w' s p sh cs
 own:w'.ownsRow (p+1) 66 1 cv j xs
theorem PL.grown{w w1 w':World}{s p:Nat}{sh cs:List Value}{cv:Value}{j:Nat}{xs:List Value}(h:PL w w1 s p sh cs cv j xs)(hg:w1.grownBy w' cv.ownBlock):PK w w' s p sh cs:=
 h.pk.grown hg (fun i hi=>by have:=KP h.own i hi;omega)
structure PR(w w':World)(s p:Nat)(sh cs:List Value)(cv ev pv:Value)(xs:List Int)(es ps:List UInt8):Prop where
 pk:PK w w' s p sh cs
 csr:Row w' 66 cv xs.length (YN xs)
 exr:Row w' 5 ev es.length (Rx es)
 pyl:Row w' 5 pv ps.length (Rx ps)
theorem PR.below{w w1 w':World}{s p:Nat}{sh cs:List Value}{cv ev pv:Value}{xs:List Int}{es ps:List UInt8}(h:PR w w1 s p sh cs cv ev pv xs es ps)(hb:Below w1 w1 w'):PR w w' s p sh cs cv ev pv xs es ps:=
 ⟨h.pk.below hb,h.csr.below hb,h.exr.below hb,h.pyl.below hb⟩
theorem PR.drew{w w1:World}{s p:Nat}{sh cs:List Value}{cv ev pv:Value}{xs:List Int}{es ps:List UInt8}(h:PR w w1 s p sh cs cv ev pv xs es ps):PR w w1.drew s p sh cs cv ev pv xs es ps:=
 h.below (YI _ _).drew
theorem PR.set{w w1:World}{s p:Nat}{sh cs:List Value}{cv ev pv:Value}{xs:List Int}{es ps:List UInt8}(h:PR w w1 s p sh cs cv ev pv xs es ps)(j:Nat)(u:Value):PR w (w1.setCell ⟨p,j,none⟩ u) s p sh (cs.set j u) cv ev pv xs es ps:=
 ⟨h.pk.set j u,h.csr.setCell (p:=⟨p,j,none⟩) h.pk.Y8 Zd u,h.exr.setCell (p:=⟨p,j,none⟩) h.pk.Y8 Zd u,h.pyl.setCell (p:=⟨p,j,none⟩) h.pk.Y8 Zd u⟩
open Go.Proofs.Rm (Room YF VI of YW Y_ WG Zp)
def W8(p s:Int):Int:=if VI p 9&&VI s 9 then 3221225472+(256*p+s)else 0
def U'(x:Int):Int×Int×Bool:=
 if VI ((x+1073741824)%4294967296/256) 9&&VI ((x+1073741824)%4294967296%256) 9 then((x+1073741824)%4294967296/256,(x+1073741824)%4294967296%256,true)else(0,0,false)
theorem Xl{n m:Int}:VI n m=true↔1≤n∧n<m:=by unfold VI;simp
theorem DU{x p s:Int}(h0:0≤x)(h1:x<4294967296):(VI p 9=true∧VI s 9=true∧W8 p s=x)↔U' x=(p,s,true):=by
 unfold U' W8;constructor
 ·rintro⟨h2,h3,h4⟩;rw[h2,h3]at h4;have h4:3221225472+(256*p+s)=x:=by simpa using h4
  rw[Xl]at h2 h3;have e1:(x+1073741824)%4294967296/256=p:=by omega
  have e2:(x+1073741824)%4294967296%256=s:=by omega
  rw[e1,e2,Xl.2 h2,Xl.2 h3];rfl
 ·intro h;split at h
  ·rename_i hc
   injection h with h2 h3
   injection h3 with h3 _
   rw[h2,h3,UW]at hc;rw[hc.1,hc.2];rw[Xl,Xl]at hc;refine⟨rfl,rfl,?_⟩;show(if true&&true then _ else _)=x;simp only[Bool.and_self,if_true];omega
  ·injection h with _ h;injection h with _ h;cases h
def owned(R:Room)(peer x:Int):Bool:=(of R x).2.2&&decide ((R.src (of R x).1.toNat).own=peer)
def UA(R:Room)(peer x:Int):Bool:=(U' x).2.2&&decide ((U' x).1=peer)&&Zp R peer (U' x).2.1
def uf(e:Int):Int:=if e=0 then 0 else 1
def Za(peer:Int):List Int→Room→(List YF×Room)×Int
 | [],R=>(([],R),0)
 | x :: l,R=>
  (((YW R peer x).1.1++(Za peer l (YW R peer x).1.2).1.1,(Za peer l (YW R peer x).1.2).1.2),uf (YW R peer x).2+(Za peer l (YW R peer x).1.2).2)
theorem N0(peer x:Int):∀(l:List Int) (R:Room),
  Za peer (l++[x]) R=(((Za peer l R).1.1++(YW (Za peer l R).1.2 peer x).1.1,(YW (Za peer l R).1.2 peer x).1.2),(Za peer l R).2+uf (YW (Za peer l R).1.2 peer x).2)
 | [],R=>by simp only[Za,Hz,rW,Int.add_zero,Int.zero_add]
 | y :: l,R=>by
  have ih:=N0 peer x l (YW R peer y).1.2;rw[List.cons_append];unfold Za;rw[ih];simp only[cL,Int.add_assoc]
def Yh(R:Room)(peer:Int)(i:Ru):(List YF×Room)×Int:=
 if i.kind=200 then(([],R),if owned R peer i.Yl then 0 else 1)
 else if i.kind=205∨i.kind=206 then(([],R),if UA R peer i.XT then 0 else 1)
 else if i.kind=203 then Za peer i.gone R
 else(([],R),0)
def ZA(peer:Int):List Ru→Room→(List YF×Room)×Int
 | [],R=>(([],R),0)
 | x :: l,R=>(((Yh R peer x).1.1++(ZA peer l (Yh R peer x).1.2).1.1,(ZA peer l (Yh R peer x).1.2).1.2),(Yh R peer x).2+(ZA peer l (Yh R peer x).1.2).2)
theorem N8(peer:Int)(x:Ru):∀(l:List Ru) (R:Room),
  ZA peer (l++[x]) R=(((ZA peer l R).1.1++(Yh (ZA peer l R).1.2 peer x).1.1,(Yh (ZA peer l R).1.2 peer x).1.2),(ZA peer l R).2+(Yh (ZA peer l R).1.2 peer x).2)
 | [],R=>by simp only[ZA,Hz,rW,Int.add_zero,Int.zero_add]
 | y :: l,R=>by
  have ih:=N8 peer x l (Yh R peer y).1.2;rw[List.cons_append];unfold ZA;rw[ih];simp only[cL,Int.add_assoc]
structure EJ where
 kind:Int
 source:Int
 NH:Int
 err:Int
deriving DecidableEq
structure Taken where
 XX:EJ
 XQ:J4
 Wx:EK
 items:List Ru
 turns:List YF
 unknown:Int
def UD:Taken:=⟨⟨0,0,0,0⟩,WR,Tn,[],[],0⟩
def Yi(kind err:Int):Taken:={UD with XX:=⟨kind,0,0,err⟩}
def VW(R:Room)(ep peer:Int)(p:J4)(d:EK):Taken:=
 if owned R peer p.Yl&&decide ((of R p.Yl).2.1=d.ZI)then{UD with XX:=⟨1,(of R p.Yl).1,ep,0⟩,XQ:=p,Wx:=d}else Yi 5 0
def Uq(ep:Int)(l:List Ru)(ts:List YF)(u:Int):Taken:={UD with XX:=⟨2,0,ep,0⟩,items:=l,turns:=ts,unknown:=u}
def YJ(R:Room)(ep peer:Int)(b:List UInt8):(Taken×Room)×Int:=
 if(XY b).2≠0 then((Yi 3 (XY b).2,R),ep)
 else if !Y_ R peer then((Yi 4 0,R),ep)
 else match(XY b).1 with
  | .XT p d=>((VW R ep peer p d,R),ep)
  | .Yb l=>((Uq (ep+1) l (ZA peer l R).1.1 (ZA peer l R).2,(ZA peer l R).1.2),ep+1)
  | .none=>((Uq (ep+1) [] [] 0,R),ep+1)
def take(R:Room)(ep:Int)(o:Rm.Op)(b:List UInt8)(sv:Value):(Taken×Room)×Int:=
 if o.kind=1 then YJ R ep o.peer b
 else if(WG R o sv).2≠0 then((Yi 6 (WG R o sv).2,R),ep)
 else((Uq (ep+1) [] (WG R o sv).1.1 0,(WG R o sv).1.2),ep+1)
end Go.Proofs.By
namespace Go.Proofs.Mem
open Go.RowKit Go.Lib
def str(l:List UInt8):ByteArray:=⟨l.toArray⟩
theorem Nc(l:List UInt8):(str l).size=l.length:=by simp[str,ByteArray.size]
theorem bn(s:ByteArray):str s.data.toList=s:=by cases s;rfl
theorem foldl_push(ns:List UInt8):∀s:ByteArray,(ns.map fun b=>((b.toNat:Nat):Int)).foldl (fun r n=>r.push (UInt8.ofNat n.toNat)) s=⟨(s.data.toList++ns).toArray⟩:=by
 induction ns with
 | nil=>intro s;simp
 | cons b t ih=>
  intro s;rw[List.map_cons,List.foldl_cons,ih]
  congr 1
  simp[ByteArray.push]
def Mm(w:World)(b off:Nat)(m:List UInt8):Prop:=
 ∀j,j<m.length→w.cell? ⟨b,off+j,none⟩=some (.int .u8 (m.getD j 0).toNat)∧w.frozen? ⟨b,off+j,none⟩=false
theorem EB{P:Program}{w:World}{b off c:Nat}{m:List UInt8}(src dst e:TypeId)(h:Mm w b off m)
  (hs:P.underlying src=some (.slice e)) (he:P.underlying e=some (.int .u8)) (hd:P.underlying dst=some .string) :
  (convert src dst (.slice (some ⟨b,off,none⟩) m.length c)).run P w = .ok (.string (str m)) w:=by
 rw[run_convert_bytes_string w src dst e _ _ _ hs he hd]
 have hl:(loadCells ⟨b,off,none⟩ m.length).run P w = .ok ((m.map fun b=>((b.toNat:Nat):Int)).map (Value.int .u8)).toArray w:=by
  have:=run_loadCells_list (P:=P) (w:=w) ⟨b,off,none⟩ ((m.map fun b=>((b.toNat:Nat):Int)).map (Value.int .u8)) (by
   intro j v hv
   have hj:j<m.length:=by
    have:=(List.getElem?_eq_some_iff.1 hv).1;simpa using this
   have:=(h j hj).1;simp only[List.getElem?_map,Ve hj,Option.map_some]at hv;rw[Q_,Ve hj]at this;cases hv;unfold Addr.add;by_cases h0:j=0
   ·subst h0;simpa using this
   ·rw[Z3 h0];exact this)
  simpa using this
 rw[run_bytesToString w _ _ _ _ hl,foldl_push];rfl
theorem iA{w:World}{b off:Nat}{m:List UInt8}(h:Mm w b off m){i:Nat}(x:UInt8) :
  Mm (w.setCell ⟨b,off+i,none⟩ (.int .u8 x.toNat)) b off (m.set i x):=by
 intro j hj;rw[List.length_set]at hj;obtain⟨h1,h2⟩:=h j hj;by_cases hij:i=j
 ·subst hij;refine⟨?_,by rw[World.frozen?_setCell];exact h2⟩;rw[Q_,List.getElem?_set_self hj,nZ _ _ _ h1];rfl
 ·refine⟨?_,by rw[World.frozen?_setCell];exact h2⟩;rw[Q_,List.getElem?_set_ne hij,World.cell?_setCell_other _ _ _ _ (by intro e;injection e;omega),h1,Q_]
theorem K5(w:World)(e:TypeId)(s:ByteArray):Mm (bytesWorld w e s) w 0 s.data.toList:=by
 intro j hj;rw[PW];rw[←Lib.size_eq]at hj;refine⟨bytesWorld_cell w e s j hj,?_⟩;simp only[World.frozen?,bytesWorld_at_new,bytesCells];simp;intro h;have:s.data.size=s.size:=rfl;omega
theorem xQ(w:World)(e:TypeId)(s:ByteArray):Below w w (bytesWorld w e s):=
 ⟨rfl,rfl,rfl,by rw[bytesWorld_size];omega,fun k hk=>bytesWorld_at_old w e s k hk⟩
end Go.Proofs.Mem
namespace Go.Proofs.tQ
open Go
section
variable {P:Program}
theorem ED(w:World)(g off:Nat)(ty:TypeId)(cs:Array Value)(d:TypeDesc)(hc:∀j,j<cs.size→w.cell? ⟨g,off+j,none⟩=cs[j]?)
  (hu:P.underlying ty=some d) (hd:(match d with | .struct _ | .array _ _=>true|_=>false)=true) (hi:(P.info? ty).map (·.size)=some cs.size) :
  (loadVar ty ⟨g,off,none⟩).run P w = .ok (.agg cs) w:=by
 have hl:(loadCells ⟨g,off,none⟩ cs.toList.length).run P w = .ok cs.toList.toArray w:=
  run_loadCells_list (P:=P) w ⟨g,off,none⟩ cs.toList (fun j v hv=>by
   have hj:j<cs.size:=by
    have:=(List.getElem?_eq_some_iff.1 hv).1;simpa using this
   have MT:(⟨g,off,none⟩:Addr).add j=⟨g,off+j,none⟩:=by unfold Addr.add;split <;> simp_all
   rw[MT,hc j hj]
   simpa using hv)
 cases hq:P.info? ty with
 | none=>simp[hq]at hi
 | some i=>
  have hs:i.size=cs.size:=by simpa[hq]using hi
  have gD:(isAgg ty).run P w = .ok true w:=by
   unfold isAgg;rw[Sem.run_bind,run_underlying hu w];cases d <;> simp_all
  simp only[Array.length_toList,Array.toArray_toList]at hl;simp[loadVar,Sem.run_bind,gD,sizeOf,typeInfo,hq,hs,hl]
theorem BO{o:Oper}{a:Act}{w:World}{K:Act→World→Prop}{Q:Exit→Act→World→Prop}(ty:TypeId)(x:Operand)(ho:o.op = .load ty x)
  (g off:Nat) (hx:a.eval x = .pointer (some ⟨g,off,none⟩)) (cs:Array Value) (d:TypeDesc) (hc:∀j,j<cs.size→w.cell? ⟨g,off+j,none⟩=cs[j]?)
  (hu:P.underlying ty=some d) (hd:(match d with | .struct _ | .array _ _=>true|_=>false)=true) (hi:(P.info? ty).map (·.size)=some cs.size)
  (h:K (a.put o.dst (.agg cs)) w):o.wp P a w K Q:=by
 unfold Oper.wp execOp;simp only[ho,hx,Instr.loadAt,Instr.sureAddr,Sem.run_bind,Sem.run_pure,Result.andThen_ok,ED w g off ty cs d hc hu hd hi];exact h
theorem SM{ops:Array Oper}{rest:List Oper}{o:Oper}{a:Act}{w:World}{Q:Exit→Act→World→Prop}(LH:o.guard=none)(ty:TypeId)(x:Operand)(ho:o.op = .load ty x)
  (g off:Nat) (hx:a.eval x = .pointer (some ⟨g,off,none⟩)) (cs:Array Value) (d:TypeDesc) (hc:∀j,j<cs.size→w.cell? ⟨g,off+j,none⟩=cs[j]?)
  (hu:P.underlying ty=some d) (hd:(match d with | .struct _ | .array _ _=>true|_=>false)=true) (hi:(P.info? ty).map (·.size)=some cs.size)
  (h:wpList P ops Q rest (a.put o.dst (.agg cs)) w):wpList P ops Q (o :: rest) a w:=
 wpList_plain LH fun _ hK=>BO ty x ho g off hx cs d hc hu hd hi (hK _ _ h)
theorem Mb(w:World)(t e:TypeId)(n:Nat)(cs:Array Value)(i sz:Nat)(d:TypeDesc)(h:P.underlying t=some (.array n e))(hi:i<n)
  (hu:P.underlying e=some d) (hd:(match d with | .struct _ | .array _ _=>true|_=>false)=true) (hs:(P.info? e).map (·.size)=some sz) (ys:Array Value) (hy:cs.extract (i*sz) (i*sz+sz)=ys) :
  (Instr.index t (.agg cs) (.int .i64 (i:Int))).run P w = .ok (.agg ys) w:=by
 cases hq:P.info? e with
 | none=>simp[hq]at hs
 | some q=>
  have dO:q.size=sz:=by simpa[hq]using hs
  have gD:(isAgg e).run P w = .ok true w:=by
   unfold isAgg;rw[Sem.run_bind,run_underlying hu w];cases d <;> simp_all
  exact cE
theorem Gi(w:World)(t e:TypeId)(n:Nat)(cs:Array Value)(i:Nat)(d:TypeDesc)(h:P.underlying t=some (.array n e))(hi:i<n)
  (hu:P.underlying e=some d) (hd:(match d with | .struct _ | .array _ _=>true|_=>false)=false) (hs:(P.info? e).map (·.size)=some 1) (y:Value) (hy:cs[i]?=some y) :
  (Instr.index t (.agg cs) (.int .i64 (i:Int))).run P w = .ok y w:=by
 cases hq:P.info? e with
 | none=>simp[hq]at hs
 | some q=>
  have dO:q.size=1:=by simpa[hq]using hs
  have gD:(isAgg e).run P w = .ok false w:=by
   unfold isAgg;rw[Sem.run_bind,run_underlying hu w];cases d <;> simp_all
  exact cE
end
end Go.Proofs.tQ
namespace Go.Proofs.Rm
open Go.RowKit Go.Proofs.Heap Go.Proofs.Mem
def MD(s:Src)(i:Nat):Value:=
 if i=0 then .bool s.there else if i=1 then .int .i64 s.num else if i=2 then .int .i64 s.own else if i=3 then s.sv else .bool s.ZN
def Tb(x:Sub)(i:Nat):Value:=
 if i=0 then .bool x.there else if i=1 then .bool x.ZV else .int .i64 x.want
def WK(R:Room)(j:Nat):Value:=
 if j<9 then .string (str (R.names j))else if j<54 then MD (R.src ((j-9)/5)) ((j-9)%5)
 else Tb (R.sub ((j-54)/27) ((j-54)%27/3)) ((j-54)%3)
def YN(l:List Int):List Value:=l.map (Value.int .u32)
structure ZR(w:World)(b:Nat)(R:Room):Prop where
 cells:∃c,w.heap[b]?=some (.cells c 152)∧c.size=297∧∀j,j<297→c[j]?=some (WK R j)
 rows:∀n,n<9→Row w 66 (R.src n).sv (R.src n).ss.length (YN (R.src n).ss)
theorem ZR.lt{w:World}{b:Nat}{R:Room}(h:ZR w b R):b<w.heap.size:=by
 obtain⟨c,hc,_⟩:=h.cells;rcases Nat.lt_or_ge b w with h|h
 ·exact h
 ·rw[D_ h]at hc;cases hc
theorem ZR.cell{w:World}{b:Nat}{R:Room}(h:ZR w b R){j:Nat}(hj:j<297):w.cell? ⟨b,j,none⟩=some (WK R j):=by
 obtain⟨c,hc,_,Uz⟩:=h.cells;simp only[World.cell?,hc];exact Uz j hj
theorem ZR.YB{w:World}{b:Nat}{R:Room}(h:ZR w b R)(j:Nat):w.frozen? ⟨b,j,none⟩=false:=by
 obtain⟨c,hc,_,_⟩:=h.cells;simp[World.frozen?,hc]
theorem ZR.fr{B:Nat}{S:Nat→Prop}{w w':World}{b:Nat}{R:Room}(h:ZR w b R)(hf:Fr B S w w')(hB:w.heap.size≤B)(hb:¬S b)(hS:∀k c fr,S k→w.heap[k]?≠some (.cells c 66 fr)):ZR w' b R:=by
 have OT:=h.lt;obtain⟨c,hc,hs,Uz⟩:=h.cells;exact⟨⟨c,by rw[hf.block b Zo hb];exact hc,hs,Uz⟩,fun n hn=>(h.rows n hn).fr hf hB hS⟩
theorem ZR.below{w w':World}{b:Nat}{R:Room}(h:ZR w b R)(hb:Below w w w'):ZR w' b R:=
 h.fr (Fr.Z6 Pz hb) (Zw _) (fun x=>x) (fun _ _ _ h=>h.elim)
theorem ZR.other{w:World}{b:Nat}{R:Room}(h:ZR w b R):∀k c fr,k=b→w.heap[k]?≠some (.cells c 66 fr):=by
 intro k c fr hk e;subst hk;obtain⟨c',hc,_,_⟩:=h.cells;rw[hc]at e;injection e with e
 injection e with _ e _
 exact absurd e Zd
theorem ZR.set{w:World}{b:Nat}{R R':Room}(h:ZR w b R){i:Nat}{v:Value}(hi:i<297)(hv:∀j,j<297→WK R' j=if j=i then v else WK R j)
  (hr:∀n,n<9→Row w 66 (R'.src n).sv (R'.src n).ss.length (YN (R'.src n).ss)):ZR (w.setCell ⟨b,i,none⟩ v) b R':=by
 have ho:=h.other;obtain⟨c,hc,hs,Uz⟩:=h.cells;refine⟨⟨c.setIfInBounds i v,?_,by rw[Array.size_setIfInBounds];exact hs,fun j hj=>?_⟩,fun n hn=>?_⟩
 ·simp[World.setCell,Array.getElem?_modify,hc]
 ·rw[hv j hj,Array.getElem?_setIfInBounds];by_cases hij:i=j
  ·subst hij;rw[ZU rfl,ZU rfl,ZU Zo]
  ·rw[Z3 hij,Z3 (fun e=>hij e.symm)];exact Uz j hj
 ·exact(hr n hn).fr ((Fr.refl w (· = b) w).setCell (WB rfl) v) (Zw _) ho
theorem vq(R:Room){n p i:Nat}(hn:n<9)(hp:p<9)(hi:i<3):WK R (54+n*27+p*3+i)=Tb (R.sub n p) i:=by
 unfold WK;rw[Z3 Zo,Z3 Zo,show(54+n*27+p*3+i-54)/27=n by omega,show(54+n*27+p*3+i-54)%27/3=p by omega,show(54+n*27+p*3+i-54)%3=i by omega]
theorem JJ(R:Room){n i:Nat}(hn:n<9)(hi:i<5):WK R (9+n*5+i)=MD (R.src n) i:=by
 unfold WK;rw[Z3 Zo,ZU Zo,show(9+n*5+i-9)/5=n by omega,show(9+n*5+i-9)%5=i by omega]
theorem ZR.Gr{w:World}{b:Nat}{R:Room}(h:ZR w b R){n p:Nat}(hn:n<9)(hp:p<9) :
  w.cell? ⟨b,54+n*27+p*3,none⟩=some (.bool (R.sub n p).there)∧w.cell? ⟨b,54+n*27+p*3+1,none⟩=some (.bool (R.sub n p).ZV)∧w.cell? ⟨b,54+n*27+p*3+2,none⟩=some (.int .i64 (R.sub n p).want):=
 ⟨by rw[h.cell Zo];exact congrArg some (vq R (i:=0) hn hp Zo),by rw[h.cell Zo,vq R hn hp Zo];rfl,by rw[h.cell Zo,vq R hn hp Zo];rfl⟩
theorem ZR.Ml{w:World}{b:Nat}{R:Room}(h:ZR w b R){n:Nat}(hn:n<9) :
  w.cell? ⟨b,9+n*5,none⟩=some (.bool (R.src n).there)∧w.cell? ⟨b,9+n*5+1,none⟩=some (.int .i64 (R.src n).num)∧w.cell? ⟨b,9+n*5+2,none⟩=some (.int .i64 (R.src n).own)∧w.cell? ⟨b,9+n*5+3,none⟩=some (R.src n).sv∧w.cell? ⟨b,9+n*5+4,none⟩=some (.bool (R.src n).ZN):=
 ⟨by rw[h.cell Zo];exact congrArg some (JJ R (i:=0) hn Zo),by rw[h.cell Zo,JJ R hn Zo];rfl,by rw[h.cell Zo,JJ R hn Zo];rfl,by rw[h.cell Zo,JJ R hn Zo];rfl,by rw[h.cell Zo,JJ R hn Zo];rfl⟩
theorem ZR.sO{w:World}{b:Nat}{R:Room}(h:ZR w b R){p:Nat}(hp:p<9):w.cell? ⟨b,p,none⟩=some (.string (str (R.names p))):=by
 rw[h.cell Zo];unfold WK;rw[ZU hp]
theorem V_(R:Room)(n p:Nat)(x:Sub):(R.ZQ n p x).sub n p=x:=by simp[Room.ZQ]
theorem Mc(R:Room)(n p:Nat)(x y:Sub):(R.ZQ n p x).ZQ n p y=R.ZQ n p y:=by
 unfold Room.ZQ
 congr 1
 funext m q;dsimp only;split <;> rfl
theorem ZR.SH{w:World}{b:Nat}{R:Room}(h:ZR w b R){n p i:Nat}(hn:n<9)(hp:p<9)(hi:i<3){x:Sub}{v:Value}(hx:∀j,j<3→Tb x j=if j=i then v else Tb (R.sub n p) j) :
  ZR (w.setCell ⟨b,54+n*27+p*3+i,none⟩ v) b (R.ZQ n p x):=by
 refine h.set Zo (fun j hj=>?_) h.rows;by_cases h1:j<54
 ·unfold WK;rw[Z3 (by omega:¬j=54+n*27+p*3+i)];by_cases h2:j<9
  ·rw[ZU h2,ZU h2];rfl
  ·rw[Z3 h2,Z3 h2,ZU h1,ZU h1];rfl
 ·unfold WK;rw[Z3 (by omega:¬j<9),Z3 h1,Z3 (by omega:¬j<9),Z3 h1];by_cases h3:(j-54)/27=n∧(j-54)%27/3=p
  ·have e:(R.ZQ n p x).sub ((j-54)/27) ((j-54)%27/3)=x:=by simp[Room.ZQ,h3]
   rw[e,h3.1,h3.2,hx _ Zo];have:((j-54)%3=i)↔(j=54+n*27+p*3+i):=by omega
   by_cases h4:(j-54)%3=i
   ·rw[ZU h4,ZU (this.1 h4)]
   ·rw[Z3 h4,Z3 (fun e=>h4 (this.2 e))]
  ·have e:(R.ZQ n p x).sub ((j-54)/27) ((j-54)%27/3)=R.sub ((j-54)/27) ((j-54)%27/3):=by simp[Room.ZQ,h3]
   rw[e,Z3 Zo]
theorem ZR.ZQ{w:World}{b:Nat}{R:Room}(h:ZR w b R){n p:Nat}(hn:n<9)(hp:p<9)(x:Sub) :
  ZR (((w.setCell ⟨b,54+n*27+p*3,none⟩ (.bool x.there)).setCell ⟨b,54+n*27+p*3+1,none⟩ (.bool x.ZV)).setCell ⟨b,54+n*27+p*3+2,none⟩ (.int .i64 x.want)) b (R.ZQ n p x):=by
 have h1:=h.SH hn hp (i:=0) Zo (x:={R.sub n p with there:=x.there}) (v:= .bool x.there) (by intro j hj;unfold Tb;by_cases h0:j=0 <;> simp[h0])
 have h2:=h1.SH hn hp (i:=1) Zo (x:={R.sub n p with there:=x.there,ZV:=x.ZV}) (v:= .bool x.ZV) (by
  intro j hj;rw[V_];unfold Tb;by_cases h0:j=0 <;> by_cases h1:j=1 <;> simp[h0,h1])
 have h3:=h2.SH hn hp (i:=2) Zo (x:=x) (v:= .int .i64 x.want) (by
  intro j hj;rw[V_];unfold Tb;by_cases h0:j=0 <;> by_cases h1:j=1 <;> simp[h0,h1];omega)
 rw[Mc,Mc]at h3;exact h3
theorem VU(l:List Int):(YN l).length=l.length:=Tx _
theorem QY(l:List Int):∀u∈YN l,u.oneCell'=true:=by
 intro u hu;obtain⟨x,_,rfl⟩:=wI.1 hu;rfl
theorem Nh{w:World}{v:Value}{l:List Int}(h:Row w 66 v l.length (YN l))(hl:0<l.length):∃g off cap,v = .slice (some ⟨g,off,none⟩) l.length cap∧l.length≤cap∧cap≤maxLen∧g<w.heap.size ∧
  ∀j,j<l.length→w.cell? ⟨g,off+j,none⟩=some (.int .u32 (l.getD j 0)):=by
 exact bV
theorem Pj{w:World}{v:Value}{l:List Int}(h:XM w v l.length (YN l))(hl:0<l.length):∃g off cap,v = .slice (some ⟨g,off,none⟩) l.length cap∧l.length≤cap∧cap≤maxLen∧g<w.heap.size ∧
  ∀j,j<l.length→w.cell? ⟨g,off+j,none⟩=some (.int .u32 (l.getD j 0)):=by
 exact bV
theorem W9:Elem prog 72 3 1 8:=⟨underlying72,⟨.int .i64 0,by kernel_rfl,rfl⟩,by decide⟩
theorem Vo:Elem prog 29 66 1 4:=⟨underlying29,⟨.int .u32 0,by kernel_rfl,rfl⟩,by decide⟩
theorem Xy:Elem prog 98 158 5 40:=⟨underlying98,⟨.agg (Qh 0 0 0 0 0),by kernel_rfl,rfl⟩,by decide⟩
def Z7(t:YF):List Value:=(Qh t.kind t.peer t.source t.ZI t.Yl)
def VZ(t:YF):Value:= .agg (Qh t.kind t.peer t.source t.ZI t.Yl)
abbrev YD(w:World)(v:Value)(l:List YF):Prop:=Row w 158 v l.length (l.flatMap Z7)
def ints(l:List Nat):List Value:=l.map fun(n:Nat)=>Value.int .i64 (n:Int)
theorem K5(w:World)(e:TypeId)(n:Nat)(xs:List Value)(hn:n≤maxLen):Row (w.alloc (.cells xs.toArray e)) e (.slice (some ⟨w,0,none⟩) n n) n xs:=
 ⟨_,n,rfl,Zw _,hn,(fun h=>by cases h),WB ⟨_,0,xs.toArray,(0,0),rfl,(by show(w.heap.push _)[w.heap.size]?=_;simp),fun j _=>by simp⟩⟩
theorem Yw(w:World)(e:TypeId)(n m:Nat)(xs:List Value)(hn:n≤maxLen)(hm:m=w.heap.size):Row (w.alloc (.cells xs.toArray e)) e (.slice (some ⟨m,0,none⟩) n n) n xs:=by
 subst hm;exact K5 w e n xs hn
end Go.Proofs.Rm
namespace Go.Proofs.By
open Go.RowKit Go.Proofs.Heap
open Go.Proofs.Rm (YD YF Room ZR YN Z7)
theorem Row.wJ{B:Nat}{S:Nat→Prop}{w w':World}{e:TypeId}{v:Value}{n:Nat}{xs:List Value}(h:Row w e v n xs)(hf:Fr B S w w')(hB:w.heap.size≤B)(hS:∀k c fr,S k→w.heap[k]?≠some (.cells c e fr)):Row w' e v n xs:=h.fr hf hB hS
structure RF where
 i:Ru
 bv:Value
 gv:Value
 pv:Value
def YU(x:RF):List Value:=[.int .i64 x.i.kind,.int .u32 x.i.Yl,.int .u64 x.i.Ep,.int .u32 x.i.time,.int .u32 x.i.Wk,.int .u32 x.i.octets,x.bv,x.gv,.int .u32 x.i.XT,x.pv]
structure Ue(w:World)(x:RF):Prop where
 b:Row w 228 x.bv x.i.blocks.length (x.i.blocks.flatMap W_)
 g:Row w 66 x.gv x.i.gone.length (YN x.i.gone)
 p:Row w 226 x.pv x.i.Xo.length (x.i.Xo.flatMap Wb)
structure LZ(w:World)(v:Value)(L:List RF):Prop where
 row:Row w 173 v L.length (L.flatMap YU)
 each:∀x∈L,Ue w x
def YH(w:World)(v:Value)(l:List Ru):Prop:=∃L:List RF,l=L.map (·.i)∧LZ w v L
theorem Ue.below{w w':World}{x:RF}(h:Ue w x)(hb:Below w w w'):Ue w' x:=⟨h.b.below hb,h.g.below hb,h.p.below hb⟩
theorem YH.below{w w':World}{v:Value}{l:List Ru}(h:YH w v l)(hb:Below w w w'):YH w' v l:=by
 obtain⟨L,h1,h2,h3⟩:=h;exact⟨L,h1,h2.below hb,fun x hx=>(h3 x hx).below hb⟩
theorem YH.nil(w:World):YH w (.slice none 0 0) []:=⟨[],rfl,Row.nil _ _,fun _ h=>by cases h⟩
def JX(w:World)(S:Nat→Prop):Prop:=∀k,S k→∃c t fr,w.heap[k]?=some (.cells c t fr)∧t≠228∧t≠66∧t≠226∧t≠173∧t≠5∧t≠158∧t≠32
theorem JX.ne{w:World}{S:Nat→Prop}(h:JX w S){e:TypeId}(he:e=228∨e=66∨e=226∨e=173∨e=5∨e=158∨e=32):∀k c fr,S k→w.heap[k]?≠some (.cells c e fr):=by
 intro k c fr hk hc;obtain⟨c',t,fr',h1,h2⟩:=h k hk;rw[h1]at hc;injection hc with hc
 injection hc with _ hc
 subst hc;obtain⟨q1,q2,q3,q4,q5,q6,q7⟩:=h2;rcases he with h|h|h|h|h|h|h
 ·exact q1 h
 ·exact q2 h
 ·exact q3 h
 ·exact q4 h
 ·exact q5 h
 ·exact q6 h
 ·exact q7 h
theorem YH.fr{w w':World}{v:Value}{l:List Ru}{S:Nat→Prop}(h:YH w v l)(hf:Fr w S w w')(hS:JX w S):YH w' v l:=by
 obtain⟨L,h1,h2,h3⟩:=h;exact⟨L,h1,Row.fr h2 hf (Zw _) (hS.ne Zi),fun x hx=>⟨Row.fr (h3 x hx).b hf (Zw _) (hS.ne Zi),Row.fr (h3 x hx).g hf (Zw _) (hS.ne Zi),Row.fr (h3 x hx).p hf (Zw _) (hS.ne Zi)⟩⟩
theorem Row.form{w:World}{e:TypeId}{v:Value}{n:Nat}{xs:List Value}(h:Row w e v n xs):∃a c,v = .slice a n c:=by
 obtain⟨a,c,h,_⟩:=h;exact⟨a,c,h⟩
theorem YH.form{w:World}{v:Value}{l:List Ru}(h:YH w v l):∃a c,v = .slice a l.length c:=by
 obtain⟨L,h1,h2,_⟩:=h;obtain⟨a,c,h⟩:=Row.form h2;exact⟨a,c,by rw[h,h1,Tx]⟩
def VJ(p:J4)(d:EK)(cv ev pv:Value):List Value:=[.bool p.Xw,.int .i64 p.type,.int .u16 p.seq,.int .u32 p.time,.int .u32 p.Yl,cv,.bool p.Xv,.int .u16 p.X9,ev,pv,.int .i64 p.pad,.int .i64 d.ZI,.bool d.key,.bool d.start,.int .u16 d.frame]
structure Vy(w:World)(p:J4)(cv ev pv:Value):Prop where
 c:Row w 66 cv p.VF.length (YN p.VF)
 e:Row w 5 ev p.ext.length (Rx p.ext)
 p:Row w 5 pv p.ZE.length (Rx p.ZE)
theorem Vy.below{w w':World}{p:J4}{cv ev pv:Value}(h:Vy w p cv ev pv)(hb:Below w w w'):Vy w' p cv ev pv:=⟨h.c.below hb,h.e.below hb,h.p.below hb⟩
theorem Vy.fr{w w':World}{p:J4}{cv ev pv:Value}{S:Nat→Prop}(h:Vy w p cv ev pv)(hf:Fr w S w w')(hS:JX w S):Vy w' p cv ev pv:=
 ⟨Row.fr h.c hf (Zw _) (hS.ne Zi),Row.fr h.e hf (Zw _) (hS.ne Zi),Row.fr h.p hf (Zw _) (hS.ne Zi)⟩
theorem Vy.nil(w:World):Vy w WR (.slice none 0 0) (.slice none 0 0) (.slice none 0 0):=⟨Row.nil _ _,Row.nil _ _,Row.nil _ _⟩
theorem Vy.form{w:World}{p:J4}{cv ev pv:Value}(h:Vy w p cv ev pv):(∃a c,cv = .slice a p.VF.length c)∧(∃a c,ev = .slice a p.ext.length c)∧(∃a c,pv = .slice a p.ZE.length c):=⟨Row.form h.c,Row.form h.e,Row.form h.p⟩
def tC(w:World)(v:Value):Ev→Prop
 | .none=>v = .nilIface
 | .XT p d=>∃cv ev pv,v = .iface 97 (.agg (VJ p d cv ev pv).toArray)∧Vy w p cv ev pv
 | .Yb l=>∃iv,v = .iface 213 (.agg #[iv])∧YH w iv l
theorem tC.below{w w':World}{v:Value}{e:Ev}(h:tC w v e)(hb:Below w w w'):tC w' v e:=by
 cases e with
 | none=>exact h
 | XT p d=>obtain⟨cv,ev,pv,h1,h2⟩:=h;exact⟨cv,ev,pv,h1,h2.below hb⟩
 | Yb l=>obtain⟨iv,h1,h2⟩:=h;exact⟨iv,h1,h2.below hb⟩
def tj(T:Taken)(cv ev pv iv tv:Value):List Value:=[.int .i64 T.XX.kind,.int .i64 T.XX.source,.int .i64 T.XX.NH,.int .i64 T.XX.err]++VJ T.XQ T.Wx cv ev pv++[iv,tv,.int .i64 T.unknown]
structure Ye(w:World)(cs:List Value)(T:Taken):Prop where
 ex:∃cv ev pv iv tv,cs=tj T cv ev pv iv tv∧Vy w T.XQ cv ev pv∧YH w iv T.items∧YD w tv T.turns
theorem Ye.size{w:World}{cs:List Value}{T:Taken}(h:Ye w cs T):cs.length=22:=by
 obtain⟨cv,ev,pv,iv,tv,rfl,_⟩:=h.ex;rfl
theorem Ye.one{w:World}{cs:List Value}{T:Taken}(h:Ye w cs T):cs.toArray.all (·.oneCell')=true:=by
 obtain⟨cv,ev,pv,iv,tv,rfl,h1,h2,h3⟩:=h.ex;obtain⟨⟨_,_,rfl⟩,⟨_,_,rfl⟩,⟨_,_,rfl⟩⟩:=h1.form;obtain⟨_,_,rfl⟩:=h2.form;obtain⟨_,_,rfl⟩:=Row.form h3;kernel_rfl
theorem Ye.below{w w':World}{cs:List Value}{T:Taken}(h:Ye w cs T)(hb:Below w w w'):Ye w' cs T:=by
 obtain⟨cv,ev,pv,iv,tv,h1,h2,h3,h4⟩:=h.ex;exact⟨cv,ev,pv,iv,tv,h1,h2.below hb,h3.below hb,h4.below hb⟩
theorem Ye.fr{w w':World}{cs:List Value}{T:Taken}{S:Nat→Prop}(h:Ye w cs T)(hf:Fr w S w w')(hS:JX w S):Ye w' cs T:=by
 obtain⟨cv,ev,pv,iv,tv,h1,h2,h3,h4⟩:=h.ex;exact⟨cv,ev,pv,iv,tv,h1,h2.fr hf hS,h3.fr hf hS,Row.fr h4 hf (Zw _) (hS.ne Zi)⟩
theorem Ye.refused(w:World)(k e:Int):Ye w (tj (Yi k e) (.slice none 0 0) (.slice none 0 0) (.slice none 0 0) (.slice none 0 0) (.slice none 0 0)) (Yi k e):=
 ⟨_,_,_,_,_,rfl,Vy.nil w,YH.nil w,Row.nil _ _⟩
structure X8(w:World)(g b:Nat)(R:Room)(ep:Int):Prop where
 Y8:w.heap[g]?=some (.cells (Qj (some ⟨b,0,none⟩) ep) 131 (0,0))
 room:ZR w b R
theorem X8.cells{w:World}{g b:Nat}{R:Room}{ep:Int}(h:X8 w g b R ep):w.cell? ⟨g,0,none⟩=some (.pointer (some ⟨b,0,none⟩))∧w.cell? ⟨g,1,none⟩=some (.int .i64 ep)∧w.frozen? ⟨g,1,none⟩=false∧g<w.heap.size:=
 ⟨cell_of h.Y8 0,cell_of h.Y8 1,ZP h.Y8 1,ZX h.Y8⟩
theorem X8.below{w w':World}{g b:Nat}{R:Room}{ep:Int}(h:X8 w g b R ep)(hb:Below w w w'):X8 w' g b R ep:=⟨by rw[hb.block g (ZX h.Y8)];exact h.Y8,h.room.below hb⟩
theorem X8.apart{w:World}{g b:Nat}{R:Room}{ep:Int}(h:X8 w g b R ep):JX w (fun k=>k=b∨k=g):=by
 rintro k (rfl|rfl)
 ·obtain⟨c,hc,_,_⟩:=h.room.cells;exact⟨c,_,_,hc,by decide,by decide,by decide,by decide,by decide,by decide,by decide⟩
 ·exact⟨_,_,_,h.Y8,by decide,by decide,by decide,by decide,by decide,by decide,by decide⟩
def Et(n:Nat):Int×Int:=(((n/65536:Nat):Int),((n%65536:Nat):Int))
theorem zg(v:Value)(b:List UInt8)(k:Nat)(w:World)(hv:X5 w v b)(h4:b.length%4=0)(hb:b.length≤1000)(TW:12≤b.length)(hk:k≠203)(Bb:k<256) :
  Calls prog 172 #[v,.int .i64 (k:Int)] w fun e w'=>(∃a,e = .returned a∧S4 w' a (parts b k))∧Below w w w':=by
 have HV:Hid (∀w',Below w w w'→X5 w' v b):=fun w' h=>hv.below h
 have hlen:=hv.len;obtain⟨a,c,rfl,RV,-⟩:=id hv;obtain⟨m,hm⟩:∃m,b.length=12+4*m:=⟨(b.length-12)/4,Zo⟩
 have HW:Hid (∀j,j<m→((XR b 12).take (j+1)).map Et=((XR b 12).take j).map Et++[Et (get b (12+4*(j:Int)) 4)]):=fun j hj=>by
  rw[Dg b 12 j Zo,Nv,sP];rfl
 have jT:Hid ((XR b 12).length=m):=by show _=_;rw[FO];omega
 have HWT:Hid (∀j,j≤m→(((XR b 12).take j).map Et).length=j):=fun j hj=>by rw[Tx,SY,jT.o];omega
 have HE:Hid (parts b k={XP with kind:=k,Yl:=get b 4 4,XT:=get b 8 4,Xo:=(XR b 12).map Et}):=by show _=_;unfold parts;rw[Z3 hk];rfl
 have Li:get b 4 4<4294967296:=U7 b 4 4 4 Zd;have hx8:get b 8 4<4294967296:=U7 b 8 4 4 Zd;have C4:=Zh (PC _ b 4 ((w.alloc (.cells (Vt 0 0 0 (.slice none 0 0) (.slice none 0 0)) 173)).alloc (.cells (Vt k 0 0 (.slice none 0 0) (.slice none 0 0)) 173)) (HV.o _ (PB.start w k 0 0).Zf));have C8:=Zh (PC _ b 8 ((w.alloc (.cells (Vt 0 0 0 (.slice none 0 0) (.slice none 0 0)) 173)).alloc (.cells (Vt k 0 0 (.slice none 0 0) (.slice none 0 0)) 173)) (HV.o _ (PB.start w k 0 0).Zf));have bk:((k:Int)==203)=false:=by rw[WM];omega
 have bk2:((k:Int)!=203)=true:=by rw[RH];omega
 have CN:Hid (∀w' (j:Nat),Below w w w'→Calls prog 183 (Q9 a b.length c (12+4*(j:Int))) w' fun e w1=>e = .returned (.int .u32 (get b (12+4*(j:Int)) 4:Nat))∧w'=w1):=fun w' j h=>PC _ b _ w' (HV.o w' h)
 have Ap:=Zh (PB.start w k (get b 4 4:Nat) (get b 8 4:Nat));clear hv HV;rw[hm];rw[hm]at CN C4 C8;have ag:m≤250:=by omega
 generalize parts b k=X at *
 generalize get b 4 4=s4 at *
 generalize get b 8 4=s8 at *
 clear hm hlen h4 hb TW RV hk;go_enter func172,ntmps172;go_wp2_with fail
 refine C4.o.mono ?_;rintro e w' ⟨rfl,rfl⟩;go_wp2_with fail
 refine C8.o.mono ?_;rintro e w' ⟨rfl,rfl⟩;go_wp2_with fail
 go_loopw [6] (fun i w'=>∃(j:Nat) (pv:Value),j≤m∧i = .int .i64 (12+4*(j:Int))∧PB w w' k s4 s8 (.slice none 0 0) pv∧w'.ownsRow (w.heap.size+2) 226 2 pv j ((((XR b 12).take j).map Et).flatMap Wb)) (fun i _=>12+4*m-(intOf i).toNat)
 case atStart=>exact⟨0,.slice none 0 0,TH _,rfl,Ap.o,TV _ _ _ _⟩
 case round=>
  clear Ap;obtain⟨j,gv,hj,rfl,Db,YG⟩:=hrel;have Rg:=Zh Db;have Yk:=Zh YG;have Uk:=Db.size;have c9:wr.cell? ⟨w.heap.size+1,9,none⟩=some gv:=Db.cell 9;clear Db YG;by_cases yB:j<m
  ·have CN1:=Zh (CN.o wr j Rg.o.Zf);have xE:=Zh (HW.o j yB);have hn:get b (12+4*(j:Int)) 4<4294967296:=U7 b _ 4 4 Zd;generalize get b (12+4*(j:Int)) 4=n at *
   have Hd:Hid (Wb (Et n)=(Qy ((n:Int)/65536) (IntKind.u16.wrap (n:Int)))):=by
    show _=_;have h1:IntKind.u16.wrap (n:Int)=((n%65536:Nat):Int):=by simp[IntKind.wrap,IntKind.bits,IntKind.signed]
    rw[h1];show[Value.int .u16 ((n/65536:Nat):Int),Value.int .u16 ((n%65536:Nat):Int)]=_;rw[Int.natCast_ediv];rfl
   go_wp2_with (first|(go_at_call 183;refine CN1.o.mono ?_;rintro e w' ⟨rfl,rfl⟩)|(at_builtin;refine YO rfl (.tmp 36) (.tmp 43) 171 rfl (w.heap.size+2) Kj gv j _ rfl (Yk.o.alloc _) _ 1 (Qy ((n:Int)/65536) (IntKind.u16.wrap (n:Int))) rfl (VA wr 226 1 (Qy ((n:Int)/65536) (IntKind.u16.wrap (n:Int))) Zd) rfl (by intro u hu;simp at hu;rcases hu with rfl|rfl <;> rfl) Zo Zo Uf (fun v' w5 HO HG=>?_);have Aq:=Zh ((Rg.o.below (Z' wr (.cells (Qy ((n:Int)/65536) (IntKind.u16.wrap (n:Int))) 226))).grown HG.o (KP Yk.o));have Ip:=Aq.o.size;have f9:=Aq.o.frozen 9;have c95:w5.cell? ⟨w.heap.size+1,9,none⟩=some gv:=Aq.o.cell 9;obtain⟨va,vc,mn,-,-⟩:=Row.Z4 HO.o;subst mn))
   go_roundw
   case rel=>exact⟨j+1,_,Zo,Zn,Aq.o.setP _,by rw[xE.o];exact U_ (by have:=HO.o;rw[←Hd.o]at this;rw[OD];exact this) Zo _⟩
   case measure=>simp[intOf];omega
  ·obtain rfl:j=m:=by omega
   have ZW:=Row.Z4 Yk.o;obtain⟨va,vc,rfl,-,-⟩:=id ZW;have e0:=Rg.o.cell 0;have e1:=Rg.o.cell 1;have e2:=Rg.o.cell 2;have e3:=Rg.o.cell 3;have e4:=Rg.o.cell 4;have e5:=Rg.o.cell 5;have e6:=Rg.o.cell 6;have e7:=Rg.o.cell 7;have e8:=Rg.o.cell 8;simp only[Vt,SN,Sy,R4]at e0 e1 e2 e3 e4 e5 e6 e7 e8;have Vc:=Zh ZW;have g0:=fun k=>Rg.o.frozen0 k
   have g00:=g0 0;have z0:=Rg.o.cell0 0;have g10:=g0 1;have z1:=Rg.o.cell0 1;have g20:=g0 2;have z2:=Rg.o.cell0 2;have g30:=g0 3;have z3:=Rg.o.cell0 3;have g40:=g0 4;have z4:=Rg.o.cell0 4;have g50:=g0 5;have z5:=Rg.o.cell0 5;have g60:=g0 6;have z6:=Rg.o.cell0 6;have g70:=g0 7;have z7:=Rg.o.cell0 7;have g80:=g0 8;have z8:=Rg.o.cell0 8;have g90:=g0 9;have z9:=Rg.o.cell0 9;simp only[Vt,SN,Sy,R4]at z0 z1 z2 z3 z4 z5 z6 z7 z8 z9;clear ZW g0;have HT:Hid ((XR b 12).take j=XR b 12):=EM (by rw[jT.o];exact Zw _);have Ak:Hid (((XR b 12).map Et).length=j):=by show _=_;rw[Tx];exact jT.o
   have HK:Hid (∀w',Fr wr (· = w.heap.size) wr w'→(Row w' 226 (.slice va j vc) j ((((XR b 12).take j).map Et).flatMap Wb)∧Below w w w')):=fun w' hf=>
    ⟨Vc.o.fr hf (Zw _) (fun k c' fr hk e=>by subst hk;rw[Rg.o.ub]at e;injection e with e;injection e with _ e _;exact absurd e Zd),Rg.o.Zf.trans (Fr.below (hf.mono (iO (Nat.lt_trans (Nat.lt_succ_self _) Uk)) (fun k hk hs=>by have hs:k=w.heap.size:=hs;omega)))⟩
   go_wp2;refine VD (v:= .agg (Qe k s4 0 0 0 0 none 0 0 none 0 0 s8 va j vc)) (by simp[results,results172,go_sem,z0,z1,z2,z3,z4,z5,z6,z7,z8,z9]) rfl ⟨⟨_,rfl,?_⟩,?_⟩
   ·have h:=HK.o _ (f_ wr w (.int .i64 k) (.int .u32 s4) (.int .u64 0) (.int .u32 0) (.int .u32 0) (.int .u32 0) (.slice none 0 0) (.slice none 0 0) (.int .u32 s8) (.slice va j vc));rw[HT.o]at h;refine⟨.slice none 0 0,.slice none 0 0,.slice va j vc,by rw[HE.o];rfl,by rw[HE.o];exact Row.nil _ _,by rw[HE.o];exact Row.nil _ _,?_⟩;rw[HE.o];show Row _ _ _ ((XR b 12).map Et).length _;rw[Ak.o]
    with_reducible exact h.1
   ·have h:=HK.o _ (f_ wr w (.int .i64 k) (.int .u32 s4) (.int .u64 0) (.int .u32 0) (.int .u32 0) (.int .u32 0) (.slice none 0 0) (.slice none 0 0) (.int .u32 s8) (.slice va j vc))
    with_reducible exact h.2
end Go.Proofs.By
namespace Go.Proofs.By
open Go.RowKit Go.Proofs.Heap
theorem EA(v:Value)(b:List UInt8)(w:World)(hv:X5 w v b)(h0:(right b).2≠0) :
  Calls prog 170 #[v] w fun e w'=>(∃a,e = .returned (.tuple #[a,.int .i64 (XV b).1.2,.int .i64 (XV b).2])∧S4 w' a (XV b).1.1)∧Below w w w':=by
 have HX:Hid (XV b=((XP,0),(right b).2)):=by show _=_;unfold XV;rw[ZU h0]
 have C:=fun w1 h=>DD v b w1 (hv.below (h:Below w w w1))
 have HC:=Zh C;obtain⟨a,c,rfl,RV,-⟩:=id hv;clear C hv;have bl:((right b).2 !=0)=true:=by rw[RH];exact h0
 have bl2:((right b).2==0)=false:=by rw[WM];exact h0
 generalize XV b=X at *
 generalize right b=Y at *
 go_enter func170,ntmps170;go_wp2_with fail
 refine(HC.o _ (Z' _ _)).mono ?_;rintro e w2 ⟨rfl,Zb⟩;have y0:=Zb.block w AB;rw[Z9]at y0;have zz:w.heap.size+1≤w2.heap.size:=by have h:=Zb.size;have h:(w.heap.push _).size≤w2.heap.size:=h;rw[Ou]at h;exact h
 have z1:=cell_of y0 0;have z2:=cell_of y0 1;have z3:=cell_of y0 2;have z4:=cell_of y0 3;have z5:=cell_of y0 4;have z6:=cell_of y0 5;have z7:=cell_of y0 6;have z8:=cell_of y0 7;have z9:=cell_of y0 8;have nO:=cell_of y0 9;simp only[SN,Sy,R4]at z1 z2 z3 z4 z5 z6 z7 z8 z9 nO;have Il:=fun(R:World→Prop) (h:R w2)=>(by rw[setRow_self _ _ _ _ _ y0];exact h:R (w2.setRow w Ya))
 have HS:=Zh Il;clear Il HC;go_wp2_with (with_reducible refine ZT 173 (.tmp 2) (.tmp 14) rfl ?_;go_loud (refine Zs y0 ?_;refine HS.o _ ?_))
 refine VD (v:= .tuple (Qq Ya 0 Y.2)) (by simp[results,results170,go_sem,z1,z2,z3,z4,z5,z6,z7,z8,z9,nO]) rfl ⟨⟨_,by rw[HX.o];rfl,?_⟩,?_⟩
 ·exact⟨.slice none 0 0,.slice none 0 0,.slice none 0 0,by rw[HX.o];rfl,by rw[HX.o];exact Row.nil _ _,by rw[HX.o];exact Row.nil _ _,by rw[HX.o];exact Row.nil _ _⟩
 ·have h5:=Zb.mono (show w.heap.size≤(w.heap.push _).size by rw[Ou];exact J_ _);exact(Z' w _).trans h5
structure RB(w w':World)(k:Nat)(v:Value)(p:Nat)(cs:List Value):Prop where
 Zf:Below w w w'
 Y8:w'.heap[w.heap.size]?=some (.cells cs.toArray 173)
 iP:TJ w' k v p
 lt:w.heap.size<k
theorem RB.qD{w w':World}{k:Nat}{v:Value}{p:Nat}{cs:List Value}(h:RB w w' k v p cs):k<w'.heap.size:=h.iP.lt
theorem RB.cell{w w':World}{k:Nat}{v:Value}{p:Nat}{cs:List Value}(h:RB w w' k v p cs)(j:Nat):w'.cell? ⟨w,j,none⟩=cs[j]?:=by
 rw[cell_of h.Y8 j];exact SN
theorem RB.frozen{w w':World}{k:Nat}{v:Value}{p:Nat}{cs:List Value}(h:RB w w' k v p cs)(j:Nat):w'.frozen? ⟨w,j,none⟩=false:=ZP h.Y8 j
theorem RB.move{w w1 w':World}{k:Nat}{v:Value}{p q:Nat}{cs:List Value}(h:RB w w1 k v p cs)(he:TJ w' k v q)(hf:Fr w1 (· = k) w1 w'):RB w w' k v q cs:=by
 have hk:=h.qD;have hl:=h.lt;refine⟨h.Zf.trans (Fr.below (hf.mono (show w.heap.size≤w1.heap.size by omega) (fun j hj hs=>by have hs:j=k:=hs;omega))),?_,he,hl⟩;rw[hf.block w Zo (fun hs=>by have hs:w.heap.size=k:=hs;omega)];exact h.Y8
theorem RB.below{w w1 w':World}{k:Nat}{v:Value}{p:Nat}{cs:List Value}(h:RB w w1 k v p cs)(hb:Below w1 w1 w'):RB w w' k v p cs:=by
 have hk:=h.qD;have hl:=h.lt;refine⟨h.Zf.trans (hb.mono Zo),?_,?_,hl⟩
 ·rw[hb.block w Zo];exact h.Y8
 ·show w'.heap[k]?=_;rw[hb.block k hk];exact h.iP
theorem RB.set{w w':World}{k:Nat}{v:Value}{p:Nat}{cs:List Value}(h:RB w w' k v p cs)(j:Nat)(u:Value):RB w (w'.setCell ⟨w,j,none⟩ u) k v p (cs.set j u):=by
 have hl:=h.lt;have h0:=h.Y8;refine⟨h.Zf.setCell (p:=⟨w,j,none⟩) (Zw _) u,?_,?_,hl⟩
 ·simp only[World.setCell,Array.getElem?_modify,h0,if_true,Option.map_some];simp
 ·show(w'.setCell ⟨w,j,none⟩ u).heap[k]?=_;simp only[World.setCell,Array.getElem?_modify];rw[Z3 Zo];exact h.iP
theorem RB.grown{w w1 w':World}{k:Nat}{v:Value}{p:Nat}{cs:List Value}(h:RB w w1 k v p cs){row:Option Nat}(hg:w1.grownBy w' row)(hr:∀j,row=some j→k<j):RB w w' k v p cs:=by
 have hk:=h.qD;have hl:=h.lt;refine⟨h.Zf.trans ⟨hg.os,hg.tape,hg.output,hg.size,fun i hi=>hg.block i Zo (fun e=>by have:=hr i e.symm;omega)⟩,?_,?_,hl⟩
 ·rw[hg.block w Zo (fun e=>by have:=hr _ e.symm;omega)];exact h.Y8
 ·show w'.heap[k]?=_;rw[hg.block k hk (fun e=>by have:=hr _ e.symm;omega)];exact h.iP
end Go.Proofs.By
namespace Go.Proofs.By
open Go.RowKit Go.Proofs.Heap
theorem Gg{b:List UInt8}(h:(right b).2=0):4≤b.length∧(at8 b 1=200∨at8 b 1=201)∧at8 b 0%32≤15∧(right b).1=UR (at8 b 1) (at8 b 0%32)∧UR (at8 b 1) (at8 b 0%32)≤b.length:=by
 unfold right at h ⊢;split at h
 ·cases h
 rename_i h1
 rw[Z3 h1];split at h
 ·cases h
 rename_i h2
 rw[Z3 h2];split at h
 ·cases h
 rename_i h3
 rw[Z3 h3];split at h
 ·cases h
 rename_i h4
 rw[Z3 h4];split at h
 ·cases h
 rename_i h5
 rw[Z3 h5];exact⟨Zo,Zo,Zo,rfl,Zo⟩
theorem Mt:Elem prog 170 228 7 28:=⟨underlying170,⟨.agg (Qs 0 0 0 0 0 0 0),by kernel_rfl,rfl⟩,by decide⟩
theorem Sl{P:Program}{ops:Array Oper}{o:Oper}{a:Act}{w:World}{K:Act→World→Prop}{Q:Exit→Act→World→Prop}{E':Prop}(LH:o.guard=none)(ty:TypeId)(x y:Operand)(ho:o.op = .store ty x y)(hd:o.dst=none)
  (g:Nat) (cells:Array Value) (hx:a.eval x = .pointer (some ⟨g,0,none⟩)) (hy:a.eval y = .agg cells)
  (t:TypeId) (old:Array Value) (hg:w.heap[g]?=some (.cells old t (0,0))) (hi:(P.info? ty).map (·.size)=some cells.size)
  (hold:old.size=cells.size) (h1:cells.all (·.oneCell')=true) (h:K a (w.setRow g cells)) :
  if Region.wanted o (yielded ops a.tmps)=true then Oper.wp P o a w K Q else E':=by
 have hw:Region.wanted o (yielded ops a.tmps)=true:=by simp[Region.wanted,LH]
 rw[ZU hw];exact Go.wp_store_row ty x y ho g cells hx hy t old hg hi hold h1 (by rw[hd];exact h)
theorem RB.row{w w':World}{k:Nat}{v:Value}{p:Nat}{cs:List Value}(h:RB w w' k v p cs)(cs':List Value):RB w (w'.setRow w cs'.toArray) k v p cs':=by
 have hl:=h.lt
 have he:∀j,j≠w.heap.size→(w'.setRow w cs'.toArray).heap[j]?=w'.heap[j]?:=fun j hj=>by
  simp only[World.setRow,Array.getElem?_modify];rw[Z3 (fun e=>hj e.symm)]
 refine⟨⟨h.Zf.os,h.Zf.tape,h.Zf.output,by simpa[World.setRow]using h.Zf.size,fun j hj=>by rw[he j Zo];exact h.Zf.block j hj⟩,setRow_heap _ _ _ _ _ _ h.Y8,?_,hl⟩;show(w'.setRow _ _).heap[k]?=_;rw[he k Zo];exact h.iP
structure RL(w w':World)(k:Nat)(v:Value)(p:Nat)(cs:List Value)(bv:Value)(j:Nat)(xs:List Value):Prop where
 rb:RB w w' k v p cs
 own:w'.ownsRow (k+1) 228 7 bv j xs
theorem RL.move{w w1 w':World}{k:Nat}{v:Value}{p q:Nat}{cs:List Value}{bv:Value}{j:Nat}{xs:List Value}(h:RL w w1 k v p cs bv j xs)(he:TJ w' k v q)(hf:Fr w1 (· = k) w1 w'):RL w w' k v q cs bv j xs:=
 ⟨h.rb.move he hf,Bq h.own fun i hi OT=>hf.block i OT (fun hs=>by have hs:i=k:=hs;omega)⟩
theorem RL.below{w w1 w':World}{k:Nat}{v:Value}{p:Nat}{cs:List Value}{bv:Value}{j:Nat}{xs:List Value}(h:RL w w1 k v p cs bv j xs)(hb:Below w1 w1 w'):RL w w' k v p cs bv j xs:=
 ⟨h.rb.below hb,Yv h.own hb⟩
theorem RL.other{w w1:World}{k:Nat}{v:Value}{p:Nat}{cs:List Value}{bv:Value}{j:Nat}{xs:List Value}(h:RL w w1 k v p cs bv j xs){g o:Nat}{c:Array Value}{f:Nat×Nat}(hg:w1.heap[g]?=some (.cells c 228 f))(hk:k<g)(hb:∀i,bv.ownBlock=some i→i≠g)(u:Value):RL w (w1.setCell ⟨g,o,none⟩ u) k v p cs bv j xs:=by
 have hl:=h.rb.lt;refine⟨⟨h.rb.Zf.setCell (p:=⟨g,o,none⟩) (by show w.heap.size≤g;omega) u,?_,?_,hl⟩,?_⟩
 ·rw[Mg _ _ _ _ (by show w.heap.size≠g;omega)];exact h.rb.Y8
 ·show(w1.setCell _ _).heap[k]?=_;rw[Mg _ _ _ _ (by show k≠g;omega)];exact h.rb.iP
 ·obtain⟨h1,h2⟩:=h.own;refine⟨h1,?_⟩;rcases h2 with h2|⟨g2,cap,cur,hv,lG,hh,r⟩
  ·exact WO h2
  ·have WN:g2≠g:=hb g2 (by rw[hv];rfl);exact WB ⟨g2,cap,cur,hv,lG,by rw[Mg _ _ _ _ (by show g2≠g;exact WN)];exact hh,r⟩
theorem RL.grown{w w1 w':World}{k:Nat}{v:Value}{p:Nat}{cs:List Value}{bv:Value}{j:Nat}{xs:List Value}(h:RL w w1 k v p cs bv j xs)(hg:w1.grownBy w' bv.ownBlock):RB w w' k v p cs:=
 h.rb.grown hg (fun i hi=>by have:=KP h.own i hi;omega)
theorem RL.word{w w1:World}{k:Nat}{v:Value}{b:List UInt8}{p:Nat}{cs:List Value}{bv:Value}{j:Nat}{xs:List Value}(h:RL w w1 k v p cs bv j xs)(hv:∀w',Below w w w'→X5 w' v b)(hp:p≤100000) :
  Calls prog 180 #[.pointer (some ⟨k,0,none⟩)] w1 fun e w'=>e = .returned (.int .u32 (get b p 4:Nat))∧RL w w' k v (p+4) cs bv j xs∧Fr w1 (· = k) w1 w':=
 (IZ k v b p w1 h.rb.iP (hv _ h.rb.Zf) hp).mono fun _ _ ⟨h1,h2,h3⟩=>⟨h1,h.move h2 h3,h3⟩
theorem RL.get{w w1:World}{k:Nat}{v:Value}{b:List UInt8}{p:Nat}{cs:List Value}{bv:Value}{j:Nat}{xs:List Value}(h:RL w w1 k v p cs bv j xs)(hv:∀w',Below w w w'→X5 w' v b)(hp:p≤100000)(q:Nat)(hq:q≤100) :
  Calls prog 181 (Qj (some ⟨k,0,none⟩) (q:Int)) w1 fun e w'=>e = .returned (.int .u64 (get b p q:Nat))∧RL w w' k v (p+q) cs bv j xs∧Fr w1 (· = k) w1 w':=
 (Fk k v b p q w1 h.rb.iP (hv _ h.rb.Zf) hp hq).mono fun _ _ ⟨h1,h2,h3⟩=>⟨h1,h.move h2 h3,h3⟩
theorem sA{w:World}{g:Nat}{o:Obj}(h:w.heap[g]?=some o):g<w.heap.size:=by
 rcases Nat.lt_or_ge g w with h1|h1
 ·exact h1
 ·rw[D_ h1]at h;cases h
theorem A2{w1 w':World}{k g:Nat}{o:Obj}(hf:Fr w1 (· = k) w1 w')(h:w1.heap[g]?=some o)(WN:k<g):w'.heap[g]?=some o:=by
 rw[hf.block g (sA h) (fun hs=>by have hs:g=k:=hs;omega)];exact h
theorem GM{w:World}{g:Nat}{c:Array Value}{t:TypeId}{f:Nat×Nat}(h:w.heap[g]?=some (.cells c t f))(o:Nat)(u:Value):(w.setCell ⟨g,o,none⟩ u).heap[g]?=some (.cells (c.setIfInBounds o u) t f):=by
 simp[World.setCell,Array.getElem?_modify,h]
theorem RB.word{w w1:World}{k:Nat}{v:Value}{b:List UInt8}{p:Nat}{cs:List Value}(h:RB w w1 k v p cs)(hv:∀w',Below w w w'→X5 w' v b)(hp:p≤100000) :
  Calls prog 180 #[.pointer (some ⟨k,0,none⟩)] w1 fun e w'=>e = .returned (.int .u32 (get b p 4:Nat))∧RB w w' k v (p+4) cs∧Fr w1 (· = k) w1 w':=
 (IZ k v b p w1 h.iP (hv _ h.Zf) hp).mono fun _ _ ⟨h1,h2,h3⟩=>⟨h1,h.move h2 h3,h3⟩
theorem RB.get{w w1:World}{k:Nat}{v:Value}{b:List UInt8}{p:Nat}{cs:List Value}(h:RB w w1 k v p cs)(hv:∀w',Below w w w'→X5 w' v b)(hp:p≤100000)(q:Nat)(hq:q≤100) :
  Calls prog 181 (Qj (some ⟨k,0,none⟩) (q:Int)) w1 fun e w'=>e = .returned (.int .u64 (get b p q:Nat))∧RB w w' k v (p+q) cs∧Fr w1 (· = k) w1 w':=
 (Fk k v b p q w1 h.iP (hv _ h.Zf) hp hq).mono fun _ _ ⟨h1,h2,h3⟩=>⟨h1,h.move h2 h3,h3⟩
theorem RL.set{w w':World}{k:Nat}{v:Value}{p:Nat}{cs:List Value}{bv:Value}{j:Nat}{xs:List Value}(h:RL w w' k v p cs bv j xs)(i:Nat)(u:Value):RL w (w'.setCell ⟨w,i,none⟩ u) k v p (cs.set i u) bv j xs:=
 ⟨h.rb.set i u,U_ h.own (by have:=h.rb.lt;omega) u⟩
end Go.Proofs.By
namespace Go.Proofs.Heap
open Go Go.RowKit
section
variable {P:Program}
theorem sY{w:World}(t ty:TypeId)(base:Nat){e:TypeId}{size bytes:Nat}(E:Elem P t e size bytes)(v:Value)(n:Nat)(xs:List Value)(YG:w.ownsRow base e size v n xs)
  (vx:Value) (m:Nat) (news:List Value) (ZW:Row w e vx m news) (hl:news.length=m*size) (h1:∀u∈news,u.oneCell'=true)
  (Ur:(n+m)*bytes≤140737488355328) (kZ:n+m≤9223372036854775807) (R7:base≤w.heap.size) :
  ∃v' w',(Builtin.append_ #[t,t] ty #[v,vx]).run P w = .ok v' w'∧w'.ownsRow base e size v' (n+m) (xs++news)∧w.grownBy w' v.ownBlock:=by
 obtain⟨z,UB,iY⟩:=E.info;obtain⟨i,hi,hz,Sc,lF⟩:=info_parts UB;obtain⟨ad,cap,hv,_,_,h0,hr⟩:=ZW;subst hv;have uw:n+m≤maxLen:=by unfold maxLen;omega
 cases ad with
 | none=>
  exact bR
 | some ad=>
  obtain⟨v',w',Be,h2,h3,_⟩:=run_append_own w base t ty e i z size bytes E.ht hi hz Sc lF iY E.pos v n xs YG ad m cap news hl (by
   intro j u hu;rcases hr with hr|⟨b,off,c,fr,Sn,hb,hc⟩
   ·subst hr;simp at hu
   ·cases Sn;have hj:j<news.length:=(List.getElem?_eq_some_iff.1 hu).1;have:=hc j hj;have MT:(⟨b,off,none⟩:Addr).add j=⟨b,off+j,none⟩:=by unfold Addr.add;split <;> simp_all
    rw[MT];simp only[World.cell?,hb]
    simpa[hu]using this) h1 uw Ur R7
  exact⟨v',w',Be,h2,h3⟩
theorem Ze{ops:Array Oper}{o:Oper}{a:Act}{w:World}{K:Act→World→Prop}{Q:Exit→Act→World→Prop}{E':Prop}(LH:o.guard=none)(s x:Operand)(t:TypeId)
  (ho:o.op = .call {callee:= .builtin .append,args:=#[s,x],argTypes:=#[t,t]})
  (base:Nat) {e:TypeId} {size bytes:Nat} (E:Elem P t e size bytes)
  (v:Value) (n:Nat) (xs:List Value) (hs:a.eval s=v) (YG:w.ownsRow base e size v n xs)
  (vx:Value) (m:Nat) (news:List Value) (hx:a.eval x=vx) (ZW:Row w e vx m news) (hl:news.length=m*size) (h1:∀u∈news,u.oneCell'=true)
  (Ur:(n+m)*bytes≤140737488355328) (kZ:n+m≤9223372036854775807) (R7:base≤w.heap.size)
  (h:∀v' w',Hid (w'.ownsRow base e size v' (n+m) (xs++news))→Hid (w.grownBy w' v.ownBlock)→K (a.put o.dst v') w') :
  if Region.wanted o (yielded ops a.tmps)=true then Oper.wp P o a w K Q else E':=by
 have hw:Region.wanted o (yielded ops a.tmps)=true:=by simp[Region.wanted,LH]
 rw[ZU hw];obtain⟨v',w',Be,h2,h3⟩:=sY (P:=P) t o.type base E v n xs YG vx m news ZW hl h1 Ur kZ R7;unfold Oper.wp;simp[execOp,ho,resolve,invoke,builtin,hs,hx,Be,Result.andThen];exact h v' w' h2 h3
end
end Go.Proofs.Heap
