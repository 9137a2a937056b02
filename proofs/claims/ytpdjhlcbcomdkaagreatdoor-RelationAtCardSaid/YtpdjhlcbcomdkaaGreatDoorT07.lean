/- Part of a proof. -/
import Derived.Test.YtpdjhlcbcomdkaaGreatDoorChecked
import Derived.Test.YtpdjhlcbcomdkaaGreatDoorShelf
import Derived.Test.YtpdjhlcbcomdkaaGreatDoorT06
set_option linter.unusedVariables false
set_option linter.unusedSimpArgs false
set_option maxRecDepth 100000
set_option maxHeartbeats 16000000
open Go Go.Q Go.Qr Go.Proofs.Tryz
namespace Go.Proofs.Rm
open Go.RowKit Go.Proofs.Heap Go.Proofs.Mem
theorem Row.grown{w w':World}{e:TypeId}{v:Value}{n:Nat}{xs:List Value}(h:Row w e v n xs){base:Nat}{e2:TypeId}{size:Nat}{vo:Value}{m:Nat}{ys:List Value}(ho:w.ownsRow base e2 size vo m ys)(hg:w.grownBy w' vo.ownBlock)(WN:e≠e2):Row w' e v n xs:=by
 refine h.fr (B:=w.heap.size) (S:=fun k=>vo.ownBlock=some k) ⟨hg.os,hg.tape,hg.output,hg.size,fun k hk hs=>hg.block k hk (fun e=>hs e.symm)⟩ (Zw _) ?_;intro k c fr hk he;obtain⟨_,ho⟩:=ho;rcases ho with⟨rfl,_⟩|⟨g,cap,cur,rfl,_,hh,_⟩
 ·cases hk
 ·have hk:some g=some k:=hk;cases hk;rw[hh]at he;exact Uo (fun h=>WN h.symm) he
theorem ZR.grown{w w':World}{b:Nat}{R:Room}(h:ZR w b R){base:Nat}{e2:TypeId}{size:Nat}{vo:Value}{m:Nat}{ys:List Value}(ho:w.ownsRow base e2 size vo m ys)(hg:w.grownBy w' vo.ownBlock)(hb:b<base)(WN:66≠e2):ZR w' b R:=by
 refine⟨?_,fun n hn=>Row.grown (h.rows n hn) ho hg WN⟩;obtain⟨c,hc,hs,Uz⟩:=h.cells;refine⟨c,?_,hs,Uz⟩;rw[hg.block b h.lt (fun e=>by have:=YL ho b e.symm;omega)];exact hc
theorem Wv{base:Nat}{e:TypeId}{size:Nat}{v:Value}{n:Nat}{xs:List Value}{w w':World}{S:Nat→Prop}(h:w.ownsRow base e size v n xs)(hf:Fr w S w w')(hS:∀k,S k→k<base):w'.ownsRow base e size v n xs:=by
 obtain⟨h1,h2⟩:=h;refine⟨h1,?_⟩;rcases h2 with h2|⟨g,cap,cur,hv,hg,hh,r⟩
 ·exact WO h2
 ·have OT:g<w.heap.size:=by
   rcases Nat.lt_or_ge g w with h|h
   ·exact h
   ·rw[D_ h]at hh;cases hh
  exact WB ⟨g,cap,cur,hv,hg,by rw[hf.block g OT (fun hs=>by have:=hS g hs;omega)];exact hh,r⟩
theorem ZR.EP{w:World}{b:Nat}{R:Room}(h:ZR w b R){e:TypeId}(he:e≠152):∀k c fr,k=b→w.heap[k]?≠some (.cells c e fr):=by
 intro k c fr hk;subst hk;obtain⟨c',hc,_,_⟩:=h.cells;rw[hc];exact Uo (fun h=>he h.symm)
theorem SJ(R:Room)(n:Nat)(x:Src):(R.Y0 n x).src n=x:=by simp[Room.Y0]
theorem Ss(R:Room)(n:Nat)(x y:Src):(R.Y0 n x).Y0 n y=R.Y0 n y:=by
 unfold Room.Y0
 congr 1
 funext m;dsimp only;split <;> rfl
theorem ZR.TE{w:World}{b:Nat}{R:Room}(h:ZR w b R){n i:Nat}(hn:n<9)(hi:i<5){x:Src}{v:Value}(hx:∀j,j<5→MD x j=if j=i then v else MD (R.src n) j)
  (ZW:Row w 66 x.sv x.ss.length (YN x.ss)):ZR (w.setCell ⟨b,9+n*5+i,none⟩ v) b (R.Y0 n x):=by
 refine h.set Zo (fun j hj=>?_) (fun m hm=>?_)
 ·by_cases h1:j<9∨54≤j
  ·unfold WK;rw[Z3 (by omega:¬j=9+n*5+i)];by_cases h2:j<9
   ·rw[ZU h2,ZU h2];rfl
   ·rw[Z3 h2,Z3 h2,Z3 Zo,Z3 Zo];rfl
  ·unfold WK;rw[Z3 (by omega:¬j<9),ZU (by omega:j<54),Z3 (by omega:¬j<9),ZU (by omega:j<54)];by_cases h3:(j-9)/5=n
   ·have e:(R.Y0 n x).src ((j-9)/5)=x:=by simp[Room.Y0,h3]
    rw[e,h3,hx _ Zo];have:((j-9)%5=i)↔(j=9+n*5+i):=by omega
    by_cases h4:(j-9)%5=i
    ·rw[ZU h4,ZU (this.1 h4)]
    ·rw[Z3 h4,Z3 (fun e=>h4 (this.2 e))]
   ·have e:(R.Y0 n x).src ((j-9)/5)=R.src ((j-9)/5):=by simp[Room.Y0,h3]
    rw[e,Z3 Zo]
 ·by_cases hmn:m=n
  ·subst hmn;rw[SJ];exact ZW
  ·have e:(R.Y0 n x).src m=R.src m:=by simp[Room.Y0,hmn]
   rw[e];exact h.rows m hm
theorem ZR.Y0{w:World}{b:Nat}{R:Room}(h:ZR w b R){n:Nat}(hn:n<9)(x:Src)(ZW:Row w 66 x.sv x.ss.length (YN x.ss)) :
  ZR (((((w.setCell ⟨b,9+n*5,none⟩ (.bool x.there)).setCell ⟨b,9+n*5+1,none⟩ (.int .i64 x.num)).setCell ⟨b,9+n*5+2,none⟩ (.int .i64 x.own)).setCell ⟨b,9+n*5+3,none⟩ x.sv).setCell ⟨b,9+n*5+4,none⟩ (.bool x.ZN)) b (R.Y0 n x):=by
 have ho:=h.other;obtain⟨c,hc,_,_⟩:=h.cells;have r1:=h.rows n hn;have c5:∀j,j<5→(j=0∨j=1∨j=2∨j=3∨j=4):=by intro j hj;omega
 have h1:=h.TE hn (i:=0) Zo (x:={R.src n with there:=x.there}) (v:= .bool x.there) (by intro j hj;rcases c5 j hj with rfl|rfl|rfl|rfl|rfl <;> rfl) r1;have h2:=h1.TE hn (i:=1) Zo (x:={R.src n with there:=x.there,num:=x.num}) (v:= .int .i64 x.num) fo (by have:=h1.rows n hn;rw[SJ]at this;exact this);have h3:=h2.TE hn (i:=2) Zo (x:={R.src n with there:=x.there,num:=x.num,own:=x.own}) (v:= .int .i64 x.own) fo (by have:=h2.rows n hn;rw[SJ]at this;exact this)
 have hrow3:Row (((w.setCell ⟨b,9+n*5,none⟩ (.bool x.there)).setCell ⟨b,9+n*5+1,none⟩ (.int .i64 x.num)).setCell ⟨b,9+n*5+2,none⟩ (.int .i64 x.own)) 66 x.sv x.ss.length (YN x.ss):=
  ZW.fr ((((Fr.refl w (· = b) w).setAt _ _).setAt _ _).setAt _ _) (Zw _) ho
 have h4:=h3.TE hn (i:=3) Zo (x:={R.src n with there:=x.there,num:=x.num,own:=x.own,sv:=x.sv,ss:=x.ss}) (v:=x.sv) fo hrow3;have h5:=h4.TE hn (i:=4) Zo (x:=x) (v:= .bool x.ZN) fo (by have:=h4.rows n hn;rw[SJ]at this;exact this);rw[Ss,Ss,Ss,Ss]at h5;exact h5
theorem Ie(n:Nat)(p:Nat):∀(l:List Nat) (R:Room),Xk n (l++[p]) R=((Xk n l R).1++[⟨3,p,n,0,0⟩,⟨2,p,n,0,0⟩],(Xk n l R).2.ZQ n p U9)
 | [],R=>rfl
 | q :: l,R=>by
  simp only[List.cons_append,Xk];rw[Ie n p l]
theorem LA(n:Nat):∀(l:List Nat) (R:Room),(Xk n l R).1.length=2*l.length
 | [],R=>rfl
 | q :: l,R=>by
  simp only[Xk,List.length_cons,LA n l];omega
theorem EE(t:YF):(Z7 t).length=5:=rfl
theorem X4(l:List YF):∀u∈l.flatMap Z7,u.oneCell'=true:=by
 intro u hu;obtain⟨t,_,hu⟩:=List.mem_flatMap.1 hu;simp only[Z7,J9,List.mem_nil_iff,or_false]at hu;rcases hu with rfl|rfl|rfl|rfl|rfl <;> rfl
theorem Vx(l:List YF):(l.flatMap Z7).length=l.length*5:=XN _ 5 EE l
theorem S7{w:World}{v:Value}{l:List Nat}(h:Row w 3 v l.length (ints l))(hl:0<l.length):∃g off cap,v = .slice (some ⟨g,off,none⟩) l.length cap∧g<w.heap.size∧∀j,j<l.length→w.cell? ⟨g,off+j,none⟩=some (.int .i64 (l.getD j 0:Nat)):=by
 have lI:(ints l).length=l.length:=Tx _;obtain⟨g,off,cap,h1,_,_,h4,h5⟩:=h.open (by rw[lI];exact hl);refine⟨g,off,cap,h1,h4,fun j hj=>?_⟩;rw[h5 j (by rw[lI];exact hj),Q_,Ve hj];simp[ints,hj]
theorem Gt{R:Room}{n:Int}{j:Nat}(h:j<(ZY R n).length):(ZY R n).getD j 0<9:=by
 rw[Q_,Ve h];have:=OC h;have:=(Z1f.1 this).1;simpa using this
theorem Pg(R:Room)(n:Int):(ZY R n).length≤9:=Gs R n 9
theorem DR{l:List Nat}{k:Nat}(h:k<l.length):l.take (k+1)=l.take k++[l.getD k 0]:=by
 rw[List.take_succ_eq_append_getElem h,Q_,Ve h];rfl
theorem Fx(b:Nat)(R:Room)(n:Nat)(w:World)(hR:ZR w b R)(hn:n<9) :
  Calls prog 137 (Qj (some ⟨b,0,none⟩) n) w fun e w'=>(∃v,e = .returned v∧YD w' v (gone R n).1)∧ZR w' b (gone R n).2∧Fr w (· = b) w w':=by
 have hb:=hR.lt;have CS:=Zh (E_ b R n w hR);have HG0:Hid (gone R n=((Xk n (ZY R n) R).1,(Xk n (ZY R n) R).2.Y0 n Uc)):=rfl;have HM:Hid (∀j,j<(ZY R n).length→(ZY R n).getD j 0<9):=fun j h=>Gt h
 have HL:=Pg R n;have HR:=Zh hR;clear hR;generalize ZY R n=L at *
 go_enter func137,ntmps137;go_wp2_with fail
 refine CS.o.mono ?_;rintro e w1 ⟨⟨lv,rfl,ZW⟩,YZ⟩;have Vc:=Zh ZW;have HB:=Zh YZ;clear YZ;rcases Nat.eq_zero_or_pos L.length with h0|h0
 ·obtain⟨la,uQ,rfl,hx⟩:=ZW;clear hx;have eF:Hid (L=[]):=AH h0;have Xx:=Zh (HR.o.below HB.o);obtain⟨s0,s1,s2,s3,s4⟩:=Xx.o.Ml hn;have f0:=Xx.o.YB (9+n*5);have f1:=Xx.o.YB (9+n*5+1);have f2:=Xx.o.YB (9+n*5+2);have f3:=Xx.o.YB (9+n*5+3);have f4:=Xx.o.YB (9+n*5+4);go_wp2_with fail
  go_loopw [5,12] (fun v i w'=>v = .slice none 0 0∧i = .int .i64 0∧w'=w1) (fun _ _ _=>0)
  case atStart=>exact⟨rfl,rfl,rfl⟩
  case round=>
   obtain⟨rfl,rfl,rfl⟩:=hrel;go_wp2;go_ret;rw[HG0.o,eF.o];refine⟨⟨_,rfl,?_⟩,Xx.o.Y0 hn Uc (Row.nil _ _),((((((Fr.Z6 _ HB.o).setAt _ _).setAt _ _).setAt _ _).setAt _ _).setAt _ _)⟩;exact Row.nil _ _
 ·obtain⟨g,off,cap,rfl,hg,Yu⟩:=S7 ZW h0;have HC:=Zh Yu;clear ZW Yu;go_wp2_with fail
  go_loopw [5,12] (fun v i w'=>∃k:Nat,k≤L.length∧i = .int .i64 k∧Fr w (· = b) w w'∧Row w' 3 (.slice (some ⟨g,off,none⟩) L.length cap) L.length (ints L)∧ZR w' b (Xk n (L.take k) R).2∧w'.ownsRow w 158 5 v (Xk n (L.take k) R).1.length ((Xk n (L.take k) R).1.flatMap Z7)) (fun _ i _=>L.length-(intOf i).toNat)
  case atStart=>exact⟨0,Zo,rfl,Fr.Z6 _ HB.o,Vc.o,HR.o.below HB.o,TV _ _ _ _⟩
  case round=>
   obtain⟨k,hk,rfl,Wm,ZW,Xn,YG⟩:=hrel;have T8:=Zh Wm;have P9:=Zh ZW;have Xx:=Zh Xn;have Yk:=Zh YG;clear Wm YG Xn;by_cases VM:k<L.length
   ·obtain⟨g',off',cap',e1,hg',Yu⟩:=S7 ZW h0;cases e1;have hc:=Yu k VM;have hp:=HM.o k VM;have HT:=Zh (DR VM);have Ak:=LA n (L.take k) R;rw[SY]at Ak;clear Yu ZW;generalize L.getD k 0=p at *
    have HS:=Zh (Ie n p (L.take k) R);have CE:=Zh (AZ b (Xk n (L.take k) R).2 p n wr Xx.o hn hp);generalize Xk n (L.take k) R=G at *
    go_wp2_with (first|(go_at_call 139;refine CE.o.mono ?_;rintro e w2 ⟨rfl,QG,R_⟩;have Lq:=Zh QG;have T4:=Zh R_;clear QG R_)|(at_builtin;refine YO rfl (.tmp 16) (.tmp 24) 98 rfl w Xy _ G.1.length (G.1.flatMap Z7) rfl ?a1 _ 2 ([⟨3,p,n,0,0⟩,⟨2,p,n,0,0⟩].flatMap Z7) rfl ?a2 rfl ?a4 ?a5 ?a6 ?a7 (fun v' w3 HO HG=>?_)))
    case a1=>exact(Wv Yk.o T4.o (fun k hk=>by omega)).alloc _
    case a2=>exact Yw _ _ 2 _ ([⟨3,p,n,0,0⟩,⟨2,p,n,0,0⟩].flatMap Z7) Zd rfl
    case a4=>exact X4 _
    case a5=>omega
    case a6=>omega
    case a7=>have h1:=T8.o.size;have h2:=T4.o.size;simp;omega
    go_roundw
    case rel=>
     have h1:=T8.o.size;have h2:=T4.o.size;have Sa:=(Wv Yk.o T4.o (fun k hk=>by omega)).alloc (.cells ([⟨3,p,n,0,0⟩,⟨2,p,n,0,0⟩].flatMap Z7).toArray 158);have WX:=Z' w2 (.cells ([⟨3,p,n,0,0⟩,⟨2,p,n,0,0⟩].flatMap Z7).toArray 158);refine⟨k+1,Zo,Zn,?_,?_,?_,?_⟩
     ·exact km
     ·exact Row.grown ((P9.o.fr T4.o (Zw _) (Xx.o.EP Zd)).below WX) Sa HG.o Zd
     ·rw[HT.o,HS.o];exact ZR.grown (Lq.o.below WX) Sa HG.o hb Zd
     ·rw[HT.o,HS.o];dsimp only;rw[UG,OD];exact HO.o
    case measure=>simp[intOf];omega
   ·have hkk:k=L.length:=by omega
    have hT:L.take k=L:=by rw[hkk,n9]
    rw[hT]at Xx Yk;obtain⟨s0,s1,s2,s3,s4⟩:=Xx.o.Ml hn;have f0:=Xx.o.YB (9+n*5);have f1:=Xx.o.YB (9+n*5+1);have f2:=Xx.o.YB (9+n*5+2);have f3:=Xx.o.YB (9+n*5+3);have f4:=Xx.o.YB (9+n*5+4);clear hT ZW;generalize Xk n L R=G at *
    go_wp2;go_ret;rw[HG0.o];exact⟨⟨_,rfl,(Row.Z4 Yk.o).fr (((((((Fr.refl wr (· = b) wr).setAt _ _).setAt _ _).setAt _ _).setAt _ _).setAt _ _)) (Zw _) (Xx.o.EP Zd)⟩,Xx.o.Y0 hn Uc (Row.nil _ _),(((((T8.o.setAt _ _).setAt _ _).setAt _ _).setAt _ _).setAt _ _)⟩
theorem below_drewN{B:Nat}{a w:World}(h:Below B a w):∀q,Below B a (w.drewN q)
 | 0=>h
 | q+1=>(below_drewN h q).drew
theorem Di(b:Nat)(R:Room)(o:Op)(sa ba:Option Addr)(sl sc bl bc:Nat)(w:World)(hR:ZR w b R)(hs:1≤o.source∧o.source<9) :
  Calls prog 164 (Qi (some ⟨b,0,none⟩) (Jq o sa sl sc ba bl bc)) w fun e w'=>e = .returned (.int .i64 (ZI R o))∧Below w w w':=by
 obtain⟨k,p,n,q,nm,ss⟩:=o;obtain⟨n,rfl⟩:=Rw (show 0≤n by have:=hs.1;dsimp only at this;omega);have hn:n<9:=by have:=hs.2;dsimp only at this;omega
 obtain⟨s0,s1,s2,s3,s4⟩:=hR.Ml hn;have hb:=hR.lt;have HL:Hid (ZI R ⟨k,p,n,q,nm,ss⟩=if q<0∨((R.src n).ss.length:Int)≤q then 5 else 0):=rfl;have hlen:=(hR.rows n hn).len;obtain⟨va,vc,GV,hx⟩:=hR.rows n hn;rw[GV]at s3;clear hR hs hx GV;generalize(R.src n).ss.length=L at *
 dsimp only;by_cases h1:q<0
 ·have HF:Hid (ZI R ⟨k,p,n,q,nm,ss⟩=5):=by show _=_;rw[HL.o,ZU (WO h1)]
  exact Yx65
 ·by_cases h2:(L:Int)≤q
  ·have HF:Hid (ZI R ⟨k,p,n,q,nm,ss⟩=5):=by show _=_;rw[HL.o,ZU (WB h2)]
   have hd1:decide (q<0)=false:=Wz h1;have oh:decide ((L:Int)≤q)=true:=Ww h2;exact Yx65
  ·have HF:Hid (ZI R ⟨k,p,n,q,nm,ss⟩=0):=by show _=_;rw[HL.o,Z3 Zo]
   have hd1:decide (q<0)=false:=Wz h1;have oh:decide ((L:Int)≤q)=false:=Wz h2;exact Yx65
end Go.Proofs.Rm
namespace Go.Proofs.Rm
open Go.RowKit Go.Proofs.Heap Go.Proofs.Mem
theorem p8(b:Nat)(R:Room)(o:Op)(sa ba:Option Addr)(sl sc bl bc:Nat)(w:World)(hR:ZR w b R)(hs:1≤o.source∧o.source<9)(hp:1≤o.peer∧o.peer<9) :
  Calls prog 165 (Qi (some ⟨b,0,none⟩) (Jq o sa sl sc ba bl bc)) w fun e w'=>e = .returned (.int .i64 (heard R o))∧Below w w w':=by
 have CL:=Zh (fun(w1:World) (h:Below w w w1)=>Di b R o sa ba sl sc bl bc w1 (hR.below h) hs);obtain⟨k,p,n,q,nm,ss⟩:=o;obtain⟨n,rfl⟩:=Rw (show 0≤n by have:=hs.1;dsimp only at this;omega);obtain⟨p,rfl⟩:=Rw (show 0≤p by have:=hp.1;dsimp only at this;omega);have hn:n<9:=by have:=hs.2;dsimp only at this;omega
 have Lh:p<9:=by have:=hp.2;dsimp only at this;omega
 obtain⟨c0,c1,c2⟩:=hR.Gr hn Lh;have hb:=hR.lt
 have HL:Hid (heard R ⟨k,p,n,q,nm,ss⟩=(let x:=R.sub n p
   if !x.there then 8 else if k=10∧x.ZV=true then 9 else if k=11∧x.ZV=false then 11 else if k≠12 then 0
   else if ZI R ⟨k,p,n,q,nm,ss⟩≠0 then ZI R ⟨k,p,n,q,nm,ss⟩else if x.want=q then 9 else 0)):=rfl
 clear hR hs hp;dsimp only at CL HL ⊢;generalize ZI R ⟨k,p,n,q,nm,ss⟩=ly at *
 generalize heard R ⟨k,p,n,q,nm,ss⟩=hd at *
 generalize(R.sub n p).there=t0 at *
 generalize(R.sub n p).ZV=t1 at *
 generalize(R.sub n p).want=t2 at *
 go_enter func165,ntmps165;go_wp2
 go_region
 go_wp2_with (go_at_call 164;refine(CL.o _ tY).mono ?_;rintro e w1 ⟨rfl,YZ⟩;obtain⟨LG,I8⟩:=SP YZ)
 all_goals(go_ret;refine⟨YS ?_,?_⟩)
 all_goals try(refine Below.trans ?_ (YZ.mono Uf))
 all_goals try(refine Below.drew ?_)
 all_goals try(refine Below.alloc (Below.alloc (YI _ _) (Zw _) _) Zi _)
 all_goals(rw[HL.o];first|(simp[*];done)|(simp_all;done)|skip)
theorem pH(b:Nat)(R:Room)(o:Op)(sa ba:Option Addr)(sl sc bl bc:Nat)(w:World)(hR:ZR w b R)(hs:1≤o.source∧o.source<9)(hp:1≤o.peer∧o.peer<9) :
  Calls prog 135 (Qi (some ⟨b,0,none⟩) (Jq o sa sl sc ba bl bc)) w fun e w'=>e = .returned (.int .i64 (about R o))∧Below w w w':=by
 have CL:=Zh (fun(w1:World) (h:Below w w w1)=>Di b R o sa ba sl sc bl bc w1 (hR.below h) hs);have CH:=Zh (fun(w1:World) (h:Below w w w1)=>p8 b R o sa ba sl sc bl bc w1 (hR.below h) hs hp);obtain⟨k,p,n,q,nm,ss⟩:=o;obtain⟨n,rfl⟩:=Rw (show 0≤n by have:=hs.1;dsimp only at this;omega);obtain⟨p,rfl⟩:=Rw (show 0≤p by have:=hp.1;dsimp only at this;omega);have hn:n<9:=by have:=hs.2;dsimp only at this;omega
 have Lh:p<9:=by have:=hp.2;dsimp only at this;omega
 obtain⟨c0,c1,c2⟩:=hR.Gr hn Lh;obtain⟨s0,s1,s2,s3,s4⟩:=hR.Ml hn;have hb:=hR.lt
 have HL:Hid (about R ⟨k,p,n,q,nm,ss⟩=(if k=5∨k=8∨k=9 then
   (if(R.src n).own≠p then 10 else if k=8∧(R.src n).ZN=true then 9 else if k=9∧(R.src n).ZN=false then 11 else 0)
  else if k=6 then(if(R.src n).own=p then 10 else if(R.sub n p).there then 9 else ZI R ⟨k,p,n,q,nm,ss⟩)
  else heard R ⟨k,p,n,q,nm,ss⟩)):=rfl
 obtain⟨va,vc,GV,hx⟩:=hR.rows n hn;rw[GV]at s3;clear hR hs hp GV hx;dsimp only at CL CH HL ⊢;generalize ZI R ⟨k,p,n,q,nm,ss⟩=ly at *
 generalize heard R ⟨k,p,n,q,nm,ss⟩=hd at *
 generalize about R ⟨k,p,n,q,nm,ss⟩=ab at *
 generalize(R.sub n p).there=t0 at *
 generalize(R.src n).there=u0 at *
 generalize(R.src n).num=u1 at *
 generalize(R.src n).own=u2 at *
 generalize(R.src n).ZN=u4 at *
 generalize(R.src n).ss.length=vl at *
 go_enter func135,ntmps135;go_wp2
 go_region
 go_wp2_with (first|(go_at_call 164;refine(CL.o _ tY).mono ?_;rintro e w1 ⟨rfl,YZ⟩)|(go_at_call 165;refine(CH.o _ tY).mono ?_;rintro e w1 ⟨rfl,YZ⟩))
 all_goals try(go_region;go_wp2_with (first|(go_at_call 164;refine(CL.o _ tY).mono ?_;rintro e w1 ⟨rfl,YZ⟩)|(go_at_call 165;refine(CH.o _ tY).mono ?_;rintro e w1 ⟨rfl,YZ⟩)))
 all_goals(go_ret;refine⟨YS ?_,?_⟩)
 all_goals try(refine Below.trans ?_ (YZ.mono Uf))
 all_goals try(refine Below.drew ?_)
 all_goals try(refine Below.drew ?_)
 all_goals try(refine Below.alloc (Below.alloc (YI _ _) (Zw _) _) Zi _)
 all_goals try(rw[HL.o];first|(simp[*];done)|(simp_all;done)|skip)
 go_goals
end Go.Proofs.Rm
namespace Go.Proofs.Rm
open Go.RowKit Go.Proofs.Heap Go.Proofs.Mem
theorem qy{l:List Int}{x:Int}:decide (0≤index l x)=l.contains x:=by
 unfold index;cases h:l.findIdx? (fun y=>y==x)with
 | none=>
  have:=List.findIdx?_eq_none_iff.1 h
  have hx:l.contains x=false:=by
   rw[J8];intro hc;have:=this x (by simpa using hc);simp at this
  rw[hx];rfl
 | some i=>
  have hx:l.contains x=true:=by
   obtain⟨hi,h1,_⟩:=List.findIdx?_eq_some_iff_getElem.1 h;have:l[i]=x:=by simpa using h1
   rw[List.contains_iff_mem,←this];exact OC hi
  rw[hx];simp
theorem Af(v:Value)(l:List Int)(x:Int)(w:World)(hv:XM w v l.length (YN l)) :
  Calls prog 163 #[v,.int .u32 x] w fun e w'=>e = .returned (.bool (l.contains x))∧w=w':=by
 have CI:=Zh (B0 v l x w hv);have HN:Hid (decide (0≤index l x)=l.contains x):=qy;clear hv;generalize index l x=q at *
 go_enter func163,ntmps163;go_wp2_with (go_at_call 156;refine CI.o.mono ?_;rintro e w1 ⟨rfl,rfl⟩)
 all_goals go_ret
 all_goals exact⟨Xt (by rw[←HN.o]),rfl⟩
theorem nK{w:World}{g off n cap:Nat}{l:List Int}(h:XM w (.slice (some ⟨g,off,none⟩) n cap) l.length (YN l))(k:Nat)(hk:k≤l.length):XM w (.slice (some ⟨g,off,none⟩) k cap) (l.take k).length (YN (l.take k)):=by
 obtain⟨a,cap',hv,h1,h2,h3,h4⟩:=h;injection hv with ha hn hc
 subst hc;have hl:(l.take k).length=k:=by rw[SY];omega
 refine⟨some ⟨g,off,none⟩,cap,by rw[hl],by rw[hl];omega,h2,(fun h=>by cases h),?_⟩;by_cases hz:k=0
 ·subst hz;exact WO rfl
 ·rcases h4 with h4|⟨b,o,Sn,OT,RV⟩
  ·have:(YN l).length=0:=by rw[h4];rfl
   rw[VU]at this;omega
  ·refine WB ⟨b,o,by rw[ha,Sn],OT,fun j hj=>?_⟩;rw[VU,hl]at hj;rw[RV j (by rw[VU];omega)];simp[YN,List.getElem?_take_of_lt hj]
theorem zP(R:Room)(l:List Int)(k:Nat):Vu R l k=((of R (l.getD k 0)).2.2||(l.take k).contains (l.getD k 0)):=rfl
theorem Eu(b:Nat)(R:Room)(o:Op)(sa ba:Option Addr)(sc bl bc:Nat)(w:World)(hR:ZR w b R)(hs:1≤o.source∧o.source<9)
  (ZW:XM w (.slice sa o.ZK.length sc) o.ZK.length (YN o.ZK)) :
  Calls prog 134 (Qi (some ⟨b,0,none⟩) (Jq o sa o.ZK.length sc ba bl bc)) w fun e w'=>e = .returned (.int .i64 (VR R o))∧Below w w w':=by
 have CO:=Zh (fun(w1:World) (x:Int) (h:Below w w w1)=>IQ b R x w1 (hR.below h));obtain⟨kd,p,n,q,nm,ss⟩:=o;obtain⟨n,rfl⟩:=Rw (show 0≤n by have:=hs.1;dsimp only at this;omega);have hn:n<9:=by have:=hs.2;dsimp only at this;omega
 obtain⟨s0,s1,s2,s3,s4⟩:=hR.Ml hn;have hb:=hR.lt;have HP:Hid (VR R ⟨kd,p,n,q,nm,ss⟩=(if ss.length<1∨3<ss.length then 5 else if ss.any (fun s=>decide (s<2)||decide (3221225472≤s))then 5 else if(R.src n).there then 9 else if(List.range ss.length).any (Vu R ss)then 9 else 0)):=rfl;dsimp only at *
 have hlen:=ZW.len;clear hR hs s1 s2 s3 s4;generalize VR R ⟨kd,p,n,q,nm,ss⟩=Bu at *
 generalize(R.src n).there=u0 at *
 by_cases h1:ss.length<1
 ·have HF:Hid (Bu=5):=by show _=_;rw[HP.o,ZU (WO h1)]
  exact cJ
 by_cases h2:3<ss.length
 ·have HF:Hid (Bu=5):=by show _=_;rw[HP.o,ZU (WB h2)]
  exact cJ
 have jJ:Hid (Bu=(if ss.any (fun s=>decide (s<2)||decide (3221225472≤s))then 5 else if u0 then 9 else if(List.range ss.length).any (Vu R ss)then 9 else 0)):=by
  show _=_;rw[HP.o,Z3 Zo]
 obtain⟨g,off,cap,e1,_,_,hg,Yu⟩:=Pj ZW Zo;cases e1;have HC:=Zh Yu;have Vc:=Zh ZW;clear Yu ZW HP;go_enter func134,ntmps134;go_wp2
 go_loop [25] (fun i=>∃k:Nat,k≤ss.length∧i = .int .i64 k∧Hid (∀j,j<k→2≤ss.getD j 0∧ss.getD j 0<3221225472)) (fun i=>ss.length-(intOf i).toNat)
 case atStart=>exact⟨0,TH _,rfl,fun j hj=>by omega⟩
 case round=>
  obtain⟨k,hk,rfl,Ov⟩:=hrel;by_cases VM:k<ss.length
  ·exact Yx45
  ·have HP3:Hid (Bu=if u0 then 9 else if(List.range ss.length).any (Vu R ss)then 9 else 0):=by
    exact bY
   clear Ov jJ;cases u0
   ·have HP4:Hid (Bu=if(List.range ss.length).any (Vu R ss)then 9 else 0):=by show _=_;rw[HP3.o];rfl
    clear HP3;go_wp2;go_quiet (fail)
    go_wp2;go_loopw [47] (fun i w'=>∃k:Nat,k≤ss.length∧i = .int .i64 k∧Below w w w'∧w.heap.size<w'.heap.size∧w'.cell? ⟨w,5,none⟩=some (.slice (some ⟨g,off,none⟩) ss.length sc)∧Hid (∀j,j<k→Vu R ss j=false)) (fun i _=>ss.length-(intOf i).toNat)
    case atStart=>exact⟨0,TH _,rfl,below_drewN (Z' _ _) _,by simp,by simp,fun j hj=>by omega⟩
    case round=>
     obtain⟨k,hk,rfl,WX,Uk,A_,Ov⟩:=hrel;by_cases VM:k<ss.length
     ·have Dc:=Vc.o.below WX;obtain⟨g',off',cap',e1,_,_,hg',Yu⟩:=Pj Dc Zo;cases e1;have hc:=Yu k VM;have bu:=Zh (CO.o wr (ss.getD k 0) WX)
      have CC:Hid (∀w1,Below wr wr w1→Calls prog 163 #[.slice (some ⟨g,off,none⟩) k sc,.int .u32 (ss.getD k 0)] w1 fun e w'=>e = .returned (.bool ((ss.take k).contains (ss.getD k 0)))∧w1=w'):=
       fun w1 h=>Af _ (ss.take k) _ w1 (nK (Dc.below h) k hk)
      have eW:=Zh (zP R ss k)
      have jH:Hid (Vu R ss k=true→Bu=9):=by
       intro h;rw[HP4.o,ZU];rw[List.any_eq_true];exact⟨k,by simpa using VM,h⟩
      clear Yu Dc;generalize of R (ss.getD k 0)=O at *
      obtain⟨o1,o2,o3⟩:=O;dsimp only at bu eW;generalize gJ:(ss.take k).contains (ss.getD k 0)=cn at *
      clear gJ;generalize ss.getD k 0=x at *
      cases o3
      ·cases cn
       ·have HF:Hid (Vu R ss k=false):=by show _=_;rw[eW.o];rfl
        go_wp2_with (first|(go_at_call 127;refine bu.o.mono ?_;rintro e w2 ⟨rfl,Zb⟩;have Ih:=(Zb.cell (p:=⟨w,5,none⟩) Uk).trans A_)|(go_at_call 163;refine(CC.o _ Zb).mono ?_;rintro e w3 ⟨rfl,rfl⟩))
        exact bU
       ·have HF:=Zh (jH.o (by rw[eW.o];rfl));go_wp2_with (first|(go_at_call 127;refine bu.o.mono ?_;rintro e w2 ⟨rfl,Zb⟩;have Ih:=(Zb.cell (p:=⟨w,5,none⟩) Uk).trans A_)|(go_at_call 163;refine(CC.o _ Zb).mono ?_;rintro e w3 ⟨rfl,rfl⟩))
        go_ret;exact⟨YS HF.o.symm,WX.trans (Zb.mono WX.size)⟩
      ·have HF:=Zh (jH.o (by rw[eW.o];rfl));go_wp2_with (first|(go_at_call 127;refine bu.o.mono ?_;rintro e w2 ⟨rfl,Zb⟩;have Ih:=(Zb.cell (p:=⟨w,5,none⟩) Uk).trans A_))
       go_ret;exact⟨YS HF.o.symm,WX.trans (Zb.mono WX.size)⟩
     ·exact b_
   ·have HF:Hid (Bu=9):=by show _=_;rw[HP3.o];rfl
    go_wp2;go_quiet (fail)
    go_wp2;go_ret;exact⟨YS HF.o.symm,below_drewN (Z' _ _) _⟩
end Go.Proofs.Rm
namespace Go.Proofs.ND
open Go.RowKit Go.Lib Go.Proofs.Mem
theorem SA(w:World)(s:ByteArray)(p:Nat):Below w w (w.iter s p):=(YI _ _).alloc (Zw _) _
theorem G6{a b:ByteArray}(h:a=b):Ending.returned (.string a) = .returned (.string b):=by rw[h]
theorem Xt{a b:Bool}(h:a=b):Ending.returned (.bool a) = .returned (.bool b):=by rw[h]
theorem YS{k:IntKind}{a b:Int}(h:a=b):Ending.returned (.int k a) = .returned (.int k b):=by rw[h]
theorem JI(s:ByteArray)(k:Nat)(h:cutAt s.data.toList k<s.size):k<(rn s.data.toList).length∧cutAt s.data.toList (k+1)=cutAt s.data.toList k+(Utf8.decode s (cutAt s.data.toList k)).2∧k≤cutAt s.data.toList k∧(rn s.data.toList)[k]?=some (Utf8.decode s (cutAt s.data.toList k)):=by
 exact Yx108
theorem Bt(s:ByteArray)(k:Nat)(h:¬cutAt s.data.toList k<s.size):(rn s.data.toList).length≤k:=by
 have hl:s.data.toList.length=s.size:=(Lib.size_eq s).symm;have:=Kf s.data.toList k;omega
theorem Kb{p:Nat×Nat→Bool}{R:List (Nat×Nat)}{k:Nat}{x:Nat×Nat}(h:(R.take k).all p=true)(hk:R[k]?=some x)(hx:p x=true):(R.take (k+1)).all p=true:=by
 rw[List.take_add_one,hk,List.all_append,h];simp[hx]
theorem AJ{p:Nat×Nat→Bool}{R:List (Nat×Nat)}{k:Nat}{x:Nat×Nat}(hk:R[k]?=some x)(hx:p x=false):R.all p=false:=by
 rw[J8];intro h;have:=List.all_eq_true.1 h x (List.mem_of_getElem? hk);rw[hx]at this;cases this
theorem rT(s:ByteArray)(w:World)(hs:s.size<9223372036854775807) :
  Calls prog 161 #[.string s] w (fun e w'=>e = .returned (.bool (may s.data.toList))∧Below w w w'):=by
 exact Yx14
theorem ik(r:Nat):G3 r=true↔33≤r∧(r<127∨159<r)∧r≠65533:=by
 unfold G3;simp;omega
theorem jY(r:Int)(w:World)(h0:0≤r)(h1:r≤1114111) :
  Calls prog 150 #[.int .i32 r] w (fun e w'=>e = .returned (.bool (G3 r.toNat))∧w=w'):=by
 exact Yx31
theorem kS(s:ByteArray)(n:Nat):s.extract n s.size=str (s.data.toList.drop n):=by
 apply ByteArray.ext;apply Array.toList_inj.1;rw[Lib.extract_to_end];rfl
theorem x7(s:ByteArray)(at':Nat)(h:at'<s.size):decodeGo (s.extract at' s.size)=Utf8.decode s at':=by
 rw[kS,←decodeL_drop];unfold decodeGo;rw[Z3 (by rw[Nc,Ra,←Lib.size_eq];omega)];rfl
abbrev Xu(w:World):Prop:=Utf8Tabs 0 1 w
theorem jh(s:ByteArray)(at':Nat)(w:World)(h:at'<s.size)(hT:Xu w) :
  Calls prog 149 #[.string (s.extract at' s.size)] w (fun e w'=>e = .returned (.tuple #[.int .i32 (Utf8.decode s at').1,.int .i64 (Utf8.decode s at').2])∧Below w w w'):=by
 have:=Tryz.utf8_DecodeRuneInString (s.extract at' s.size) w hT;rw[x7 s at' h]at this;exact this
theorem vh(s:ByteArray)(w:World)(hs:s.size<9223372036854775807)(hT:Xu w) :
  Calls prog 148 #[.string s] w (fun e w'=>e = .returned (.int .i64 (runes s.data.toList))∧Below w w w'):=by
 exact Yx17
theorem zk(s:ByteArray)(w:World)(hs:s.size<9223372036854775807)(hT:Xu w) :
  Calls prog 120 #[.string s] w (fun e w'=>e = .returned (.bool (may s.data.toList))∧Below w w w'):=by
 exact Yx11
/-! Keys -/
theorem jX(r:Int)(w:World)(h0:0≤r)(h1:r≤1114111) :
  Calls prog 178 #[.int .i32 r] w (fun e w'=>e = .returned (.int .i32 (NB r))∧w=w'):=by
 exact Yx47
theorem fe(s:ByteArray)(w:World)(hs:s.size<9223372036854775807)(hT:Xu w) :
  Calls prog 162 #[.string s] w (fun e w'=>e = .returned (.string (str (key s.data.toList)))∧Below w w w'):=by
 exact Yx22
theorem Dk(l:List UInt8)(k:Nat)(h:k<l.length):((l.take k).map low++l.drop k).getD k 0=l.getD k 0:=by
 rw[Q_,Z1d Uf,Tx,SY,List.getElem?_drop,Q_]
 congr 2;omega
theorem uW(l:List UInt8)(k:Nat)(h:k<l.length):((l.take k).map low++l.drop k).set k (low (l.getD k 0))=(l.take (k+1)).map low++l.drop (k+1):=by
 exact Yx93
theorem aW(b:UInt8)(h1:65≤b.toNat)(h2:b.toNat≤90):(low b).toNat=b.toNat+32:=by rw[Rb];unfold TQ;rw[ZU ⟨h1,h2⟩]
theorem aV(b:UInt8)(h:¬(65≤b.toNat∧b.toNat≤90)):low b=b:=by unfold low;rw[Z3 h]
theorem setid(l:List UInt8)(k:Nat)(h:k<l.length)(x:UInt8)(hx:x=l.getD k 0):l.set k x=l:=by
 subst hx;rw[Q_,Ve h];exact List.set_getElem_self h
theorem m_(s:ByteArray)(w:World)(hs:s.size<9223372036854775807)(hT:Xu w) :
  Calls prog 121 #[.string s] w (fun e w'=>e = .returned (.string (str (key s.data.toList)))∧Below w w w'):=by
 exact Yx12
end Go.Proofs.ND
namespace Go.Proofs.Rm
open Go.RowKit Go.Proofs.Heap Go.Proofs.Mem
open Go.Proofs.ND (may key Xu)
def TR(R:Room):Array Value:=((List.range 9).map fun j=>Value.string (str (R.names j))).toArray
theorem Ma(R:Room):(TR R).size=9:=by simp[TR]
theorem IA(R:Room)(j:Nat)(h:j<9):(TR R)[j]?=some (.string (str (R.names j))):=by simp[TR,h]
theorem qB(b:Nat)(R:Room)(o:Op)(sa ba:Option Addr)(sl sc bl bc:Nat)(w:World)(hR:ZR w b R)(hp:1≤o.peer∧o.peer<9)(hT:Xu w)(UT:o.name.length<9223372036854775807)(hRn:∀p,(R.names p).length<9223372036854775807) :
  Calls prog 133 (Qi (some ⟨b,0,none⟩) (Jq o sa sl sc ba bl bc)) w fun e w'=>e = .returned (.int .i64 (L_ R o))∧Below w w w':=by
 have CJ:=Zh (fun(w1:World) (h:Below w w w1)=>Tv b R o.peer w1 (hR.below h));obtain⟨kd,p,n,q,nm,ss⟩:=o;have hb:=hR.lt;have HJ:Hid (L_ R ⟨kd,p,n,q,nm,ss⟩=if Y_ R p then 9 else if !may nm then 12 else if(List.range 9).any (sameKey R ⟨kd,p,n,q,nm,ss⟩)then 9 else 0):=rfl;have CM:Hid (∀w1,Calls prog 161 #[.string (str nm)] w1 fun e w'=>e = .returned (.bool (may nm))∧Below w1 w1 w'):=fun w1=>ND.rT (str nm) w1 (by rw[Nc];exact UT)
 have CK:Hid (∀(s:List UInt8) w1,s.length<9223372036854775807→Below w w w1→Calls prog 162 #[.string (str s)] w1 fun e w'=>e = .returned (.string (str (key s)))∧Below w1 w1 w'):=fun s w1 hs h=>ND.fe (str s) w1 (by rw[Nc];exact hs) (Utf8Tabs_below hT h)
 dsimp only at *
 have TN:∀j,j<(TR R).size→w.cell? ⟨b,0+j,none⟩=(TR R)[j]?:=by
  intro j hj;rw[Ma]at hj;rw[PW,hR.sO hj,IA R j hj]
 have UB:(prog.info? 143).map (·.size)=some (TR R).size:=by rw[Ma];kernel_rfl
 have HP:Hid (∀n:Nat,n<9→∀w,(Instr.index 143 (.agg (TR R)) (.int .i64 (n:Int))).run prog w = .ok (.string (str (R.names n))) w):=
  fun n hn w=>tQ.Gi w 143 9 9 (TR R) n _ underlying143 hn underlying9 rfl X_ _ (IA R n hn)
 have iF:=Zh TN;have HNL:=Zh hRn;have au:=UT;clear hR TN hRn UT;generalize TR R=CS at *
 generalize L_ R ⟨kd,p,n,q,nm,ss⟩=jn at *
 cases hj:Y_ R p
 ·cases hm:may nm
  ·have HF:Hid (jn=12):=by show _=_;rw[HJ.o,hj,hm];rfl
   rw[hj]at CJ;rw[hm]at CM;clear hj hm HJ;go_enter func133,ntmps133;go_wp2_with (first|(go_at_call 80;refine(CJ.o _ (Z' _ _)).mono ?_;rintro e w1 ⟨rfl,rfl⟩)|(go_at_call 161;refine(CM.o _).mono ?_;rintro e w1 ⟨rfl,YZ⟩))
   exact fy
  ·have HJ2:Hid (jn=if(List.range 9).any (sameKey R ⟨kd,p,n,q,nm,ss⟩)then 9 else 0):=by show _=_;rw[HJ.o,hj,hm];rfl
   rw[hj]at CJ;rw[hm]at CM;clear hj hm HJ
   have Xn:∀w',Below w w w'→∀j,j<CS.size→w'.cell? ⟨b,0+j,none⟩=CS[j]?:=fun w' h j hj=>by
    rw[h.cell (p:=⟨b,0+j,none⟩) hb];exact iF.o j hj
   have Xx:=Zh Xn;clear Xn;go_enter func133,ntmps133;go_wp2_with (first|(go_at_call 80;refine(CJ.o _ (Z' _ _)).mono ?_;rintro e w1 ⟨rfl,rfl⟩)|(go_at_call 161;refine(CM.o _).mono ?_;rintro e w1 ⟨rfl,YZ⟩;have QE:=(Z' w _).trans (YZ.mono Zi);have gI:=Xx.o _ QE;have yw:=YZ.cell (p:=⟨w,4,none⟩) Zi;simp at yw)|(refine tQ.SM rfl 143 (.tmp 17) rfl b 0 rfl CS (.array 9 9) gI underlying143 rfl UB ?_))
   have P8:w.heap.size<w1.heap.size:=by have:=YZ.size;simp at this;omega
   clear gI UB;go_loopw [19] (fun i w'=>∃k:Nat,k≤9∧i = .int .i64 k∧Below w w w'∧w.heap.size<w'.heap.size∧w'.cell? ⟨w,4,none⟩=some (.string (str nm))∧Hid (∀j,j<k→sameKey R ⟨kd,p,n,q,nm,ss⟩ j=false)) (fun i _=>9-(intOf i).toNat)
   case atStart=>exact⟨0,TH _,rfl,QE,P8,yw,fun j hj=>by omega⟩
   case round=>
    obtain⟨k,hk,rfl,WX,Uk,A_,Ov⟩:=hrel;by_cases UH:k<9
    ·have gT:=HP.o k UH;have HSK:Hid (sameKey R ⟨kd,p,n,q,nm,ss⟩ k=(!(R.names k).isEmpty&&decide (key (R.names k)=key nm))):=rfl;have VM:=HNL.o k
     have HIN:Hid (sameKey R ⟨kd,p,n,q,nm,ss⟩ k=true→jn=9):=by
      intro h;rw[HJ2.o,ZU];rw[List.any_eq_true];exact⟨k,by simpa using UH,h⟩
     generalize R.names k=nk at *
     cases WN:nk.isEmpty
     ·have e1:(str nk).toList.isEmpty=false:=by rw[G8];exact WN
      have CK1:=Zh (fun w2 (h:Below w w w2)=>CK.o nk w2 VM h);have CK2:=Zh (fun w2 (h:Below w w w2)=>CK.o nm w2 au h);rw[WN]at HSK;clear WN;by_cases RX:key nk=key nm
      ·have HF:=Zh (HIN.o (by rw[HSK.o,RX];simp));rw[RX]at CK1;clear RX;go_wp2_with fail
       go_region_held3 (fun w'=>w'.cell? ⟨w,4,none⟩=some (.string (str nm))∧Below w w w'∧w.heap.size<w'.heap.size) (first|(refine⟨?_,?_,?_⟩ <;> first|assumption|(refine Below.drew ?_;assumption))|go_keep) (first|(go_at_call 162;go_split_ands;refine Calls.mono (CK1.o _ SU) ?_;rintro e w2 ⟨rfl,Zb⟩;have Ih:=(Zb.cell (p:=⟨w,4,none⟩) SU).trans SU;have Yp:=Below.trans SU (Zb.mono (iO SU));have qq:=OB SU Zb.size)|(go_at_call 162;go_split_ands;refine Calls.mono (CK2.o _ SU) ?_;rintro e w3 ⟨rfl,WT⟩;have hbox3:=(WT.cell (p:=⟨w,4,none⟩) SU).trans SU;have Wf:=Below.trans SU (WT.mono (iO SU));have mh:=OB SU WT.size))
       all_goals(go_wp2;go_ret;exact⟨YS HF.o.symm,by assumption⟩)
      ·have HF:Hid (sameKey R ⟨kd,p,n,q,nm,ss⟩ k=false):=by show _=_;rw[HSK.o];simp[RX]
       have e3:((str (key nk)).toList==(str (key nm)).toList)=false:=by rw[WM,ByteArray.toList_eq,ByteArray.toList_eq];exact RX
       clear RX;go_wp2_with fail
       go_region_held3 (fun w'=>w'.cell? ⟨w,4,none⟩=some (.string (str nm))∧Below w w w'∧w.heap.size<w'.heap.size) (first|(refine⟨?_,?_,?_⟩ <;> first|assumption|(refine Below.drew ?_;assumption))|go_keep) (first|(go_at_call 162;go_split_ands;refine Calls.mono (CK1.o _ SU) ?_;rintro e w2 ⟨rfl,Zb⟩;have Ih:=(Zb.cell (p:=⟨w,4,none⟩) SU).trans SU;have Yp:=Below.trans SU (Zb.mono (iO SU));have qq:=OB SU Zb.size)|(go_at_call 162;go_split_ands;refine Calls.mono (CK2.o _ SU) ?_;rintro e w3 ⟨rfl,WT⟩;have hbox3:=(WT.cell (p:=⟨w,4,none⟩) SU).trans SU;have Wf:=Below.trans SU (WT.mono (iO SU));have mh:=OB SU WT.size))
       all_goals
        go_wp2;go_roundw
        case rel=>exact⟨k+1,Zo,Zn,by assumption,by assumption,by assumption,fun j hj=>by by_cases Ik:j<k;exact Ov.o j Ik;rw[show j=k by omega];exact HF.o⟩
        case measure=>simp[intOf];omega
     ·have hnk:nk=[]:=List.isEmpty_iff.1 WN;have e1:(str nk).toList=[]:=(nC _).2 hnk;have e2:(str nk).toList.isEmpty=true:=by rw[G8];exact WN
      have HF:Hid (sameKey R ⟨kd,p,n,q,nm,ss⟩ k=false):=by show _=_;rw[HSK.o,WN];rfl
      clear WN hnk;go_wp2;go_quiet (fail)
      go_wp2;go_roundw
      case rel=>exact⟨k+1,Zo,Zn,below_drewN WX _,Uk,A_,fun j hj=>by by_cases Ik:j<k;exact Ov.o j Ik;rw[show j=k by omega];exact HF.o⟩
      case measure=>simp[intOf];omega
    ·have HF:Hid (jn=0):=by
      show _=_;rw[HJ2.o,Z3];rw[List.any_eq_true];rintro⟨j,hj,hj2⟩;rw[Ov.o j (by simp at hj;omega)]at hj2;cases hj2
     go_wp2;go_ret;exact⟨YS HF.o.symm,WX⟩
 ·have HF:Hid (jn=9):=by show _=_;rw[HJ.o,hj];rfl
  rw[hj]at CJ;clear hj HJ;go_enter func133,ntmps133;go_wp2_with (first|(go_at_call 80;refine(CJ.o _ (Z' _ _)).mono ?_;rintro e w1 ⟨rfl,rfl⟩))
  go_ret;exact⟨YS HF.o.symm,Z' _ _⟩
theorem PF(p:Nat)(R:Room)(k:Nat):ZL p R (k+1)=if((ZL p R k).2.sub k p).there then((ZL p R k).1++[⟨2,p,k,0,0⟩],(ZL p R k).2.ZQ k p U9)else ZL p R k:=rfl
theorem PH(p:Nat)(R:Room)(k:Nat):ZH R p (k+1)=if(R.src k).there&&decide ((R.src k).own=p)then((ZH R p k).1++(gone (ZH R p k).2 k).1,(gone (ZH R p k).2 k).2)else ZH R p k:=rfl
theorem OP(R:Room)(n:Nat):(gone R n).1.length≤18:=by
 unfold gone;dsimp only;rw[LA];have:=Pg R n;omega
theorem QL(p:Nat)(R:Room):∀k,(ZL p R k).1.length≤k
 | 0=>Zw _
 | k+1=>by
  rw[PF];have:=QL p R k;split
  ·simp;omega
  ·omega
theorem Oa(p:Nat)(R:Room):∀k,(ZH R p k).1.length≤k*18
 | 0=>Zw _
 | k+1=>by
  rw[PH];have:=Oa p R k;have:=OP (ZH R p k).2 k;split
  ·simp;omega
  ·omega
theorem Eo(R:Room)(p:Nat)(s:List UInt8):(R.setName p s).names p=s:=by simp[Room.setName]
theorem ZR.setName{w:World}{b:Nat}{R:Room}(h:ZR w b R){p:Nat}(hp:p<9)(s:List UInt8):ZR (w.setCell ⟨b,p,none⟩ (.string (str s))) b (R.setName p s):=by
 refine h.set Zo (fun j hj=>?_) h.rows;unfold WK;by_cases h1:j<9
 ·rw[ZU h1,ZU h1];by_cases h2:j=p
  ·subst h2;rw[ZU rfl,Eo]
  ·rw[Z3 h2];simp[Room.setName,h2]
 ·rw[Z3 h1,Z3 h1,Z3 (by omega:¬j=p)];rfl
theorem qF(b:Nat)(R:Room)(p:Nat)(w:World)(hR:ZR w b R)(hp:p<9) :
  Calls prog 136 (Qj (some ⟨b,0,none⟩) p) w fun e w'=>(∃v,e = .returned v∧YD w' v (leave R p).1)∧ZR w' b (leave R p).2∧Fr w (· = b) w w':=by
 have hb:=hR.lt;have HL0:Hid (leave R p=((ZL p R 9).1++(ZH (ZL p R 9).2 p 9).1,(ZH (ZL p R 9).2 p 9).2.setName p [])):=rfl;have HR:=Zh hR;clear hR;go_enter func136,ntmps136;go_wp2;go_loopw [5,9] (fun v i w'=>∃k:Nat,k≤9∧i = .int .i64 k∧Fr w (· = b) w w'∧ZR w' b (ZL p R k).2∧w'.ownsRow w 158 5 v (ZL p R k).1.length ((ZL p R k).1.flatMap Z7)) (fun _ i _=>9-(intOf i).toNat)
 case atStart=>exact⟨0,Zo,rfl,Fr.refl _ _ _,HR.o,TV _ _ _ _⟩
 case round=>
  obtain⟨k,hk,rfl,Wm,Xn,YG⟩:=hrel;have T8:=Zh Wm;have Xx:=Zh Xn;have Yk:=Zh YG;clear Wm Xn YG;by_cases UH:k<9
  ·have HS:=Zh (PF p R k);have Ak:=QL p R k;have CE:=Zh (AZ b (ZL p R k).2 p k wr Xx.o UH hp);obtain⟨c0,c1,c2⟩:=Xx.o.Gr UH hp;clear c1 c2;generalize ZL p R k=G at *
   cases ht:(G.2.sub k p).there
   ·rw[ht]at c0;have HF:Hid (ZL p R (k+1)=G):=by show _=_;rw[HS.o,ht];rfl
    clear ht;go_wp2;go_roundw
    case rel=>exact⟨k+1,Zo,Zn,T8.o,by rw[HF.o];exact Xx.o,by rw[HF.o];exact Yk.o⟩
    case measure=>simp[intOf];omega
   ·rw[ht]at c0;have HF:Hid (ZL p R (k+1)=(G.1++[⟨2,p,k,0,0⟩],G.2.ZQ k p U9)):=by show _=_;rw[HS.o,ht];rfl
    clear ht;go_wp2_with (first|(go_at_call 139;refine CE.o.mono ?_;rintro e w2 ⟨rfl,QG,R_⟩;have Lq:=Zh QG;have T4:=Zh R_;clear QG R_)|(at_builtin;refine YO rfl (.tmp 21) (.tmp 26) 98 rfl w Xy _ G.1.length (G.1.flatMap Z7) rfl ?a1 _ 1 ([⟨2,p,k,0,0⟩].flatMap Z7) rfl ?a2 rfl ?a4 ?a5 ?a6 ?a7 (fun v' w3 HO HG=>?_)))
    case a1=>exact(Wv Yk.o T4.o (fun k hk=>by omega)).alloc _
    case a2=>exact Yw _ _ 1 _ ([⟨2,p,k,0,0⟩].flatMap Z7) Zd rfl
    case a4=>exact X4 _
    case a5=>omega
    case a6=>omega
    case a7=>have h1:=T8.o.size;have h2:=T4.o.size;simp;omega
    go_roundw
    case rel=>
     have h1:=T8.o.size;have h2:=T4.o.size;have Sa:=(Wv Yk.o T4.o (fun k hk=>by omega)).alloc (.cells ([⟨2,p,k,0,0⟩].flatMap Z7).toArray 158);have WX:=Z' w2 (.cells ([⟨2,p,k,0,0⟩].flatMap Z7).toArray 158);refine⟨k+1,Zo,Zn,?_,?_,?_⟩
     ·exact km
     ·rw[HF.o];exact ZR.grown (Lq.o.below WX) Sa HG.o hb Zd
     ·rw[HF.o];dsimp only;rw[UG,OD];exact HO.o
    case measure=>simp[intOf];omega
  ·obtain rfl:k=9:=by omega
   have Ak:=QL p R 9;have rN:Hid (∀k,ZH (ZL p R 9).2 p (k+1)=if((ZL p R 9).2.src k).there&&decide (((ZL p R 9).2.src k).own=p)then((ZH (ZL p R 9).2 p k).1++(gone (ZH (ZL p R 9).2 p k).2 k).1,(gone (ZH (ZL p R 9).2 p k).2 k).2)else ZH (ZL p R 9).2 p k):=fun k=>PH p _ k
   have HLL:Hid (∀k,(ZH (ZL p R 9).2 p k).1.length≤k*18):=fun k=>Oa p _ k
   have tH:Hid (ZH (ZL p R 9).2 p 0=([],(ZL p R 9).2)):=rfl;generalize ZL p R 9=X at *
   have TN:∀j,j<(VX X.2).size→wr.cell? ⟨b,9+j,none⟩=(VX X.2)[j]?:=by
    intro j hj;rw[Rq]at hj;rw[Xx.o.cell Zo,LU X.2 j hj]
   have UB:(prog.info? 146).map (·.size)=some (VX X.2).size:=by rw[Rq];kernel_rfl
   have HP:Hid (∀n:Nat,n<9→∀w,(Instr.index 146 (.agg (VX X.2)) (.int .i64 (n:Int))).run prog w = .ok (.agg (Jo (X.2.src n).there (X.2.src n).num (X.2.src n).own (X.2.src n).sv (X.2.src n).ZN)) w):=
    fun n hn w=>tQ.Mb w 146 145 9 (VX X.2) n 5 _ underlying146 hn underlying145 rfl X_ _ (K9 X.2 n hn)
   have eV:Hid (∀n,n<9→∃a c,(X.2.src n).sv = .slice a (X.2.src n).ss.length c):=fun n hn=>by
    obtain⟨a,c,h,_⟩:=Xx.o.rows n hn;exact⟨a,c,h⟩
   generalize VX X.2=CS at *
   obtain⟨wo,rfl⟩:∃wo:World,wo=wr:=⟨_,rfl⟩;go_wp2_with (refine tQ.SM rfl 146 (.tmp 31) rfl b 9 rfl CS (.array 9 145) TN underlying146 rfl UB ?_)
   clear TN UB;go_loopw [5,33] (fun v i w'=>∃k:Nat,k≤9∧i = .int .i64 k∧Fr w (· = b) w w'∧ZR w' b (ZH X.2 p k).2∧w'.ownsRow w 158 5 v (X.1++(ZH X.2 p k).1).length ((X.1++(ZH X.2 p k).1).flatMap Z7)) (fun _ i _=>9-(intOf i).toNat)
   case atStart=>exact⟨0,Zo,rfl,T8.o,by rw[tH.o];exact Xx.o,by rw[tH.o,rW];exact Yk.o⟩
   case round=>
    obtain⟨k,hk,rfl,Wm,Xn,YG⟩:=hrel;clear T8 Xx Yk tH;have T8:=Zh Wm;have Xx:=Zh Xn;have Yk:=Zh YG;clear Wm Xn YG;by_cases UH:k<9
    ·have HS:=Zh (rN.o k);have HGL2:=HLL.o k;have HGN:=OP (ZH X.2 p k).2 k;have gT:=HP.o k UH;have Uk:=T8.o.size;have CG:=Zh (fun w1 (h:Below wr wr w1)=>Fx b (ZH X.2 p k).2 k w1 (Xx.o.below h) UH);obtain⟨sa,sc,GV⟩:=eV.o k UH;rw[GV]at gT;clear GV;generalize ZH X.2 p k=G at *
     generalize(X.2.src k).num=u1 at *
     generalize(X.2.src k).ZN=u4 at *
     generalize(X.2.src k).ss.length=ul at *
     cases ht:(X.2.src k).there
     ·have HF:Hid (ZH X.2 p (k+1)=G):=by show _=_;rw[HS.o,ht];rfl
      rw[ht]at gT;clear ht;exact b9
     ·by_cases ho:(X.2.src k).own=p
      ·have HF:Hid (ZH X.2 p (k+1)=(G.1++(gone G.2 k).1,(gone G.2 k).2)):=by show _=_;rw[HS.o,ht,ho];simp
       rw[ht,ho]at gT;clear ht ho;generalize gone G.2 k=Y at *
       go_wp2_with (first|(go_at_call 137;refine(CG.o _ (Z' _ _)).mono ?_;rintro e w2 ⟨⟨tv,rfl,SX⟩,QG,R_⟩;have EL:=Zh SX;have Lq:=Zh QG;have T4:=Zh R_;clear QG R_ SX)|(at_builtin;refine YO rfl (.tmp 46) (.tmp 49) 98 rfl w Xy _ (X.1++G.1).length ((X.1++G.1).flatMap Z7) rfl ?b1 _ Y.1.length (Y.1.flatMap Z7) rfl ?b2 ?b3 ?b4 ?b5 ?b6 ?b7 (fun v' w3 HO HG=>?_)))
       case b1=>exact Wv (Yk.o.alloc _) T4.o (fun k hk=>by omega)
       case b2=>exact EL.o
       case b3=>exact Vx _
       case b4=>exact X4 _
       case b5=>simp;omega
       case b6=>simp;omega
       case b7=>have h2:=T4.o.size;simp at h2;omega
       go_roundw
       case rel=>
        have h2:=T4.o.size;simp at h2;refine⟨k+1,Zo,Zn,?_,?_,?_⟩
        ·have h3:=(T8.o.alloc Uk _).trans (T4.o.mono Uf (fun _ _ h=>h));exact h3.grown HG.o Zo (YL Yk.o)
        ·rw[HF.o];exact ZR.grown Lq.o (Wv (Yk.o.alloc _) T4.o (fun k hk=>by omega)) HG.o hb Zd
        ·rw[HF.o];dsimp only;rw[←cL,UG,OD];exact HO.o
       case measure=>simp[intOf];omega
      ·have HF:Hid (ZH X.2 p (k+1)=G):=by show _=_;rw[HS.o,ht];simp[ho]
       have sk:((X.2.src k).own==(p:Int))=false:=by rw[WM];exact ho
       rw[ht]at gT;clear ht ho;generalize(X.2.src k).own=u2 at *
       exact b9
    ·obtain rfl:k=9:=by omega
     have c0:=Xx.o.sO hp;have f0:=Xx.o.YB p;clear HP rN HLL;generalize ZH X.2 p 9=G at *
     go_wp2;go_ret;rw[HL0.o];exact⟨⟨_,rfl,(Row.Z4 Yk.o).fr ((Fr.refl wr (· = b) wr).setAt _ _) (Zw _) (Xx.o.EP Zd)⟩,Xx.o.setName hp [],T8.o.setAt _ _⟩
end Go.Proofs.Rm
namespace Go.Proofs.Rm
open Go.RowKit Go.Proofs.Heap Go.Proofs.Mem
theorem En(R:Room)(n:Nat)(on:Bool)(p:Nat):(YX R n on p).length≤2:=by
 unfold YX waits;split
 ·simp
 ·split <;> simp
theorem Sg(R:Room)(n:Nat)(on:Bool):∀l:List Nat,(l.flatMap (YX R n on)).length≤2*l.length
 | []=>Zw _
 | p :: l=>by
  rw[List.flatMap_cons,UG,List.length_cons];have:=En R n on p;have:=Sg R n on l;omega
theorem Mv{α:Type}(f:Nat→List α){l:List Nat}{k:Nat}(h:k<l.length):(l.take (k+1)).flatMap f=(l.take k).flatMap f++f (l.getD k 0):=by
 rw[DR h,OD];simp
theorem vR{R:Room}{n:Nat}{j:Nat}(_hn:n<9)(h:j<(ZY R n).length):(ZY R n).getD j 0<9∧(R.sub n ((ZY R n).getD j 0)).there=true:=by
 refine⟨Gt h,?_⟩;rw[Q_,Ve h];have:=(Z1f.1 (OC h)).2;simp only[Zp,UW,Wl]at this;exact this.2
theorem Md(s:Src)(on:Bool):∀j,j<5→MD {s with ZN:=on} j=if j=4 then .bool on else MD s j:=by
 intro j hj;have:j=0∨j=1∨j=2∨j=3∨j=4:=by omega
 rcases this with rfl|rfl|rfl|rfl|rfl <;> rfl
theorem ij(b:Nat)(R:Room)(n:Nat)(w:World)(hR:ZR w b R)(hn:n<9) :
  Calls prog 140 (Jk (some ⟨b,0,none⟩) n true) w fun e w'=>(∃v,e = .returned v∧YD w' v (mute R n true).1)∧ZR w' b (mute R n true).2∧Fr w (· = b) w w':=by
 have hb:=hR.lt;obtain⟨s0,s1,s2,s3,s4⟩:=hR.Ml hn;have f4:=hR.YB (9+n*5+4);have JZ:=Zh (hR.TE hn (i:=4) Zo (Md (R.src n) true) (hR.rows n hn));have HM0:Hid (mute R n true=((ZY (R.Y0 n {R.src n with ZN:=true}) n).flatMap (YX (R.Y0 n {R.src n with ZN:=true}) n true),R.Y0 n {R.src n with ZN:=true})):=rfl;clear s0 s1 s2 s3;generalize R.Y0 n {R.src n with ZN:=true}=R1 at *
 have CS:=Zh (E_ b R1 n _ JZ.o);have HM:Hid (∀j,j<(ZY R1 n).length→(ZY R1 n).getD j 0<9):=fun j h=>Gt h
 have HL:=Pg R1 n;have HT:Hid (∀k,k<(ZY R1 n).length→((ZY R1 n).take (k+1)).flatMap (YX R1 n true)=((ZY R1 n).take k).flatMap (YX R1 n true)++[⟨6,(ZY R1 n).getD k 0,n,0,0⟩]):=fun k h=>Mv _ h
 have HTL:Hid (∀k,(((ZY R1 n).take k).flatMap (YX R1 n true)).length≤2*((ZY R1 n).take k).length):=fun k=>Sg _ _ _ _
 clear hR;generalize ZY R1 n=L at *
 generalize YX R1 n true=f at *
 go_enter func140,ntmps140;go_wp2_with fail
 refine CS.o.mono ?_;rintro e w1 ⟨⟨lv,rfl,ZW⟩,YZ⟩;have Vc:=Zh ZW;have HB:=Zh YZ;have Uk:w.heap.size≤w1.heap.size:=by have:=YZ.size;rw[size_setCell]at this;exact this
 have IH:Hid (Fr w (· = b) w w1):=((Fr.refl w (· = b) w).setAt _ _).trans ((Fr.Z6 _ YZ).mono (by rw[size_setCell];exact Zw _) (fun _ _ h=>h));have Au:=Zh (JZ.o.below YZ);clear YZ HB;rcases Nat.eq_zero_or_pos L.length with h0|h0
 ·exact Yx85
 ·obtain⟨g,off,cap,rfl,hg,Yu⟩:=S7 ZW h0;have HC:=Zh Yu;clear ZW Yu;go_wp2_with fail
  go_loopw [7,22] (fun v i w'=>∃k:Nat,k≤L.length∧i = .int .i64 k∧Fr w (· = b) w w'∧Row w' 3 (.slice (some ⟨g,off,none⟩) L.length cap) L.length (ints L)∧ZR w' b R1∧w'.ownsRow w 158 5 v ((L.take k).flatMap f).length (((L.take k).flatMap f).flatMap Z7)) (fun _ i _=>L.length-(intOf i).toNat)
  case atStart=>exact⟨0,Zo,rfl,IH.o,Vc.o,Au.o,TV _ _ _ _⟩
  case round=>
   obtain⟨k,hk,rfl,Wm,ZW,Xn,YG⟩:=hrel;have T8:=Zh Wm;have P9:=Zh ZW;have Xx:=Zh Xn;have Yk:=Zh YG;clear Wm YG Xn;by_cases VM:k<L.length
   ·obtain⟨g',off',cap',e1,hg',Yu⟩:=S7 ZW h0;cases e1;have hc:=Yu k VM;have hp:=HM.o k VM;have HS:=Zh (HT.o k VM);have Ak:=HTL.o k;rw[SY]at Ak;clear Yu ZW;generalize L.getD k 0=p at *
    generalize(L.take k).flatMap f=G at *
    go_wp2_with (at_builtin;refine YO rfl (.tmp 27) (.tmp 31) 98 rfl w Xy _ G.length (G.flatMap Z7) rfl ?a1 _ 1 ([⟨6,p,n,0,0⟩].flatMap Z7) rfl ?a2 rfl ?a4 ?a5 ?a6 ?a7 (fun v' w3 HO HG=>?_))
    case a1=>exact Yk.o.alloc _
    case a2=>exact Yw _ _ 1 _ ([⟨6,p,n,0,0⟩].flatMap Z7) Zd rfl
    case a4=>exact X4 _
    case a5=>omega
    case a6=>omega
    case a7=>have h1:=T8.o.size;simp;omega
    go_roundw
    case rel=>
     have h1:=T8.o.size;have Sa:=Yk.o.alloc (.cells ([⟨6,p,n,0,0⟩].flatMap Z7).toArray 158);have WX:=Z' wr (.cells ([⟨6,p,n,0,0⟩].flatMap Z7).toArray 158);refine⟨k+1,Zo,Zn,?_,?_,?_,?_⟩
     ·exact(T8.o.alloc Zo _).grown HG.o Uf (YL Yk.o)
     ·exact Row.grown (P9.o.below WX) Sa HG.o Zd
     ·exact ZR.grown (Xx.o.below WX) Sa HG.o hb Zd
     ·rw[HS.o,UG,OD];exact HO.o
    case measure=>simp[intOf];omega
   ·exact ck
theorem mN(b:Nat)(R:Room)(n:Nat)(w:World)(hR:ZR w b R)(hn:n<9)(S6:∀p,p<9→(R.sub n p).there=true→0≤(R.sub n p).want∧(R.sub n p).want<(R.src n).ss.length) :
  Calls prog 140 (Jk (some ⟨b,0,none⟩) n false) w fun e w'=>(∃v,e = .returned v∧YD w' v (mute R n false).1)∧ZR w' b (mute R n false).2∧Fr w (· = b) w w':=by
 have hb:=hR.lt;obtain⟨s0,s1,s2,s3,s4⟩:=hR.Ml hn;have f4:=hR.YB (9+n*5+4);have JZ:=Zh (hR.TE hn (i:=4) Zo (Md (R.src n) false) (hR.rows n hn));have HM0:Hid (mute R n false=((ZY (R.Y0 n {R.src n with ZN:=false}) n).flatMap (YX (R.Y0 n {R.src n with ZN:=false}) n false),R.Y0 n {R.src n with ZN:=false})):=rfl
 have xE:Hid (∀p,p<9→((R.Y0 n {R.src n with ZN:=false}).sub n p).there=true→0≤((R.Y0 n {R.src n with ZN:=false}).sub n p).want∧((R.Y0 n {R.src n with ZN:=false}).sub n p).want<((R.Y0 n {R.src n with ZN:=false}).src n).ss.length):=by
  intro p hp ht;rw[SJ];exact S6 p hp ht
 clear s0 s1 s2 s3 S6;generalize R.Y0 n {R.src n with ZN:=false}=R1 at *
 have CS:=Zh (E_ b R1 n _ JZ.o);have HM:Hid (∀j,j<(ZY R1 n).length→(ZY R1 n).getD j 0<9∧(R1.sub n ((ZY R1 n).getD j 0)).there=true):=fun j h=>vR hn h
 have HL:=Pg R1 n;have HT:Hid (∀k,k<(ZY R1 n).length→((ZY R1 n).take (k+1)).flatMap (YX R1 n false)=((ZY R1 n).take k).flatMap (YX R1 n false)++[⟨7,(ZY R1 n).getD k 0,n,0,0⟩]++waits R1 ((ZY R1 n).getD k 0) n):=fun k h=>by rw[Mv _ h,cL];rfl
 have HTL:Hid (∀k,(((ZY R1 n).take k).flatMap (YX R1 n false)).length≤2*((ZY R1 n).take k).length):=fun k=>Sg _ _ _ _
 have jT:Hid (∀p,(waits R1 p n).length≤1):=fun p=>by unfold waits;split <;> simp
 clear hR;generalize ZY R1 n=L at *
 generalize YX R1 n false=f at *
 go_enter func140,ntmps140;go_wp2_with fail
 refine CS.o.mono ?_;rintro e w1 ⟨⟨lv,rfl,ZW⟩,YZ⟩;have Vc:=Zh ZW;have HB:=Zh YZ;have Uk:w.heap.size≤w1.heap.size:=by have:=YZ.size;rw[size_setCell]at this;exact this
 have IH:Hid (Fr w (· = b) w w1):=((Fr.refl w (· = b) w).setAt _ _).trans ((Fr.Z6 _ YZ).mono (by rw[size_setCell];exact Zw _) (fun _ _ h=>h));have Au:=Zh (JZ.o.below YZ);clear YZ HB;rcases Nat.eq_zero_or_pos L.length with h0|h0
 ·exact Yx85
 ·obtain⟨g,off,cap,rfl,hg,Yu⟩:=S7 ZW h0;have HC:=Zh Yu;clear ZW Yu;go_wp2_with fail
  go_loopw [7,22] (fun v i w'=>∃k:Nat,k≤L.length∧i = .int .i64 k∧Fr w (· = b) w w'∧Row w' 3 (.slice (some ⟨g,off,none⟩) L.length cap) L.length (ints L)∧ZR w' b R1∧w'.ownsRow w 158 5 v ((L.take k).flatMap f).length (((L.take k).flatMap f).flatMap Z7)) (fun _ i _=>L.length-(intOf i).toNat)
  case atStart=>exact⟨0,Zo,rfl,IH.o,Vc.o,Au.o,TV _ _ _ _⟩
  case round=>
   obtain⟨k,hk,rfl,Wm,ZW,Xn,YG⟩:=hrel;have T8:=Zh Wm;have P9:=Zh ZW;have Xx:=Zh Xn;have Yk:=Zh YG;clear Wm YG Xn;by_cases VM:k<L.length
   ·obtain⟨g',off',cap',e1,hg',Yu⟩:=S7 ZW h0;cases e1;have hc:=Yu k VM;have HP:=Zh (HM.o k VM);have HS:=Zh (HT.o k VM);have Ak:=HTL.o k;have HWLk:=jT.o (L.getD k 0);rw[SY]at Ak;clear Yu ZW;generalize L.getD k 0=p at *
    generalize(L.take k).flatMap f=G at *
    have h1:=T8.o.size;have CW:Hid (∀w3,ZR w3 b R1→Calls prog 141 (Qu (some ⟨b,0,none⟩) p n) w3 fun e w'=>(∃v,e = .returned v∧YD w' v (waits R1 p n))∧Below w3 w3 w'):=fun w3 h3=>JT b R1 p n w3 h3 hn HP.o.1 (xE.o p HP.o.1 HP.o.2)
    have Nl:=Zh (Yk.o.alloc (.cells ([⟨7,p,n,0,0⟩].flatMap Z7).toArray 158));have RZ:=Zh (Z' wr (.cells ([⟨7,p,n,0,0⟩].flatMap Z7).toArray 158));generalize waits R1 p n=Wt at *
    go_wp2_with (first|(at_builtin;refine YO rfl (.tmp 33) (.tmp 37) 98 rfl w Xy _ G.length (G.flatMap Z7) rfl ?a1 _ 1 ([⟨7,p,n,0,0⟩].flatMap Z7) rfl ?a2 rfl ?a4 ?a5 ?a6 ?a7 (fun v' w3 HO HG=>?_))|(go_at_call 141;refine(CW.o _ (ZR.grown (Xx.o.below RZ.o) Nl.o HG.o hb Zd)).mono ?_;rintro e w4 ⟨⟨tv,rfl,SX⟩,TW⟩;have EL:=Zh SX;have Va:=Zh TW;clear SX TW)|(at_builtin;refine YO rfl (.tmp 39) (.tmp 43) 98 rfl w Xy _ (G++[YF.mk 7 p n 0 0]).length ((G++[YF.mk 7 p n 0 0]).flatMap Z7) rfl ?b1 _ Wt.length (Wt.flatMap Z7) rfl ?b2 ?b3 ?b4 ?b5 ?b6 ?b7 (fun v' w5 bK eB=>?_)))
    case a1=>exact Yk.o.alloc _
    case a2=>exact Yw _ _ 1 _ ([⟨7,p,n,0,0⟩].flatMap Z7) Zd rfl
    case a4=>exact X4 _
    case a5=>omega
    case a6=>omega
    case a7=>simp;omega
    case b1=>rw[UG,OD];exact Zv HO.o Va.o
    case b2=>exact EL.o
    case b3=>exact Vx _
    case b4=>exact X4 _
    case b5=>simp;omega
    case b6=>simp;omega
    case b7=>have h2:=HG.o.size;have h3:=Va.o.size;simp at h2;omega
    go_roundw
    case rel=>
     have h2:=HG.o.size;have h3:=Va.o.size;simp at h2;have eK:=Zv HO.o Va.o;refine⟨k+1,Zo,Zn,?_,?_,?_,?_⟩
     ·have g1:=(T8.o.alloc Zo _).grown HG.o Uf (YL Yk.o);have g2:=g1.trans ((Fr.Z6 _ Va.o).mono Zo (fun _ _ h=>h));exact g2.grown eB.o Zo (YL HO.o)
     ·exact Row.grown ((Row.grown (P9.o.below RZ.o) Nl.o HG.o Zd).below Va.o) eK eB.o Zd
     ·exact ZR.grown ((ZR.grown (Xx.o.below RZ.o) Nl.o HG.o hb Zd).below Va.o) eK eB.o hb Zd
     ·rw[HS.o,UG,OD];exact bK.o
    case measure=>simp[intOf];omega
   ·exact ck
theorem QQ(w:World)(e:TypeId)(size n m:Nat)(xs:List Value)(hl:xs.length=n*size)(hn:n≤maxLen)(hm:m=w.heap.size):(w.alloc (.cells xs.toArray e)).ownsRow m e size (.slice (some ⟨m,0,none⟩) n n) n xs:=by
 subst hm;exact⟨hl,.inr ⟨w,n,xs.toArray,rfl,Zw _,(by show(w.heap.push _)[w.heap.size]?=_;simp),Zw _,hn,by simp[hl],by rw[EM (by simp[hl])]⟩⟩
theorem ZR.alloc{w:World}{b:Nat}{R:Room}(h:ZR w b R)(o:Obj):ZR (w.alloc o) b R:=h.below (Z' _ _)
theorem ZR.drew{w:World}{b:Nat}{R:Room}(h:ZR w b R):ZR w.drew b R:=h.below (YI _ _).drew
theorem ZR.drewN{w:World}{b:Nat}{R:Room}(h:ZR w b R)(q:Nat):ZR (w.drewN q) b R:=h.below (below_drewN (YI _ _) q)
theorem Xb{base:Nat}{e:TypeId}{size:Nat}{v:Value}{n:Nat}{xs:List Value}{w:World}(h:w.ownsRow base e size v n xs):w.drew.ownsRow base e size v n xs:=Zv h (YI _ _).drew
theorem Row.drew{w:World}{e:TypeId}{v:Value}{n:Nat}{xs:List Value}(h:Row w e v n xs):Row w.drew e v n xs:=h.below (YI _ _).drew
theorem Fr.drewN{B:Nat}{S:Nat→Prop}{a w:World}(h:Fr B S a w)(q:Nat):Fr B S a (w.drewN q):=h.trans (Fr.Z6 S (below_drewN (YI _ _) q))
theorem Cb(b:Nat)(R:Room)(o:Op)(sa ba:Option Addr)(sl sc bl bc:Nat)(w:World)(hR:ZR w b R)(hs:1≤o.source∧o.source<9)(hp:1≤o.peer∧o.peer<9)(hq:0≤o.ZI∧o.ZI<(R.src o.source.toNat).ss.length) :
  Calls prog 138 (Qi (some ⟨b,0,none⟩) (Jq o sa sl sc ba bl bc)) w fun e w'=>(∃v,e = .returned v∧YD w' v (begin R o).1)∧ZR w' b (begin R o).2∧Fr w (· = b) w w':=by
 have hb:=hR.lt;obtain⟨k,p,n,q,nm,ss⟩:=o;obtain⟨n,rfl⟩:=Rw (show 0≤n by have:=hs.1;dsimp only at this;omega);obtain⟨p,rfl⟩:=Rw (show 0≤p by have:=hp.1;dsimp only at this;omega);dsimp only at hs hp hq ⊢;rw[Wl]at hq;have hn:n<9:=by omega
 have Lh:p<9:=by omega
 obtain⟨c0,c1,c2⟩:=hR.Gr hn Lh;obtain⟨s0,s1,s2,s3,s4⟩:=hR.Ml hn;have f0:=hR.YB (54+n*27+p*3);have f1:=hR.YB (54+n*27+p*3+1);have f2:=hR.YB (54+n*27+p*3+2);clear s0 s1 s2 s3 s4;have JZ:=Zh (hR.ZQ hn Lh ⟨true,false,q⟩);have YZ:=JZ.o.lt;obtain⟨s0,s1,s2,s3,s4⟩:=JZ.o.Ml hn;have Vk:Hid (begin R ⟨k,p,n,q,nm,ss⟩=(⟨1,p,n,q,0⟩ :: (if(R.src n).ZN then[⟨6,p,n,0,0⟩]else[asks (R.ZQ n p ⟨true,false,q⟩) p n]),R.ZQ n p ⟨true,false,q⟩)):=rfl
 have CA:Hid (∀w1,ZR w1 b (R.ZQ n p ⟨true,false,q⟩)→Calls prog 166 (Qu (some ⟨b,0,none⟩) p n) w1 fun e w'=>e = .returned (VZ (asks (R.ZQ n p ⟨true,false,q⟩) p n))∧Below w1 w1 w'):=
  fun w1 h=>xO b _ p n w1 h hn Lh (by rw[V_];exact hq)
 have T8:Hid (Fr w (· = b) w (((w.setCell ⟨b,54+n*27+p*3,none⟩ (.bool true)).setCell ⟨b,54+n*27+p*3+1,none⟩ (.bool false)).setCell ⟨b,54+n*27+p*3+2,none⟩ (.int .i64 q))):=(((Fr.refl _ _ _).setAt _ _).setAt _ _).setAt _ _;have Yk:Hid (∀W:World,W.heap.size=w.heap.size→∀box:Obj,((W.alloc box).alloc (.cells ([YF.mk 1 p n q 0].flatMap Z7).toArray 158)).ownsRow (w.heap.size+1) 158 5 (.slice (some ⟨w.heap.size+1,0,none⟩) 1 1) 1 ([YF.mk 1 p n q 0].flatMap Z7)):=fun W hW box=>QQ _ _ 5 1 _ _ rfl Zd (by simp[hW])
 have lN:((R.ZQ n p ⟨true,false,q⟩).src n).ZN=(R.src n).ZN:=rfl;rw[lN]at s4;clear s0 s1 s2 s3 lN hR hq;unfold VZ at CA;generalize asks (R.ZQ n p ⟨true,false,q⟩) p n=A at *
 generalize R.ZQ n p ⟨true,false,q⟩=R1 at *
 obtain⟨a1,a2,a3,a4,a5⟩:=A;dsimp only at *
 cases hm:(R.src n).ZN
 ·rw[hm]at s4;have HF:Hid (begin R ⟨k,p,n,q,nm,ss⟩=([⟨1,p,n,q,0⟩,⟨a1,a2,a3,a4,a5⟩],R1)):=by show _=_;rw[Vk.o,hm];rfl
  clear hm;go_enter func138,ntmps138;go_wp2
  go_region
  go_wp2
  go_region
  go_wp2_with (first|(go_at_call 166;refine(CA.o _ j6).mono ?_;rintro e w2 ⟨rfl,Zb⟩;have Yg:=Zh Zb;clear Zb)|(at_builtin;refine YO rfl (.tmp 43) (.tmp 50) 98 rfl (w.heap.size+1) Xy _ 1 ([⟨1,p,n,q,0⟩].flatMap Z7) rfl ?a1 _ 1 ([⟨a1,a2,a3,a4,a5⟩].flatMap Z7) rfl ?a2 rfl ?a4 ?a5 ?a6 ?a7 (fun v' w3 HO HG=>?_)))
  case a1=>exact(Zv (Xb (Xb (QQ _ _ 5 1 (w.heap.size+1) ([⟨1,p,n,q,0⟩].flatMap Z7) rfl Zd Zi))) Yg.o).alloc _
  case a2=>exact Yw _ _ 1 _ ([⟨a1,a2,a3,a4,a5⟩].flatMap Z7) Zd rfl
  case a4=>exact X4 _
  case a5=>omega
  case a6=>omega
  case a7=>have h2:=Yg.o.size;simp at h2 ⊢;omega
  go_ret;rw[HF.o];have h2:=Yg.o.size;simp at h2;have YG:=(Zv (Xb (Xb (QQ _ 158 5 1 (w.heap.size+1) ([⟨1,p,n,q,0⟩].flatMap Z7) rfl Zd Zi))) Yg.o).alloc (.cells (Qh a1 a2 a3 a4 a5) 158);refine⟨⟨_,rfl,Row.Z4 HO.o⟩,?_,?_⟩
  ·exact ZR.grown (ZR.alloc (ZR.below j6 Yg.o) _) YG HG.o Zo Zd
  ·refine Fr.grown (Fr.alloc (Fr.trans ?_ ((Fr.Z6 _ Yg.o).mono (B':=w.heap.size) Uf (fun _ _ h=>h))) Zo _) HG.o Uf (fun k hk=>by have:=YL YG k hk;omega);exact(((T8.o.alloc Zi _).alloc Zi _).drew).drew
 ·rw[hm]at s4;have HF:Hid (begin R ⟨k,p,n,q,nm,ss⟩=([⟨1,p,n,q,0⟩,⟨6,p,n,0,0⟩],R1)):=by show _=_;rw[Vk.o,hm];rfl
  clear hm;go_enter func138,ntmps138;go_wp2
  go_region
  go_wp2
  go_region
  go_wp2_with (at_builtin;refine YO rfl (.tmp 35) (.tmp 41) 98 rfl (w.heap.size+1) Xy _ 1 ([⟨1,p,n,q,0⟩].flatMap Z7) rfl ?a1 _ 1 ([⟨6,p,n,0,0⟩].flatMap Z7) rfl ?a2 rfl ?a4 ?a5 ?a6 ?a7 (fun v' w3 HO HG=>?_))
  case a1=>exact Xb (Xb ((Yk.o _ Zi _).alloc _))
  case a2=>exact Row.drew (Row.drew (Yw _ _ 1 _ ([⟨6,p,n,0,0⟩].flatMap Z7) Zd Zi))
  case a4=>exact X4 _
  case a5=>omega
  case a6=>omega
  case a7=>simp
  go_ret;rw[HF.o];refine⟨⟨_,rfl,Row.Z4 HO.o⟩,?_,?_⟩
  ·exact ZR.grown j6 (by exact Xb (Xb ((Yk.o _ Zi _).alloc _))) HG.o (by omega:b<w.heap.size+1) Zd
  ·refine Fr.grown ?_ HG.o Uf (fun k hk=>by have hk:some (w.heap.size+1)=some k:=hk;cases hk;omega);exact((((T8.o.alloc Zi _).alloc Zi _).alloc Uf _).drew).drew
end Go.Proofs.Rm
