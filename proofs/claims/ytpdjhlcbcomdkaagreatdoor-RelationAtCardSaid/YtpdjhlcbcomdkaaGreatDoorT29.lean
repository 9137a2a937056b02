/- Part of a proof. -/
import Derived.Test.YtpdjhlcbcomdkaaGreatDoorT28
set_option linter.unusedVariables false
set_option linter.unusedSimpArgs false
set_option maxRecDepth 100000
set_option maxHeartbeats 16000000
open Go Go.Q Go.Qr Go.Proofs.Tryz
namespace Go.Proofs.By
open Go.RowKit Go.Proofs.Heap Go.Proofs
open Go.Proofs.Rm (below_drewN)
open Go.Proofs.Mem
def ca(n:Nat)(f:Nat→Value):Array Value:=((List.range (n+1)).map f).toArray
theorem cN{n:Nat}{f:Nat→Value}{j:Nat}(h:j≤n):(ca n f)[j]?=some (f j):=by
 unfold ca;rw[SN,List.getElem?_map,List.getElem?_range (Nat.lt_succ_of_le h)];rfl
theorem kK(n:Nat)(f:Nat→Value)(i:Nat)(v:Value):(ca n f).setIfInBounds i v=ca n fun j=>if j=i then v else f j:=by
 unfold ca;rw[List.setIfInBounds_toArray]
 congr 1
 apply List.ext_getElem
 ·simp
 ·intro j h1 h2;rw[List.getElem_set,List.getElem_map,List.getElem_map,List.getElem_range];by_cases h:i=j
  ·rw[ZU h,ZU h.symm]
  ·rw[Z3 h,Z3 (fun q=>h q.symm)]
theorem fS(n:Nat)(z:Value):madeCells #[z] (n+1)=ca n fun _=>z:=by
 unfold madeCells ca;apply Array.ext
 ·simp
 ·intro i h1 h2;simp[Nat.mod_one]
theorem made{P:Program}(n:Nat)(hn:n≤256){t e:TypeId}{z:Value}{b:Nat}(hz:z.cells=#[z])(ht:P.underlying t=some (.slice e))(hi:(P.info? e).map (fun i=>(i.zero,i.size,i.bytes))=some (some z,1,b))(hb:b≤8)(w:World):(Instr.makeSlice t (.int .i64 ((n:Int)+1)) (.int .i64 ((n:Int)+1))).run P w = .ok (.slice (some ⟨w,0,none⟩) (n+1) (n+1)) (w.alloc (.cells (ca n fun _=>z) e)):=by
 cases hI:P.info? e with
 | none=>rw[hI]at hi;cases hi
 | some i=>
  rw[hI]at hi;injection hi with hi
  injection hi with q1 q2
  injection q2 with q2 q3
  have h8:(i.bytes:Int)*((n:Int)+1)≤8*257:=Int.mul_le_mul Zo Zo Zo Zo;have:=run_make w t e i z ht hI q1 .i64 .i64 ((n:Int)+1) ((n:Int)+1) Zo Zo Zo Zo;rw[hz,q2,show((n:Int)+1).toNat=n+1 by omega,Nat.mul_one,fS]at this;exact this
theorem Kc{n:Nat}{f g:Nat→Value}(h:∀j,j≤n→f j=g j):ca n f=ca n g:=by
 unfold ca
 congr 1
 exact List.map_congr_left fun j hj=>h j (Nat.le_of_lt_succ (List.mem_range.1 hj))
structure CU(w w':World)(lc:Array Value)(gc go n:Nat)(f:Nat→Int)(g:Nat→Bool):Prop where
 cur:w'.heap[gc]?=some (.cells (ca n fun j=> .int .i64 (f j)) 3)
 opn:w'.heap[go]?=some (.cells (ca n fun j=> .bool (g j)) 4)
 ne:gc≠go
 lf:w'.heap[w.heap.size]?=some (.cells lc 59)
 Zf:Below w w w'
 hc:w.heap.size<gc
 ho:w.heap.size<go
section
variable {w w1 w':World} {lc:Array Value} {gc go n:Nat} {f f':Nat→Int} {g g':Nat→Bool}
theorem CU.below(h:CU w w1 lc gc go n f g)(hb:Below w1 w1 w'):CU w w' lc gc go n f g:=⟨(hb.block _ (ZX h.cur)).trans h.cur,(hb.block _ (ZX h.opn)).trans h.opn,h.ne,(hb.block _ (ZX h.lf)).trans h.lf,h.Zf.trans (hb.mono h.Zf.size),h.hc,h.ho⟩
theorem CU.congr(h:CU w w1 lc gc go n f g)(h1:∀j,j≤n→f j=f' j)(h2:∀j,j≤n→g j=g' j):CU w w1 lc gc go n f' g':=
 ⟨h.cur.trans (by rw[Kc fun j hj=>by rw[h1 j hj]]),h.opn.trans (by rw[Kc fun j hj=>by rw[h2 j hj]]),h.ne,h.lf,h.Zf,h.hc,h.ho⟩
theorem CU.setC(h:CU w w1 lc gc go n f g)(i:Nat)(v:Int)(h1:∀j,j≤n→(if j=i then v else f j)=f' j):CU w (w1.setCell ⟨gc,i,none⟩ (.int .i64 v)) lc gc go n f' g:=
 ⟨(heap_setCell_same _ _ _ _ _ _ h.cur).trans (by rw[kK,Kc (g:=fun j=> .int .i64 (f' j)) fun j hj=>by rw[←h1 j hj];split <;> rfl]),(heap_setCell_other _ _ _ _ h.ne.symm).trans h.opn,h.ne,(heap_setCell_other _ _ _ _ (Nat.ne_of_lt h.hc)).trans h.lf,h.Zf.setCell (iO h.hc) _,h.hc,h.ho⟩
theorem CU.setO(h:CU w w1 lc gc go n f g)(i:Nat)(v:Bool)(h1:∀j,j≤n→(if j=i then v else g j)=g' j):CU w (w1.setCell ⟨go,i,none⟩ (.bool v)) lc gc go n f g':=
 ⟨(heap_setCell_other _ _ _ _ h.ne).trans h.cur,(heap_setCell_same _ _ _ _ _ _ h.opn).trans (by rw[kK,Kc (g:=fun j=> .bool (g' j)) fun j hj=>by rw[←h1 j hj];split <;> rfl]),h.ne,(heap_setCell_other _ _ _ _ (Nat.ne_of_lt h.ho)).trans h.lf,h.Zf.setCell (iO h.ho) _,h.hc,h.ho⟩
theorem CU.atC(h:CU w w1 lc gc go n f g){j:Nat}(hj:j≤n):w1.cell? ⟨gc,j,none⟩=some (.int .i64 (f j)):=by rw[cell_of h.cur j,cN hj]
theorem CU.atO(h:CU w w1 lc gc go n f g){j:Nat}(hj:j≤n):w1.cell? ⟨go,j,none⟩=some (.bool (g j)):=by rw[cell_of h.opn j,cN hj]
end
def Mh(S:Nat→VS)(m j:Nat):Int:=if j<m then(S j).cur else -1
def KN(O:Nat→Bool)(m j:Nat):Bool:=decide (j<m)&&O j
theorem xY(S:Nat→VS)(m:Nat)(v:Int)(h:(S m).cur=v)(j:Nat):(if j=m then v else Mh S m j)=Mh S (m+1) j:=by
 unfold Mh;by_cases e:j=m
 ·rw[ZU e,e,ZU Zo,h]
 ·rw[Z3 e];by_cases e2:j<m
  ·rw[ZU e2,ZU Zo]
  ·rw[Z3 e2,Z3 Zo]
theorem IX(S:Nat→VS)(m:Nat)(h:(S m).cur=-1)(j:Nat):Mh S m j=Mh S (m+1) j:=by
 rw[←xY S m _ h];by_cases e:j=m
 ·rw[ZU e,e];unfold Mh;rw[Z3 Zo]
 ·rw[Z3 e]
theorem yZ(O:Nat→Bool)(m:Nat)(v:Bool)(h:O m=v)(j:Nat):(if j=m then v else KN O m j)=KN O (m+1) j:=by
 unfold KN;by_cases e:j=m
 ·rw[ZU e,e,Ww Zo,h];rfl
 ·rw[Z3 e,show decide (j<m)=decide (j<m+1)from decide_eq_decide.2 Zo]
theorem JE(O:Nat→Bool)(m:Nat)(h:O m=false)(j:Nat):KN O m j=KN O (m+1) j:=by
 rw[←yZ O m _ h];by_cases e:j=m
 ·rw[ZU e,e];unfold KN;rw[Wz Zo];rfl
 ·rw[Z3 e]
theorem cursR{w:World}{k:Nat}{L:List WE}(h:tT w k L)(x:Zx)(hx:x∈Zu L L.length L.length):Calls prog 58 (Qi (some ⟨k,0,none⟩) (Z8 x).toArray) w fun e w'=>(∃gc go,e = .returned (.tuple #[.slice (some ⟨gc,0,none⟩) (L.length+1) (L.length+1),.slice (some ⟨go,0,none⟩) (L.length+1) (L.length+1)])∧∃m:Nat,x.fin<m∧CU w w' (Z8 x).toArray gc go L.length (Mh (ZC L x) m) (KN (Tp L x) m))∧Below w w w':=by
 have hLL:=h.1;have h3:=Uu L L.length L.length (Zw _) x hx;have h4:=LN L L.length (Zw _) x hx;obtain⟨a,ha⟩:=Rw h3.1;obtain⟨f,hf⟩:=Rw (show 0≤x.fin by omega);have hp:x.peer≠0:=by omega
 have iW:∀m:Nat,a<m→m≤f→(decide (x∈Zu L L.length L.length)&&there x m)=true:=fun m h1 h2=>by unfold there;rw[Ww hx,Ww Zo,Ww Zo];rfl
 have hli:∀j:Nat,Wh x j=true↔a<j∧j<f:=fun j=>by unfold Wh;rw[UW,Sz,Sz];omega
 have CD:=Zh (fun(w':World) (hb:Below w w w') (j:Nat) (hj:j<L.length) (kd pr:Int)=>(h.below hb).done hj kd pr x.source);have CP:=Zh (fun(w':World) (hb:Below w w w') (j:Nat) (h1:a<j) (h2:j<f)=>packR (h.below hb) x ((hli j).2 ⟨h1,h2⟩) Zo)
 have CQ:Hid (∀(w':World),Below w w w'→∀j:Nat,a<j→j≤f→Calls prog 34 (Qt (some ⟨k,0,none⟩) (Z8 x).toArray (j:Int)) w' fun e w2=>e = .returned (.bool (ZC L x j).quiet)∧Below w' w' w2):=fun w' hb j h1 h2=>by
  have hq:=mY (h.below hb) x (j:Int);obtain⟨-,b,-,e,-,-,-,-,-,-,-,h9⟩:=Kw (iW j h1 h2);rw[h9,←Int.ofNat.inj e]at hq;exact hq
 have CW:Hid (∀(w':World),Below w w w'→∀j:Nat,a<j→j≤f→Calls prog 32 (Qt (some ⟨k,0,none⟩) (Z8 x).toArray (j:Int)) w' fun e w2=>e = .returned (.int .i64 (ZC L x j).want)∧Below w' w' w2):=fun w' hb j h1 h2=>by
  have hq:=dV (h.below hb) x (j:Int);obtain⟨-,b,-,e,-,-,-,-,-,h9,-,-⟩:=Kw (iW j h1 h2);rw[h9,←Int.ofNat.inj e]at hq;exact hq
 have K1:Hid (∀m j,j<m→a<j→j<f→(Zt L j 10 x.peer x.source=true∨Zt L j 8 0 x.source=true)→(∀i,j<i→i<m→Tp L x i=false∧Zt L i 10 x.peer x.source=false∧Zt L i 8 0 x.source=false)→(ZC L x m).cur=-1):=fun m j h1 h2 h3 h4 h5=>fU hp h1 (h4.imp (fun q=>⟨(hli j).2 ⟨h2,h3⟩,q⟩) id) (fun i q1 q2=>⟨(h5 i q1 q2).1,fun _=>(h5 i q1 q2).2.1,(h5 i q1 q2).2.2⟩)
 have K2:Hid (∀m j,j<m→Tp L x j=true→(∀i,j<i→i<m→Tp L x i=false∧Zt L i 10 x.peer x.source=false∧Zt L i 8 0 x.source=false)→(ZC L x m).cur=(MQ L j).ds.ZI):=fun m j h1 h2 h5=>by
  have hk:(Z5 L j).XX.kind=1:=by unfold Tp XU at h2;simp only[UW,Sz]at h2;exact h2.1.1.2
  rw[(yg hk).1];exact kL hp h1 h2 (fun i q1 q2=>⟨(h5 i q1 q2).1,fun _=>(h5 i q1 q2).2.1,(h5 i q1 q2).2.2⟩)
 have K0:Hid (∀m,m≤a+1→(ZC L x m).cur=-1):=fun m h1=>Ci hp (fun j hj=>by cases e:Wh x (j:Int)with|false=>rfl|true=>exact absurd ((hli j).1 e) Zo)
 have K3:Hid (∀m,a<m→(∀i,a<i→i<m→Tp L x i=false∧Zt L i 10 x.peer x.source=false∧Zt L i 8 0 x.source=false)→(ZC L x m).cur=-1):=fun m h1 h5=>(Ke hp h1 (fun i q1 q2=>⟨(h5 i q1 q2).1,fun _=>(h5 i q1 q2).2.1,(h5 i q1 q2).2.2⟩)).trans (K0.o _ (Zw _))
 have KO:Hid (∀m,¬(a<m∧m<f)→Tp L x m=false):=fun m h1=>by
  unfold Tp XU;cases e:Wh x (m:Int)with
  | false=>rfl
  | true=>exact absurd ((hli m).1 e) h1
 have KV:Hid (∀m,Tp L x m=(XU L x m&&((!(ZC L x m).quiet)&&((MQ L m).ds.key&&(MQ L m).ds.start&&((MQ L m).ds.ZI==(ZC L x m).want)&&((ZC L x m).cur !=(ZC L x m).want))))):=fun m=>by
  have hb:∀a b c:Int,((a==b) && !(a==c))=((a==b)&&(c !=b)):=fun a b c=>by rw[Bool.eq_iff_iff];simp;omega
  cases e:XU L x m with
  | false=>unfold Tp;rw[e];rfl
  | true=>
   have hk:(Z5 L m).XX.kind=1:=by unfold XU at e;simp only[UW,Sz]at e;exact e.1.2
   rw[(yg hk).1,Bool.and_assoc,←hb];unfold Tp VK;rw[e,Bool.true_and,Bool.true_and,Bool.and_assoc,Bool.and_assoc,Bool.and_assoc,Bool.and_assoc];rfl
 obtain⟨g,o,c,g1,o1,c1,g2,o2,c2,dU⟩:=h.cells Zo;have HY:=Zh dU;have hfL:f≤L.length:=by omega
 have haf:a<f:=by omega
 clear h hx h3 h4 hp iW hli dU;generalize ZC L x=S at *
 generalize Tp L x=O at *
 generalize XU L x=P at *
 obtain⟨xp,xs,xb,xf⟩:=x;dsimp only[Z8]at *
 subst ha;subst hf;have hz:=Z9 w (.cells (Qb xp xs (a:Int) (f:Int)) 59);have HB:Hid (Below w w (w.alloc (.cells (Qb xp xs (a:Int) (f:Int)) 59))):=Z' w _;have HZ:=Zh hz;have Uk:w.heap.size<(w.alloc (.cells (Qb xp xs (a:Int) (f:Int)) 59)).heap.size:=by rw[size_alloc];omega
 have y0:=(HY.o.below HB.o).c0;have mk1:=fun w=>made L.length hLL rfl underlying72 (z:= .int .i64 0) Zk (Zw 8) w
 have mk2:=fun w=>made L.length hLL rfl underlying122 (z:= .bool false) Zk (by decide:1≤8) w
 clear hz;go_enter func58,ntmps58;go_upto_region 1 with fail
 generalize w.alloc (.cells (Qb xp xs (a:Int) (f:Int)) 59)=w1 at *
 have y00:=ZG y0 (Z' w1 (.cells (ca L.length fun _=> .int .i64 0) 3));go_upto_region 3 with fail
 have DZ:Hid (CU w ((w1.alloc (.cells (ca L.length fun _=> .int .i64 0) 3)).alloc (.cells (ca L.length fun _=> .bool false) 4)) (Qb xp xs (a:Int) (f:Int)) w1 (w1.heap.size+1) L.length (fun _=>0) (fun _=>false)):=by
  have h1:=Z' w1 (.cells (ca L.length fun _=> .int .i64 0) 3);have h2:=Z' (w1.alloc (.cells (ca L.length fun _=> .int .i64 0) 3)) (.cells (ca L.length fun _=> .bool false) 4);have h3:=Z9 (w1.alloc (.cells (ca L.length fun _=> .int .i64 0) 3)) (.cells (ca L.length fun _=> .bool false) 4);rw[size_alloc]at h2 h3;exact⟨(h2.block _ (Nat.lt_succ_self _)).trans (Z9 w1 _),h3,Zo,((h1.trans (h2.mono (J_ _))).block _ Uk).trans HZ.o,HB.o.trans ((h1.trans (h2.mono (J_ _))).mono HB.o.size),Uk,Zo⟩
 clear mk1 mk2 y0 y00 HZ HB Uk;generalize((w1.alloc (.cells (ca L.length fun _=> .int .i64 0) 3)).alloc (.cells (ca L.length fun _=> .bool false) 4))=w3 at *
 generalize w1.heap.size+1=go at *
 generalize w1.heap.size=gc at *
 go_wp2_with fail
 go_loopw [8,29] (fun s8 s29 w'=>∃i:Nat,i≤L.length+1∧s29 = .int .i64 (i:Int)∧CU w w' (Qb xp xs (a:Int) (f:Int)) gc go L.length (fun j=>if j<i then -1 else 0) (fun _=>false)) (fun _ s29 _=>L.length+1-(intOf s29).toNat)
 case atStart=>exact⟨0,Zo,rfl,DZ.o.congr (fun j _=>rfl) (fun _ _=>rfl)⟩
 case round=>
  obtain⟨i,hi,rfl,NJ⟩:=hrel;have eo:=Zh NJ;by_cases GR:i<L.length+1
  ·have z:=NJ.atC (j:=i) Zo;have fz:=ZP NJ.cur i;have hiI:(i:Int)<(L.length:Int)+1:=by omega
   have hiN:(i:Int)<((L.length+1:Nat):Int):=by omega
   clear NJ;go_wp2_with fail
   go_roundw
   case rel=>exact⟨i+1,Zo,Zn,eo.o.setC i (-1) (fun j _=>by
    by_cases e:j=i
    ·rw[ZU e,ZU Zo]
    ·rw[Z3 e];by_cases e2:j<i <;> simp[e2] <;> omega)⟩
   case measure=>simp[intOf];omega
  ·have hii:i=L.length+1:=by omega
   subst hii
   have GF:Hid (CU w wr (Qb xp xs (a:Int) (f:Int)) gc go L.length (Mh S (a+1)) (KN O (a+1))):=NJ.congr (fun j hj=>by
    rw[ZU Zo];unfold Mh;split
    ·rw[K0.o j Zo]
    ·rfl) (fun j hj=>by
    unfold KN;by_cases e:j<a+1
    ·rw[KO.o j Zo,Bool.and_false]
    ·rw[Wz e];rfl)
   have x2:wr.cell? ⟨w,2,none⟩=some (.int .i64 (a:Int)):=Zc NJ.lf 2 rfl;have hii:¬(((L.length:Int)+1)<((L.length:Int)+1)):=by omega
   clear NJ eo;go_wp2_with fail
   go_loopw [9,10,12] (fun s9 iB s12 w'=>∃m:Nat,a<m∧m≤f+1∧s9 = .int .i64 (m:Int)∧CU w w' (Qb xp xs (a:Int) (f:Int)) gc go L.length (Mh S m) (KN O m)) (fun s9 _ _ _=>f+1-(intOf s9).toNat)
   case atStart=>exact⟨a+1,Zo,Zo,Zn,GF.o⟩
   case round=>
    obtain⟨m,ham,hmf1,rfl,NJ⟩:=hrel;have eo:=Zh NJ;have x3:wr.cell? ⟨w,3,none⟩=some (.int .i64 (f:Int)):=Zc NJ.lf 3 rfl;clear NJ;by_cases hmf:m≤f
    ·have hmfI:(m:Int)≤(f:Int):=by omega
     have KOm:=KO.o m;have eZ:=KV.o m
     go_upto_block 4 with fail
     go_cut [10] (fun iB wy=>CU w wy (Qb xp xs (a:Int) (f:Int)) gc go L.length (Mh S (m+1)) (KN O m))
     case first=>
      go_wp2_with fail
      go_loopw [10] (fun iB w'=>∃j:Nat,a≤j∧j<m∧iB = .int .i64 (j:Int)∧CU w w' (Qb xp xs (a:Int) (f:Int)) gc go L.length (Mh S m) (KN O m)∧∀i,j<i→i<m→O i=false∧Zt L i 10 xp xs=false∧Zt L i 8 0 xs=false) (fun iB _=>(intOf iB).toNat)
      case atStart=>exact⟨m-1,Zo,Zo,by rw[Int.ofNat_sub Zo];rfl,eo.o,fun i h1 h2=>by omega⟩
      case round=>
       obtain⟨j,h1,h2,rfl,NJ,Ov⟩:=hrel;have HCJ:=Zh NJ;have II:=Zh Ov;have x0:wr.cell? ⟨w,0,none⟩=some (.int .i64 xp):=Zc NJ.lf 0 rfl;have x1:wr.cell? ⟨w,1,none⟩=some (.int .i64 xs):=Zc NJ.lf 1 rfl;have x2:wr.cell? ⟨w,2,none⟩=some (.int .i64 (a:Int)):=Zc NJ.lf 2 rfl;have zo:=NJ.atO (j:=j) Zo;rw[show KN O m j=O j by unfold KN;rw[Ww h2];rfl]at zo;clear NJ Ov;by_cases uy:a<j
       ·have hajI:(a:Int)<(j:Int):=P6.2 uy;have Cy:(j:Int)<((L.length+1:Nat):Int):=by omega
        have HJM:=Zh h2;have jo:=Zh uy;have KJ:=K1.o m j h2 uy Zo;have dY:=CD.o wr HCJ.o.Zf j Zo 10 xp;have CD2:=fun w' hb=>CD.o w' hb j Zo 8 0
        clear uy;cases hd:Zt L j 10 xp xs with
        | true=>
         rw[hd]at dY;have dY:=Zh dY;have HE:=Zh (KJ (WO hd) II.o);clear hd KJ CD2;go_wp2_with (go_at_call 63;(with_reducible refine(dY.o).mono ?_);rintro e w4 ⟨rfl,R8⟩;have tF:=Zh (HCJ.o.below R8);have x0:=ZG x0 R8;have x1:=ZG x1 R8;have zo:=ZG zo R8;clear R8)
         go_meet;exact tF.o.congr (fun j _=>IX S m HE.o j) (fun _ _=>rfl)
        | false=>
         rw[hd]at dY;have dY:=Zh dY;have BV:=Zh hd;clear hd;cases hd:Zt L j 8 0 xs with
         | true=>
          have CD2:=Zh (fun w' hb=>hd▸CD2 w' hb);have HE:=Zh (KJ (WB hd) II.o);clear hd KJ;go_wp2_with (go_at_call 63;first|((with_reducible refine dY.o.mono ?_);rintro e w4 ⟨rfl,R8⟩;have tF:=Zh (HCJ.o.below R8);have x1:=ZG x1 R8;clear R8)|((with_reducible refine(CD2.o _ tF.o.Zf).mono ?_);rintro e w5 ⟨rfl,R8⟩;have nQ:=Zh (tF.o.below R8);clear R8))
          go_meet;exact nQ.o.congr (fun j _=>IX S m HE.o j) (fun _ _=>rfl)
         | false=>
          have CD2:=Zh (fun w' hb=>hd▸CD2 w' hb);have iG:=Zh hd;clear hd KJ;go_upto_region 15 with(go_at_call 63;first|((with_reducible refine dY.o.mono ?_);rintro e w4 ⟨rfl,R8⟩;have tF:=Zh (HCJ.o.below R8);have x1:=ZG x1 R8;have zo:=ZG zo R8;clear R8)|((with_reducible refine(CD2.o _ tF.o.Zf).mono ?_);rintro e w5 ⟨rfl,R8⟩;have nQ:=Zh (tF.o.below R8);have zo:=ZG zo R8;clear R8))
          have HOJ:=Zh (K2.o m j HJM.o);generalize lS:O j=OJ at *
          cases OJ with
          | true=>
           have HE:=Zh (HOJ.o rfl II.o);have hY:=HY.o.below nQ.o.Zf;obtain⟨ca',cn',cc',ea',en',ec',pa',pn',pc',ia',im',ic',hr⟩:=hY.ev j (by have:=HJM.o;omega);have y2:=hY.c2;have y3:w5.cell? ⟨g2,o2+j*17+12,none⟩=some (.int .i64 (MQ L j).ds.ZI):=hr 12 _ rfl;have hjL:(j:Int)<(L.length:Int):=by have:=HJM.o;omega
           have lL:(m:Int)<((L.length+1:Nat):Int):=by omega
           have zc:=nQ.o.atC (j:=m) Zo;have fz:=ZP nQ.o.cur m;clear hr hY lS;go_wp2_with fail
           go_meet;exact nQ.o.setC m _ (fun j _=>xY S m _ HE.o j)
          | false=>
           clear HOJ;go_wp2_with fail
           go_roundw
           case rel=>exact⟨j-1,by have:=jo.o;omega,Zo,by rw[Int.ofNat_sub (by have:=jo.o;omega)];rfl,nQ.o,fun i q1 q2=>by
            by_cases q:i=j
            ·rw[q];exact⟨lS,BV.o,iG.o⟩
            ·exact II.o i Zo q2⟩
           case measure=>have:=jo.o;simp[intOf];omega
       ·have hja:j=a:=by omega
        subst hja;have HE:=Zh (K3.o m ham II.o);go_wp2_with fail
        go_meet;exact HCJ.o.congr (fun j _=>IX S m HE.o j) (fun _ _=>rfl)
     case rest=>
      have BU:=Zh hcut;have x3:wc.cell? ⟨w,3,none⟩=some (.int .i64 (f:Int)):=Zc hcut.lf 3 rfl;have x0:wc.cell? ⟨w,0,none⟩=some (.int .i64 xp):=Zc hcut.lf 0 rfl;have x1:wc.cell? ⟨w,1,none⟩=some (.int .i64 xs):=Zc hcut.lf 1 rfl;have x2:wc.cell? ⟨w,2,none⟩=some (.int .i64 (a:Int)):=Zc hcut.lf 2 rfl;clear hcut eo K0 K1 K2 K3 KO KV CD;by_cases dF:m<f
      ·have hm2I:(m:Int)<(f:Int):=by omega
       have dZ:=CP.o wc BU.o.Zf m ham dF;have CQM:=fun w' hb=>CQ.o w' hb m ham hmf
       have CWM:=Zh (fun w' hb=>CW.o w' hb m ham hmf);clear KOm CP CQ CW;cases hP:P m with
       | false=>
        rw[hP]at dZ eZ;have dZ:=Zh dZ;have HE:=Zh eZ;clear hP eZ CQM;go_wp2_with ((go_at_call 59;(with_reducible refine dZ.o.mono ?_);rintro e w4 ⟨rfl,R8⟩;have tF:=Zh (BU.o.below R8);have x0:=ZG x0 R8;have x1:=ZG x1 R8;have x2:=ZG x2 R8;have x3:=ZG x3 R8;clear R8))
        go_roundw
        case rel=>exact⟨m+1,Zo,Zo,Zn,tF.o.congr (fun _ _=>rfl) (fun j _=>JE O m HE.o j)⟩
        case measure=>simp[intOf];omega
       | true=>
        rw[hP]at dZ eZ;have dZ:=Zh dZ;clear hP;generalize(S m).quiet=q at *
        cases q with
        | true=>
         have CQM:=Zh CQM;have HE:=Zh eZ;clear eZ;go_wp2_with (first|(go_at_call 59;(with_reducible refine dZ.o.mono ?_);rintro e w4 ⟨rfl,R8⟩;have tF:=Zh (BU.o.below R8);have x0:=ZG x0 R8;have x1:=ZG x1 R8;have x2:=ZG x2 R8;have x3:=ZG x3 R8;clear R8)|(go_at_call 34;(with_reducible refine(CQM.o _ tF.o.Zf).mono ?_);rintro e w5 ⟨rfl,R8⟩;have nQ:=Zh (tF.o.below R8);clear R8))
         go_roundw
         case rel=>exact⟨m+1,Zo,Zo,Zn,nQ.o.congr (fun _ _=>rfl) (fun j _=>JE O m HE.o j)⟩
         case measure=>simp[intOf];omega
        | false=>
         have CQM:=Zh CQM;have hmL:m<L.length:=by omega
         generalize hds:(MQ L m).ds=d at *
         obtain⟨dl,dk,dst,dfr⟩:=d;dsimp only at eZ;have HKV:Hid (O m=(dk&&dst&&(dl==(S m).want)&&((S m).cur !=(S m).want))):=eZ;clear eZ;go_upto_region 18 with(first|(go_at_call 59;(with_reducible refine dZ.o.mono ?_);rintro e w4 ⟨rfl,R8⟩;have tF:=Zh (BU.o.below R8);have x0:=ZG x0 R8;have x1:=ZG x1 R8;have x2:=ZG x2 R8;have x3:=ZG x3 R8;clear R8)|(go_at_call 34;(with_reducible refine(CQM.o _ tF.o.Zf).mono ?_);rintro e w5 ⟨rfl,R8⟩;have nQ:=Zh (tF.o.below R8);clear R8))
         have hY:=HY.o.below nQ.o.Zf;obtain⟨ca',cn',cc',ea',en',ec',pa',pn',pc',ia',im',ic',hr⟩:=hY.ev m hmL;rw[hds]at hr;have y2:=hY.c2;have hmLI:(m:Int)<(L.length:Int):=by omega
         have hrD:w5.rangeAt g2 (o2+m*17+12) (Qd dl dk dst dfr):=DA hr 12 (fun i v hv=>by
          have hi:=(List.getElem?_eq_some_iff.1 hv).1;simp only[List.length_cons,List.length_nil]at hi
          match i,hi,hv with
          | 0,_,hv=>exact hv
          | 1,_,hv=>exact hv
          | 2,_,hv=>exact hv
          | 3,_,hv=>exact hv)
         have hz:=Z9 w5 (.cells (Qd 0 false false 0) 81);have SQ:=setRow_heap _ _ _ (Qd dl dk dst dfr) _ _ hz;have HC6:=Zh (nQ.o.below (Z0 (Z' w5 (.cells (Qd 0 false false 0) 81)) (Zw _) (Qd dl dk dst dfr)));clear hr hY hds;go_upto_region 19 with(first|(with_reducible refine Zm hrD underlying81 ?_)|(with_reducible refine Zs hz ?_))
         clear hz hrD;generalize((w5.alloc (.cells (Qd 0 false false 0) 81)).setRow w5 (Qd dl dk dst dfr))=w6 at *
         generalize w5.heap.size=kd at *
         have Nn:=Zh SQ;clear SQ;go_upto_region 20 with(first|(with_reducible refine Zl HC6.o.lf underlying59 ?_)|(go_at_call 32;(with_reducible refine(CWM.o _ HC6.o.Zf).mono ?_);rintro e w7 ⟨rfl,R8⟩;have HC7:=Zh (HC6.o.below R8);have HD7:=Zh ((R8.block _ (ZX Nn.o)).trans Nn.o);clear R8))
         have d0:w7.cell? ⟨kd,0,none⟩=some (.int .i64 dl):=Zc HD7.o 0 rfl;have d1:w7.cell? ⟨kd,1,none⟩=some (.bool dk):=Zc HD7.o 1 rfl;have d2:w7.cell? ⟨kd,2,none⟩=some (.bool dst):=Zc HD7.o 2 rfl;have zc:=HC7.o.atC (j:=m) Zo;rw[show Mh S (m+1) m=(S m).cur by unfold Mh;rw[ZU Zo]]at zc;have zo:=HC7.o.atO (j:=m) Zo;have fz:=ZP HC7.o.opn m;have lL:(m:Int)<((L.length+1:Nat):Int):=by omega
         generalize(S m).want=W at *
         generalize(S m).cur=C at *
         have hway:dk=false∨(dk=true∧dst=false)∨(dk=true∧dst=true∧(dl==W)=false)∨(dk=true∧dst=true∧(dl==W)=true∧(C !=W)=false)∨(dk=true∧dst=true∧(dl==W)=true∧(C !=W)=true):=by
          cases dk <;> cases dst <;> cases (dl==W) <;> cases (C !=W) <;> simp
         rcases hway with rfl|⟨rfl,rfl⟩|⟨rfl,rfl,hl⟩|⟨rfl,rfl,hl,hc⟩|⟨rfl,rfl,hl,hc⟩
         all_goals
          go_wp2_with fail
          go_roundw
          case rel=>exact⟨m+1,Zo,Zo,Zn,HC7.o.setO m _ (fun j _=>yZ O m _ (HKV.o.trans (by first|rfl|(rw[hl];rfl)|(rw[hl,hc];rfl))) j)⟩
          case measure=>simp[intOf];omega
      ·have HE:=Zh (KOm Zo);have hmf3:¬((m:Int)<(f:Int)):=by omega
       go_wp2_with fail
       go_roundw
       case rel=>exact⟨m+1,Zo,Zo,Zn,BU.o.congr (fun _ _=>rfl) (fun j _=>JE O m HE.o j)⟩
       case measure=>simp[intOf];omega
    ·have gW:m=f+1:=by omega
     subst gW;have hmfI:¬(((f:Int)+1)≤(f:Int)):=by omega
     go_wp2_with fail
     go_ret2
     exact⟨⟨gc,go,rfl,f+1,Zo,eo.o⟩,eo.o.Zf⟩
section
end
end Go.Proofs.By
namespace Go.Proofs.By
open Go.RowKit Go.Proofs.Heap Go.Proofs
open Go.Proofs.Rm (below_drewN)
open Go.Proofs.Mem
theorem curR{w:World}{k:Nat}{L:List WE}(h:tT w k L)(x:Zx)(at':Int):Calls prog 36 (Qt (some ⟨k,0,none⟩) (Z8 x).toArray at') w fun e w'=>e = .returned (.int .i64 (MO L x at'))∧Below w w w':=by
 have CI:=Zh (fun(w':World) (hb:Below w w w')=>(h.below hb).is x at');cases hB:(decide (x∈Zu L L.length L.length)&&there x at')with
 | false=>
  obtain⟨-,HW,-⟩:=F6 hB;rw[hB]at CI;rw[HW];clear hB HW;obtain⟨xp,xs,xb,xf⟩:=x;dsimp only[Z8]at *
  have hz:=Z9 w (.cells (Qb xp xs xb xf) 59);have HB:Hid (Below w w (w.alloc (.cells (Qb xp xs xb xf) 59))):=Z' w _;have HZ:=Zh hz;clear hz h;go_enter func36,ntmps36;exact Yt6
 | true=>
  obtain⟨a,b,e1,e2,Sn,hbf,hf,hbL,hp,-,HW,-⟩:=Kw hB;have hx:x∈Zu L L.length L.length:=by rw[UW,Sz]at hB;exact hB.1
  have CC:=Zh (fun(w':World) (hb:Below w w w')=>cursR (h.below hb) x hx);have hLL:=h.1;rw[hB]at CI;rw[HW];clear hB HW hp hx;generalize ZC L x=S at *
  generalize Tp L x=O at *
  obtain⟨xp,xs,xb,xf⟩:=x;dsimp only[Z8]at *
  subst e1;subst e2;have hz:=Z9 w (.cells (Qb xp xs (a:Int) xf) 59);have HB:Hid (Below w w (w.alloc (.cells (Qb xp xs (a:Int) xf) 59))):=Z' w _;have HZ:=Zh hz;clear hz h;go_enter func36,ntmps36;have hbI:(b:Int)<((L.length+1:Nat):Int):=by omega
  go_wp2_with (first|(with_reducible refine Zl HZ.o underlying59 ?_)|(with_reducible refine Zl oY.o underlying59 ?_)|(go_at_call 57;refine(CI.o _ HB.o).mono ?_;rintro e w2 ⟨rfl,Zb⟩;have Yg:Hid (Below w w w2):=Tr HB Zb;have oY:=Zh ((Zb.block _ (ZX HZ.o)).trans HZ.o);clear Zb)|(go_at_call 58;(with_reducible refine(CC.o _ Yg.o).mono ?_);rintro e w3 ⟨⟨gc,go,rfl,m,hm,NJ⟩,WT⟩;have WU:Hid (Below w w w3):=Tr Yg WT;have zc:=NJ.atC (j:=b) Zo;rw[show Mh S m b=(S b).cur by unfold Mh;rw[ZU Zo]]at zc;clear NJ WT hm))
  go_ret;exact⟨rfl,WU.o⟩
def bX:Zx:=⟨2,3,3,5⟩
theorem bAdms(h:Nat):XZ (Fb h) 5=[⟨2,0,1,0⟩,⟨2,0,2,0⟩,⟨2,0,3,0⟩,⟨2,0,4,0⟩,⟨1,3,4,0⟩]:=by kernel_rfl
theorem bLives(h:Nat):Zu (Fb h) ((5:Nat):Int) 5=[bX]:=by kernel_rfl
end Go.Proofs.By
namespace Go.Proofs.By
open Go.RowKit Go.Proofs.Heap Go.Proofs
open Go.Proofs.Rm (XJ YN)
open Go.Proofs.ND (Xu)
open Go.Proofs.Mem
theorem Br(w:World):Calls prog 86 (Qv 7 10) w fun e w'=>e = .returned (.slice (some ⟨w,0,none⟩) 17 17)∧w'=w.alloc (.cells (Rx pk7).toArray 5):=by
 go_enter func86,ntmps86;go_wp2;go_ret;exact⟨rfl,rfl⟩
theorem xP(w:World):Calls prog 54 #[] w fun e w'=>e = .returned (.slice (some ⟨w.heap.size+2,0,none⟩) 5 5)∧J3 w' (.slice (some ⟨w.heap.size+2,0,none⟩) 5 5) (Fb w)∧Below w w w':=by
 have C:=Zh Br;go_enter func54,ntmps54;go_wp2_with (go_at_call 86;refine(C.o _).mono ?_;rintro e w2 ⟨rfl,rfl⟩)
 exact Yx33
theorem aZ{w:World}{v:Value}{L:List WE}(h:J3 w v L):WY w v L:=⟨h.row.r,fun y hy=>⟨(h.each y hy).1.r,(h.each y hy).2.1.r,(h.each y hy).2.2⟩⟩
theorem JK{w:World}{e:TypeId}{a:Option Addr}{n c:Nat}{xs:List Value}(h:Row w e (.slice a n c) n xs)(hl:0<xs.length):∃g o,a=some ⟨g,o,none⟩∧w.rangeAt g o xs:=by
 obtain⟨g,o,cap,h1,_,_,_,h5⟩:=Row.open h hl;injection h1 with e1 _ _
 exact⟨g,o,e1,fun m v hm=>(h5 m (List.getElem?_eq_some_iff.1 hm).1).trans hm⟩
theorem pS(v:Value)(L:List WE)(w:World)(h:WY w v L):Calls prog 26 #[v] w fun e w'=>(∃v',e = .returned v'∧WY w' v' (L.take 60))∧w=w':=by
 obtain⟨va,vc,rfl,hvc,yD⟩:=h.form;obtain⟨K,hKd⟩:∃K,K=min L.length 60:=⟨_,rfl⟩;have hK1:K≤L.length:=by omega
 have hKm:min (L.length:Int) 60=(K:Int):=by omega
 obtain⟨vs,Us,-,FH⟩:=Sk (P:=prog) uo va L.length vc K Zo
 have HO:Hid (WY w (.slice vs K vc) (L.take 60)):=by
  have h2:=h.take hK1 FH
  have e:L.take K=L.take 60:=by
   rcases Nat.le_total L.length 60 with h3|h3
   ·rw[hKd,Nat.min_eq_left h3,n9,EM h3]
   ·rw[hKd,Nat.min_eq_right h3]
  rwa[e]at h2
 clear h FH hKd;go_enter func26,ntmps26;go_wp2;go_ret;exact⟨⟨_,rfl,HO.o⟩,rfl⟩
theorem fP(h:Nat):QU (Fb h) bX=[⟨4,0,0,W8 2 3,0,true⟩]:=by kernel_rfl
theorem fO(h:Nat):MO (Fb h) bX 5=0:=by kernel_rfl
theorem fN(h:Nat):MO (Fb h) bX 4=-1:=by kernel_rfl
theorem kJ(h:Nat):Sr (Fb h) Wp 1=true:=by kernel_rfl
theorem zG(w:World)(hT:Xu w):Calls prog 25 #[] w fun e w'=>e = .returned (.bool true)∧Below w w w':=by
 have CB:=Zh (xP w);have HT:Hid (∀w',Below w w w'→Xu w'):=fun w' h=>Utf8Tabs_below hT h
 have CO:=Zh (fun w'=>Gj 2 3 w');clear hT;go_enter func25,ntmps25;go_upto_region 2 with(go_at_call 54;refine CB.o.mono ?_;rintro e w1 ⟨rfl,ho,YZ⟩;have HO:=Zh (aZ ho);have Vk:=Zh YZ;clear ho YZ)
 generalize(w.heap.size+2)=H2 at *
 have CA:=Zh (xI _ _ w1 (HT.o _ Vk.o) HO.o (by show 5≤256;decide));have CL:=Zh (fun(w':World) (hb:Below w1 w1 w')=>tR _ _ w' (HT.o _ (Tr Vk hb)) (HO.o.below hb) (by show 5≤256;decide));have CS:=Zh (fun(w':World) (hb:Below w1 w1 w')=>o_ _ _ bX w' (HT.o _ (Tr Vk hb)) (HO.o.below hb) (by show 5≤256;decide));have C5':=(fun(at':Int) (w':World) (hb:Below w1 w1 w')=>xJ _ _ bX at' w' (HT.o _ (Tr Vk hb)) (HO.o.below hb) (by show 5≤256;decide));have CQ':=(fun(w':World) (hb:Below w1 w1 w')=>E7 _ _ Wp 1 w' (HT.o _ (Tr Vk hb)) (HO.o.below hb) (by show 5≤256;decide));have hlen:(Fb w).length=5:=rfl;rw[hlen]at CA CL;rw[bAdms]at CA;simp only[bLives]at CL;have dQ:=fP w.heap.size;have hc5:=fO w.heap.size;have hc4:=fN w.heap.size;have hq:=kJ w.heap.size;simp only[dQ]at CS;have C5:=Zh (C5' 5);have C4:=Zh (C5' 4);have CQ:=Zh CQ';rw[hc5]at C5;rw[hc4]at C4;rw[hq]at CQ;clear C5' CQ' hc5 hc4 hq dQ hlen HT CB HO;dsimp only[Z8,bX,Wp]at CS C5 C4 CQ;generalize W8 2 3=OU at *
 go_upto_region 4 with(first|(go_at_call 24;refine CA.o.mono ?_;rintro e w2 ⟨⟨av,rfl,ha⟩,Zb⟩;obtain⟨aa,ac,hav⟩:=Row.form ha;subst hav;have HA:=Zh ha;have Yg:=Zh Zb;clear ha Zb)|(go_at_call 27;refine(CL.o _ Yg.o).mono ?_;rintro e w3 ⟨⟨lv,rfl,hl⟩,WT⟩;obtain⟨la,lc,uI⟩:=Row.form hl;subst uI;have HL:=Zh hl;have WU:=Zh (Tr Yg WT);have HA3:=Zh (Row.below HA.o WT);clear hl WT))
 obtain⟨ga,oa,hga,hra⟩:=JK HA3.o Zd;obtain⟨gx,ox,hgx,hrx⟩:=JK HL.o Zd;subst hga;subst hgx;have T5:w3.cell? ⟨ga,oa+16,none⟩=some (.int .i64 1):=hra 16 _ rfl;have Rh:w3.cell? ⟨ga,oa+16+2,none⟩=some (.int .i64 4):=hra 18 _ rfl;have x0:w3.cell? ⟨gx,ox,none⟩=some (.int .i64 2):=hrx 0 _ rfl;have x1:w3.cell? ⟨gx,ox+1,none⟩=some (.int .i64 3):=hrx 1 _ rfl;have x2:w3.cell? ⟨gx,ox+2,none⟩=some (.int .i64 3):=hrx 2 _ rfl;have x3:w3.cell? ⟨gx,ox+3,none⟩=some (.int .i64 5):=hrx 3 _ rfl;have X0:=Zh x0;have X1:=Zh x1;have X2:=Zh x2;have X3:=Zh x3;clear hra hrx;go_upto_region 7 with(go_at_call 29;refine(CS.o _ WU.o).mono ?_;rintro e w6 ⟨⟨ev,rfl,he⟩,Cv⟩;obtain⟨ea,ec,Kt⟩:=Row.form he;subst Kt;have HE:=Zh he;have HB36:=Zh Cv;have DY:=Zh (Tr WU Cv);clear he Cv)
 obtain⟨ge,oe,hge,gZ⟩:=JK HE.o (by show 0<6;decide);subst hge;have oU:=Zh gZ;clear T5 Rh x0 x1 x2 x3 gZ
 have ZB:Hid (∀w',Below w6 w6 w'→w'.cell? ⟨gx,ox,none⟩=some (.int .i64 2)∧w'.cell? ⟨gx,ox+1,none⟩=some (.int .i64 3)∧w'.cell? ⟨gx,ox+2,none⟩=some (.int .i64 3)∧w'.cell? ⟨gx,ox+3,none⟩=some (.int .i64 5)∧w'.cell? ⟨ge,oe,none⟩=some (.int .i64 4)∧w'.cell? ⟨ge,oe+1,none⟩=some (.int .u16 0)∧w'.cell? ⟨ge,oe+2,none⟩=some (.int .u32 0)∧w'.cell? ⟨ge,oe+3,none⟩=some (.int .u32 OU)∧w'.cell? ⟨ge,oe+4,none⟩=some (.int .u16 0)∧w'.cell? ⟨ge,oe+5,none⟩=some (.bool true)):=fun w' hb=>
  have WT:=Tr HB36 hb
  ⟨ZG X0.o WT,ZG X1.o WT,ZG X2.o WT,ZG X3.o WT,ZG (oU.o 0 _ rfl) hb,ZG (oU.o 1 _ rfl) hb,ZG (oU.o 2 _ rfl) hb,ZG (oU.o 3 _ rfl) hb,ZG (oU.o 4 _ rfl) hb,ZG (oU.o 5 _ rfl) hb⟩
 refine R5 ?_;refine Z_.Zj (d:=51) (S:=(fun w'=>w'.cell? ⟨gx,ox,none⟩=some (.int .i64 2)∧w'.cell? ⟨gx,ox+1,none⟩=some (.int .i64 3)∧w'.cell? ⟨gx,ox+2,none⟩=some (.int .i64 3)∧w'.cell? ⟨gx,ox+3,none⟩=some (.int .i64 5)∧w'.cell? ⟨ge,oe,none⟩=some (.int .i64 4)∧w'.cell? ⟨ge,oe+1,none⟩=some (.int .u16 0)∧w'.cell? ⟨ge,oe+2,none⟩=some (.int .u32 0)∧w'.cell? ⟨ge,oe+3,none⟩=some (.int .u32 OU)∧w'.cell? ⟨ge,oe+4,none⟩=some (.int .u16 0)∧w'.cell? ⟨ge,oe+5,none⟩=some (.bool true))) X_ ?_ (fun _=>?_)
 ·exact ZB.o _ (YI _ _).drew
 refine YP 0 (h:=YP 1 (h:=YP 3 (h:=YQ 2 [48,45,40,37,32,28,23,17,10,5,4] (h:=YP 4 (h:=YP 5 (h:=YP 6 (h:=YP 7 (h:=YP 8 (h:=YP 9 (h:=YP 10 (h:=YP 11 (h:=YP 12 (h:=YP 13 (h:=YQ 14 [48,45,40,37,32,28,23,17,16,15] (h:=YP 15 (h:=YP 16 (h:=YP 17 (h:=YP 18 (h:=YP 19 (h:=YP 20 (h:=YQ 21 [48,45,40,37,32,28,23,22] (h:=YP 22 (h:=YP 23 (h:=YP 24 (h:=YP 25 (h:=YP 26 (h:=YQ 27 [48,45,40,37,32,31,30] (h:=?_))))))))))))))))))))))))))));refine YR 28 (h:=fun K hK=>?_);go_simp;refine(CO.o _).mono ?_;rintro e w' ⟨rfl,rfl⟩;go_wp2_with fail
 refine Z_.Y9 hK _ _ ?_ (fun _=>?_)
 ·exact ZB.o _ Yo31
 clear hK K;try simp only[Z_.pt]
 refine YP 29 (h:=YP 30 (h:=YP 31 (h:=YP 32 (h:=YP 33 (h:=YP 34 (h:=YP 35 (h:=YQ 36 [48,45,40,37] (h:=?_))))))));refine YR 37 (h:=fun K hK=>?_);go_simp;refine(C5.o _ (DY.o.trans ((YI w6 w6).drew.mono DY.o.size))).mono ?_;rintro e w7 ⟨rfl,MV⟩;have Ah:=Zh ((YI w6 w6).drew.trans MV);clear MV;go_wp2_with fail
 refine Z_.Y9 hK _ _ ?_ (fun _=>?_)
 ·exact ZB.o _ Yo31
 clear hK K;try simp only[Z_.pt]
 refine YP 38 (h:=YP 39 (h:=YP 40 (h:=YP 41 (h:=YP 42 (h:=YP 43 (h:=YQ 44 [48,45] (h:=?_)))))));refine YR 45 (h:=fun K hK=>?_);go_simp;refine(C4.o _ (Tr DY Ah.o)).mono ?_;rintro e w8 ⟨rfl,gF⟩;have HB8:=Zh (Tr Ah gF);clear gF;go_wp2_with fail
 refine Z_.Y9 hK _ _ ?_ (fun _=>?_)
 ·exact ZB.o _ Yo31
 clear hK K;try simp only[Z_.pt]
 refine YP 46 (h:=YP 47 (h:=YP 48 (h:=YP 49 (h:=YP 50 (h:=?_)))));refine YR 51 (h:=fun K hK=>?_);go_simp;refine(CQ.o _ (Tr DY HB8.o)).mono ?_;rintro e w9 ⟨rfl,gG⟩;have bA:=Zh (Tr HB8 gG);clear gG;go_wp2_with fail
 refine Z_.Yf hK _ _ X_ ?_;clear hK K;try simp only[Z_.pt]
 refine YP 52 (h:=YP 53 (h:=?_));refine Z_.Yx X_ ?_ _;refine QZ ?_;go_wp2_with fail
 go_ret;exact⟨rfl,Vk.o.trans ((Tr DY bA.o).mono Vk.o.size)⟩
open Go.Proofs.Rm (below_drewN)
end Go.Proofs.By
namespace Go.Proofs.By
open Go.RowKit Go.Proofs.Heap Go.Proofs
open Go.Proofs.Rm (below_drewN)
open Go.Proofs.ND (Xu)
open Go.Proofs.Mem
theorem qG(l:List Zx):∀u∈l.flatMap Z8,u.oneCell'=true:=fun u hu=>by
 obtain⟨z,-,hz⟩:=List.mem_flatMap.1 hu;exact FU z u hz
theorem E8(v:Value)(L0:List WE)(x:Zx)(at':Int)(w:World)(hT:Xu w)(hv:WY w v L0):Calls prog 12 #[v,.agg (Z8 x).toArray,.int .i64 at'] w fun e w'=>e = .returned (.bool true)∧Below w w w':=by
 obtain⟨xp,xs,xb,xf⟩:=x;dsimp only[Z8];have hz:=Z9 w (.cells (Qb xp xs xb xf) 59);have HB:Hid (Below w w (w.alloc (.cells (Qb xp xs xb xf) 59))):=Z' w _;have wO:w.heap.size<(w.alloc (.cells (Qb xp xs xb xf) 59)).heap.size:=by rw[size_alloc];omega
 have HZ:=Zh hz;have CS:=Zh (zG (w.alloc (.cells (Qb xp xs xb xf) 59)) (Utf8Tabs_below hT HB.o));have CF:=Zh (fun(w':World) (h:Below w w w')=>pS v L0 w' (hv.below h));have HT:Hid (∀w',Below w w w'→Xu w'):=fun w' h=>Utf8Tabs_below hT h
 have hL:(L0.take 60).length≤60:=by rw[SY];omega
 generalize L0.take 60=L at *
 have CY:=Zh (fun(v':Value) (w':World) (hT:Xu w') (h:WY w' v' L)=>fg v' L w' hT h Zo);have CWP:=Zh (fun(v':Value) (x:Zx) (a:Int) (w':World) (hT:Xu w') (h:WY w' v' L)=>pd v' L x a w' hT h Zo);have CCP:=Zh (fun(v':Value) (x:Zx) (a:Int) (w':World) (hT:Xu w') (h:WY w' v' L)=>xJ v' L x a w' hT h Zo);have CQP:=Zh (fun(v':Value) (x:Zx) (a:Int) (w':World) (hT:Xu w') (h:WY w' v' L)=>E7 v' L x a w' hT h Zo);clear hT hv hz;go_enter func12,ntmps12;go_upto_region 1 with fail
 generalize(w.alloc (.cells (Qb xp xs xb xf) 59))=w0 at *
 go_upto_region 5 with(first|(go_at_call 25;refine CS.o.mono ?_;rintro e w1 ⟨rfl,YZ⟩;have VN:Hid (Below w w w1):=Tr HB YZ;have HZ1:=Zh ((YZ.block _ (ZX HZ.o)).trans HZ.o);clear YZ)|(go_at_call 26;refine(CF.o _ VN.o).mono ?_;rintro e w' ⟨⟨v',rfl,ho⟩,rfl⟩;obtain⟨va,vc,h_,hvc,yD⟩:=WY.form ho;subst h_;have HO:=Zh ho;clear ho)|(go_at_call 17;refine(CY.o _ _ (HT.o _ VN.o) HO.o).mono ?_;rintro e w3 ⟨k,rb,vs,vc2,av,ev,lv,E,T,RY,epY,rfl,L9⟩;have Yg:=Zh L9.Zf;have ZW:=Row.Z4 L9.st.QM;obtain⟨la,lc,uI⟩:=Row.form ZW;subst uI;have rR:=Zh L9;clear L9 ZW))
 have HYR:Hid (tT w3 k L):=⟨Zo,_,_,_,_,_,_,_,_,_,_,_,rR.o⟩;have WU:Hid (Below w w w3):=Tr VN Yg.o;have eK:=Zh (HO.o.below Yg.o);have iL:Hid (∀w',Below w3 w3 w'→Xu w'):=fun w' h=>HT.o _ (Tr WU h)
 have rS:=Zh ((Yg.o.block _ (ZX HZ1.o)).trans HZ1.o);have p7:w3.cell? ⟨k,3,none⟩=some (.slice la (Zu L L.length L.length).length lc):=Zc rR.o.st.Y8 3 rfl;have ZW:=Row.Z4 rR.o.st.QM;have hlb:(Zu L L.length L.length).length≤6144000:=PX (Sd L L.length L.length) Zo;clear CS CF CY HO HT rR VN Yg HB HZ HZ1 wO;have CW:=Zh (fun x a w' (h:Below w3 w3 w')=>CWP.o _ x a w' (iL.o _ h) (eK.o.below h));have CQ:=Zh (fun x a w' (h:Below w3 w3 w')=>CQP.o _ x a w' (iL.o _ h) (eK.o.below h));have CC:=Zh (fun x a w' (h:Below w3 w3 w')=>CCP.o _ x a w' (iL.o _ h) (eK.o.below h));have RW:=Zh (fun x a w' (h:Below w3 w3 w')=>dV (HYR.o.below h) x a);have RQ:=Zh (fun x a w' (h:Below w3 w3 w')=>mY (HYR.o.below h) x a);have RC:=Zh (fun x a w' (h:Below w3 w3 w')=>curR (HYR.o.below h) x a);clear CWP CQP CCP HYR iL eK;generalize Zu L L.length L.length=LS at *
 generalize Oo L=FW at *
 generalize Sr L=FQ at *
 generalize MO L=FC at *
 have jC:=Zh (fun w' (h:Below w3 w3 w')=>Row.below ZW h);have ZB:Hid (∀w',Below w3 w3 w'→w'.heap[w.heap.size]?=some (.cells (Qb xp xs xb xf) 59)∧w'.cell? ⟨k,3,none⟩=some (.slice la LS.length lc)):=fun w' h=>⟨(h.block _ (ZX rS.o)).trans rS.o,ZG p7 h⟩
 clear ZW p7;go_cut [8] (fun s8 wx=>∃aa ac,s8 = .slice aa (1+LS.length) ac∧Row wx 59 (.slice aa (1+LS.length) ac) (1+LS.length) ([(⟨xp,xs,xb,xf⟩:Zx)].flatMap Z8++LS.flatMap Z8)∧Below w3 w3 wx)
 case first=>
  refine R5 ?_;refine Z_.Zj (d:=6) (S:=(fun w'=>w'.heap[w.heap.size]?=some (.cells (Qb xp xs xb xf) 59)∧w'.cell? ⟨k,3,none⟩=some (.slice la LS.length lc))) Zk ?_ (fun X7=>?_)
  ·exact ZB.o _ (YI _ _).drew
  refine YP 2 (h:=YP 3 (h:=YP 4 (h:=?_)));refine Z_.tk 0 ?_ rfl ?_ <| ?_
  rotate_left
  ·intro wS Ub;(try dsimp only at Ub)
   refine Vh 59 (.tmp 4) ?_ w ?_ 59 (Qb xp xs xb xf) (0,0) _ Ub.1 underlying59 rfl Zk;all_goals rfl
  try simp only[Z_.pt]
  refine YK 5 (h:=?_);refine YR 1 (h:=fun K hK=>?_);go_simp;refine Z_.Y9 hK _ _ ?_ (fun XC=>?_)
  ·exact ZB.o _ (by first|exact(YI _ _).drew|exact ZF (YI _ _).drew (Zw _) _)
  clear hK K;try simp only[Z_.pt]
  refine YR 6 (h:=fun K hK=>?_);refine Ze Zr (.tmp 20) (.tmp 24) 39 Zr w3 MP (.slice (some ⟨w3,0,none⟩) 1 1) 1 ([(⟨xp,xs,xb,xf⟩:Zx)].flatMap Z8) Zr (Rm.O7 w3.drew 59 4 1 w3 w3.heap.size ([(⟨xp,xs,xb,xf⟩:Zx)].flatMap Z8) rfl Zd rfl (Zw _)) (.slice la LS.length lc) LS.length (LS.flatMap Z8) Zr (jC.o _ (ZF (YI _ _).drew (Zw _) _)) (XN Z8 4 (fun _=>rfl) LS) (qG LS) Zo Zo (by show w3.heap.size≤(w3.drew.alloc _).heap.size;rw[size_alloc];exact J_ _) ?_;intro v4 w4 HO4 HG4;have eX:Hid (Below w3 w3 w4):=(ZF (YI w3 w3).drew (Zw _) (.cells (Qb xp xs xb xf) 59)).grown HG4.o (by rw[size_alloc];exact J_ _) (fun k hk=>by cases hk;exact Zw _);obtain⟨aa,ac,hv4⟩:=Row.form (Row.Z4 HO4.o);subst hv4;refine Z_.Yf hK _ _ Zk ?_;clear hK K;try simp only[Z_.pt]
  refine YP 7 (h:=?_);refine Z_.Yx Zk ?_ _;refine QZ ?_;go_wp2_with fail
  go_meet;exact⟨aa,ac,rfl,Row.Z4 HO4.o,eX.o⟩
 case rest=>
  obtain⟨w5,rfl⟩:∃W:World,W=wc:=⟨_,rfl⟩;obtain⟨aa,ac,rfl,hra,Xz⟩:=hcut;have bL:Hid (Row w5 59 (.slice aa (1+LS.length) ac) (1+LS.length) (((⟨xp,xs,xb,xf⟩:Zx) :: LS).flatMap Z8)):=hra;have G_:=Zh Xz;have hAL:((⟨xp,xs,xb,xf⟩:Zx) :: LS).length=1+LS.length:=by rw[List.length_cons];omega
  generalize((⟨xp,xs,xb,xf⟩:Zx) :: LS)=AL at *
  rw[←hAL]at bL;rw[←hAL];have hAB:AL.length≤6144001:=by omega
  clear hra Xz ZB jC rS hAL;go_wp2_with fail
  go_loopw [12,28,46] (fun s12 s28 s46 w'=>∃i:Nat,i≤AL.length∧s28 = .int .i64 (i:Int)∧Below w5 w5 w') (fun _ s28 _ _=>AL.length-(intOf s28).toNat)
  case atStart=>exact⟨0,Zo,rfl,YI _ _⟩
  case round=>
   obtain⟨i,hi,rfl,Xz⟩:=hrel;have HBI:=Zh Xz;by_cases lI:i<AL.length
   ·obtain⟨gl,ol,el,V7⟩:=TI Z8 4 (fun _=>rfl) (bL.o.below Xz) Zo;subst el;have hx:AL[i]?=some AL[i]:=Ve lI;have V7:=V7 i _ hx;clear hx;generalize AL[i]=z at *
    obtain⟨zp,zs,zb,zf⟩:=z;have NA:wr.rangeAt gl (ol+i*4) (Qb zp zs zb zf):=fun m' v' af=>(V7 m' (by have h:=(List.getElem?_eq_some_iff.1 af).1;simpa using h)).trans af
    have hiI:(i:Int)<(AL.length:Int):=P6.2 lI;have hz:=Z9 wr (.cells (Qb 0 0 0 0) 59);have SQ:=setRow_heap _ _ _ (Qb zp zs zb zf) _ _ hz;have Va:Hid (Below w5 w5 (((wr.alloc (.cells (Qb 0 0 0 0) 59)).setRow wr (Qb zp zs zb zf)))):=Xz.trans ((Z0 (Z' wr _) (Zw _) _).mono Xz.size);have CWZ:=Zh (CW.o ⟨zp,zs,zb,zf⟩);have CQZ:=Zh (CQ.o ⟨zp,zs,zb,zf⟩);have CCZ:=Zh (CC.o ⟨zp,zs,zb,zf⟩);have RWZ:=Zh (RW.o ⟨zp,zs,zb,zf⟩);have RQZ:=Zh (RQ.o ⟨zp,zs,zb,zf⟩);have RCZ:=Zh (RC.o ⟨zp,zs,zb,zf⟩);generalize FW ⟨zp,zs,zb,zf⟩=GW at *
    generalize FQ ⟨zp,zs,zb,zf⟩=GQ at *
    generalize FC ⟨zp,zs,zb,zf⟩=GC at *
    dsimp only[Z8]at CWZ CQZ CCZ RWZ RQZ RCZ;clear V7 Xz CW CQ CC RW RQ RC;go_upto_region 9 with(first|(with_reducible refine Zm NA underlying59 ?_)|(with_reducible refine Zs hz ?_))
    clear hz NA;generalize(((wr.alloc (.cells (Qb 0 0 0 0) 59)).setRow wr (Qb zp zs zb zf)))=w4 at *
    generalize wr.heap.size=kz at *
    have HZZ:=Zh SQ;have z2:w4.cell? ⟨kz,2,none⟩=some (.int .i64 zb):=Zc SQ 2 rfl;have z3:w4.cell? ⟨kz,3,none⟩=some (.int .i64 zf):=Zc SQ 3 rfl;clear SQ;go_cut [44,45,46] (fun s44 s45 s46 wx=>∃v0 v1 v2 v3:Int,s44 = .slice (some ⟨w4,0,none⟩) 4 4∧s45 = .int .i64 4∧s46 = .int .i64 0∧wx=w4.alloc (.cells (Qb v0 v1 v2 v3) 3))
    case first=>
     go_wp2_with fail
     go_meet;exact⟨_,_,_,_,rfl,rfl,rfl,rfl⟩
    case rest=>
     obtain⟨w6,rfl⟩:∃W:World,W=wc:=⟨_,rfl⟩;obtain⟨v0,v1,v2,v3,rfl,rfl,rfl,hwc⟩:=hcut;have hr:=Z9 w4 (.cells (Qb v0 v1 v2 v3) 3);have TW:=Z' w4 (.cells (Qb v0 v1 v2 v3) 3);rw[←hwc]at hr TW;have HZ6:=Zh ((TW.block _ (ZX HZZ.o)).trans HZZ.o);have tD:Hid (Below w5 w5 w6):=Tr Va TW;generalize w4.heap.size=kr at *
     have SR:Hid (∀j,j<4→∃v:Int,w6.cell? ⟨kr,j,none⟩=some (.int .i64 v)):=fun j hj=>by
      rw[cell_of hr j]
      match j,hj with
      | 0,_=>exact⟨v0,rfl⟩
      | 1,_=>exact⟨v1,rfl⟩
      | 2,_=>exact⟨v2,rfl⟩
      | 3,_=>exact⟨v3,rfl⟩
     have DY:Hid (Below w3 w3 w6):=Tr G_ tD.o;clear hr TW hwc z2 z3 HZZ Va;have ZB:Hid (∀w',Below w6 w6 w'→w'.heap[kz]?=some (.cells (Qb zp zs zb zf) 59)):=fun w' h=>(h.block _ (ZX HZ6.o)).trans HZ6.o
     go_wp2_with fail
     go_loopw [12,46] (fun s12 s46 w'=>∃j:Nat,j≤4∧s46 = .int .i64 (j:Int)∧Below w6 w6 w') (fun _ s46 _=>4-(intOf s46).toNat)
     case atStart=>exact⟨0,Zo,rfl,YI _ _⟩
     case round=>
      obtain⟨j,hj,rfl,Xz⟩:=hrel;have DZ:=Zh Xz;by_cases hj4:j<4
      ·obtain⟨v,hv⟩:=SR.o j hj4;have hv:=ZG hv Xz;have z2:wr.cell? ⟨kz,2,none⟩=some (.int .i64 zb):=Zc (ZB.o _ Xz) 2 rfl;have z3:wr.cell? ⟨kz,3,none⟩=some (.int .i64 zf):=Zc (ZB.o _ Xz) 3 rfl;have hj4I:(j:Int)<4:=by omega
       clear Xz;go_upto_region 12 with fail
       go_cut [67] (fun s67 wx=>∃b:Bool,s67 = .bool b∧wx=wr)
       case' first=>
        cases h1:decide (zb<0) <;> cases h2:decide (300<zb) <;> cases h3:decide (zf<0) <;> cases h4:decide (300<zf)
        all_goals
         go_wp2_with fail
         go_meet;exact⟨_,rfl,rfl⟩
       case' rest=>
        obtain⟨b,rfl,hw⟩:=hcut;subst hw;clear hv z2 z3;go_upto_if 67 with fail
        go_cut [12] (fun s12 wx=>∃kk:Int,s12 = .int .i64 kk∧Below w6 w6 wx)
       case first=>
        cases b
        all_goals
         go_wp2_with fail
         go_meet;exact⟨_,rfl,DZ.o⟩
       case rest=>
        obtain⟨w7,rfl⟩:∃W:World,W=wc:=⟨_,rfl⟩;obtain⟨kk,rfl,MV⟩:=hcut;have DZ:=Zh MV;clear MV;have CW:=Zh (fun w' (h:Below w6 w6 w')=>CWZ.o kk w' (Tr DY h));have CQ:=Zh (fun w' (h:Below w6 w6 w')=>CQZ.o kk w' (Tr DY h));have CC:=Zh (fun w' (h:Below w6 w6 w')=>CCZ.o kk w' (Tr DY h));have RW:=Zh (fun w' (h:Below w6 w6 w')=>RWZ.o kk w' (Tr DY h));have RQ:=Zh (fun w' (h:Below w6 w6 w')=>RQZ.o kk w' (Tr DY h));have RC:=Zh (fun w' (h:Below w6 w6 w')=>RCZ.o kk w' (Tr DY h));generalize GW kk=gw at *
        generalize GQ kk=gq at *
        generalize GC kk=gc at *
        clear CWZ CQZ CCZ RWZ RQZ RCZ;go_upto_region 14 with fail
        refine R5 ?_;refine Z_.Zj (d:=30) (S:=(fun w'=>w'.heap[kz]?=some (.cells (Qb zp zs zb zf) 59))) Zk ?_ (fun X7=>?_)
        ·exact ZB.o _ DZ.o.drew
        refine YP 0 (h:=YP 2 (h:=YP 4 (h:=YP 6 (h:=?_))));refine Z_.bo 1 [20,17,9,7,3] ?_ rfl ?_ <| ?_
        rotate_left
        ·exact Yt4
        try simp only[Z_.pt]
        refine Z_.bo 5 [20,17,9,7] ?_ rfl ?_ <| ?_
        rotate_left
        ·exact Yt4
        try simp only[Z_.pt]
        refine YR 3 (h:=fun K hK=>?_);go_simp;refine(CW.o _ (by first|exact DZ.o.drew|exact DZ.o)).mono ?_;rintro e wA ⟨rfl,hb⟩;have HCA:Hid (Below w6 w6 wA):=(by first|exact DZ.o.drew.trans (hb.mono DZ.o.drew.size)|exact Tr DZ hb);clear hb;go_wp2_with fail
        refine Z_.Y9 hK _ _ ?_ (fun XC=>?_)
        ·exact Yt3
        clear hK K;try simp only[Z_.pt]
        refine YR 7 (h:=fun K hK=>?_);go_simp;refine(RW.o _ (by first|exact HCA.o.drew|exact HCA.o)).mono ?_;rintro e wB ⟨rfl,hb⟩;have js:Hid (Below w6 w6 wB):=(by first|exact HCA.o.drew.trans (hb.mono HCA.o.drew.size)|exact Tr HCA hb);clear hb;go_wp2_with fail
        refine Z_.Y9 hK _ _ ?_ (fun Vz=>?_)
        ·exact Yt3
        clear hK K;try simp only[Z_.pt]
        refine YP 8 (h:=YP 9 (h:=YP 10 (h:=YP 12 (h:=YP 14 (h:=YP 16 (h:=?_))))));refine Z_.bo 11 [20,17,13] ?_ rfl ?_ <| ?_
        rotate_left
        ·exact Yt4
        try simp only[Z_.pt]
        refine Z_.bo 15 [20,17] ?_ rfl ?_ <| ?_
        rotate_left
        ·exact Yt4
        try simp only[Z_.pt]
        refine YR 13 (h:=fun K hK=>?_);go_simp;refine(CQ.o _ (by first|exact js.o.drew|exact js.o)).mono ?_;rintro e wC ⟨rfl,hb⟩;have BU:Hid (Below w6 w6 wC):=(by first|exact js.o.drew.trans (hb.mono js.o.drew.size)|exact Tr js hb);clear hb;go_wp2_with fail
        refine Z_.Y9 hK _ _ ?_ (fun N1=>?_)
        ·exact Yt3
        clear hK K;try simp only[Z_.pt]
        refine YR 17 (h:=fun K hK=>?_);go_simp;refine(RQ.o _ (by first|exact BU.o.drew|exact BU.o)).mono ?_;rintro e wD ⟨rfl,hb⟩;have HCD:Hid (Below w6 w6 wD):=(by first|exact BU.o.drew.trans (hb.mono BU.o.drew.size)|exact Tr BU hb);clear hb;go_wp2_with fail
        refine Z_.Y9 hK _ _ ?_ (fun I5=>?_)
        ·exact Yt3
        clear hK K;try simp only[Z_.pt]
        refine YP 18 (h:=YP 19 (h:=YP 20 (h:=YP 21 (h:=YP 23 (h:=YP 25 (h:=YP 27 (h:=?_)))))));refine Z_.bo 22 [29,24] ?_ rfl ?_ <| ?_
        rotate_left
        ·exact Yt4
        try simp only[Z_.pt]
        refine Z_.bo 26 [29,28] ?_ rfl ?_ <| ?_
        rotate_left
        ·exact Yt4
        try simp only[Z_.pt]
        refine YR 24 (h:=fun K hK=>?_);go_simp;refine(CC.o _ (by first|exact HCD.o.drew|exact HCD.o)).mono ?_;rintro e wE ⟨rfl,hb⟩;have jt:Hid (Below w6 w6 wE):=(by first|exact HCD.o.drew.trans (hb.mono HCD.o.drew.size)|exact Tr HCD hb);clear hb;go_wp2_with fail
        refine Z_.Y9 hK _ _ ?_ (fun I6=>?_)
        ·exact Yt3
        clear hK K;try simp only[Z_.pt]
        refine YR 28 (h:=fun K hK=>?_);go_simp;refine(RC.o _ (by first|exact jt.o.drew|exact jt.o)).mono ?_;rintro e wF ⟨rfl,hb⟩;have bC:Hid (Below w6 w6 wF):=(by first|exact jt.o.drew.trans (hb.mono jt.o.drew.size)|exact Tr jt hb);clear hb;go_wp2_with fail
        refine Z_.Y9 hK _ _ ?_ (fun ux=>?_)
        ·exact Yt3
        clear hK K;try simp only[Z_.pt]
        refine YP 29 (h:=?_);refine YR 30 (h:=fun K hK=>?_);go_simp;refine Z_.Yf hK _ _ Zk ?_;clear hK K;try simp only[Z_.pt]
        refine Z_.Yx Zk ?_ _;refine QZ ?_;go_wp2_with fail
        go_roundw
        case rel=>exact⟨j+1,Zo,Zn,bC.o⟩
        case measure=>simp[intOf];omega
      ·have Mi:j=4:=by omega
       subst Mi;clear Xz;go_wp2_with fail
       go_roundw
       case rel=>exact⟨i+1,Zo,Zn,Tr tD DZ.o⟩
       case measure=>simp[intOf];omega
   ·have hii:i=AL.length:=by omega
    subst hii;clear Xz;go_wp2_with fail
    go_ret;exact⟨rfl,WU.o.trans ((Tr G_ HBI.o).mono WU.o.size)⟩
open Go.ChangeShapes Go.WideShapes Go.ChangeAt
theorem four{α:Type}:∀ {cs:List α},cs.length=4→∃a b c d,cs=[a,b,c,d]
 | [a,b,c,d],_=>⟨a,b,c,d,rfl⟩
theorem qJ{H:Type}{enc:TypeId×Value→H}{W:World}{base:Nat}{sp:Nat→Bool}{held:Bool}{v:Value}{d:DataW H}{ps:List MemPlace}(h:DataW.Trod enc prog W base sp held 59 v d ps):∃x:Zx,v = .agg (Z8 x).toArray:=by
 obtain⟨fuel,h⟩:=h;obtain⟨xs,n,_,qw,hlen,aO,hf⟩:=DataW.trod_struct underlying59 h;have hC:prog.cellsOf 59=4:=by kernel_rfl
 have k1:prog.cellsOf 3=1:=by kernel_rfl
 rw[hC]at hlen;obtain⟨cs,TN⟩:∃cs,v.cells.toList=cs:=⟨_,rfl⟩;rw[TN]at hlen hf;obtain⟨c0,c1,c2,c3,rfl⟩:=four hlen
 ·skip
  have hi:∀j c,j<4→([c0,c1,c2,c3].drop j).take 1=[c]→(∀y,xs[j]?=some y→DataW.trod enc prog W base sp held n 3 (([c0,c1,c2,c3].drop j).take (prog.cellsOf 3))=some y)→∃z,c = .int .i64 z:=fun j c hj he hy=>by
   have hh:=hy _ (Ve (by rw[aO];exact hj));rw[k1,he]at hh;obtain⟨z,g,_⟩:=DataW.trod_int underlying3 hh;exact⟨z,by injection g⟩
  obtain⟨z0,rfl⟩:=hi 0 c0 Zo rfl (fun y e=>(hf 0 _ rfl).trans e);obtain⟨z1,rfl⟩:=hi 1 c1 Zo rfl (fun y e=>(hf 1 _ rfl).trans e);obtain⟨z2,rfl⟩:=hi 2 c2 Zo rfl (fun y e=>(hf 2 _ rfl).trans e);obtain⟨z3,rfl⟩:=hi 3 c3 Zo rfl (fun y e=>(hf 3 _ rfl).trans e);refine⟨⟨z0,z1,z2,z3⟩,?_⟩;cases v with
  | agg a=>
   have ha:a.toList=(Qb z0 z1 z2 z3):=TN;show Value.agg a = .agg [.int .i64 z0,.int .i64 z1,.int .i64 z2,.int .i64 z3].toArray;rw[←ha]
  | _=>exact absurd (congrArg List.length TN) (by simp[Value.cells])
end Go.Proofs.By
