/- Several texts in one: The view of a life in memory; the walks of its small functions. The walks of a view's packet and opens. The walks of a book's op, of own, and of what a view tells. -/
import Derived.Deep.QuietTactic
import Derived.BigQuiet
import Derived.Test.YtpdjhlcbcomdkaaGreatDoorV01
import Derived.Test.YtpdjhlcbcomdkaaGreatDoorV02
import Derived.Test.YtpdjhlcbcomdkaaGreatDoorV12
import Derived.Test.YtpdjhlcbcomdkaaGreatDoorV17
set_option linter.unusedVariables false
set_option linter.unusedSimpArgs false
set_option linter.unusedSimpArgs false
namespace Go.Proofs.By
open Go.RowKit Go.Proofs.Heap Go.Proofs
open Go.Proofs.Rm (below_drewN)
structure VB (w:World) (V k:Nat) (ov av mv lv:Value) (L:List OpB) (x:Life) (wv cv qv:Value):Prop where
 book:w.heap[k]?=some (.cells #[ov,av,mv,lv] 116 (0,0))
 ops:OpBsR w ov L
 adm:Row w 35 av L.length ((admsTo L L.length).flatMap admC4)
 med:∃ M:List MedV,Row w 97 mv M.length (M.flatMap medvCells)∧(∀ y∈M,PktR w y.p y.cv y.ev y.pv)∧M.map (fun y=>(y.p,y.d))=medsTo L L.length
 view:w.heap[V]?=some (.cells #[.pointer (some ⟨k,0,none⟩),.int .i64 x.peer,.int .i64 x.source,.int .i64 x.bgn,.int .i64 x.fin,wv,cv,qv] 164 (0,0))
structure VAt (w:World) (wv cv qv:Value) (j:Nat) (s:VS):Prop where
 want:∃ g o n c,wv = .slice (some ⟨g,o,none⟩) n c∧j<n∧w.cell? ⟨g,o+j,none⟩=some (.int .i64 s.want)
 cur:∃ g o n c,cv = .slice (some ⟨g,o,none⟩) n c∧j<n∧w.cell? ⟨g,o+j,none⟩=some (.int .i64 s.cur)
 quiet:∃ g o n c,qv = .slice (some ⟨g,o,none⟩) n c∧j<n∧w.cell? ⟨g,o+j,none⟩=some (.bool s.quiet)
def intsV (l:List Int):List Value:=l.map fun z=> .int .i64 z
def boolsV (l:List Bool):List Value:=l.map fun z=> .bool z
structure VRows (w:World) (wv cv qv:Value) (SS:List VS):Prop where
 want:Row w 3 wv SS.length (intsV (SS.map VS.want))
 cur:Row w 3 cv SS.length (intsV (SS.map VS.cur))
 quiet:Row w 4 qv SS.length (boolsV (SS.map VS.quiet))
theorem row_cell {w:World} {e:TypeId} {v:Value} {n:Nat} {xs:List Value} (h:Row w e v n xs) {j:Nat} {u:Value} (hu:xs[j]?=some u) (hj:j<n):∃ g o n' c,v = .slice (some ⟨g,o,none⟩) n' c∧j<n'∧w.cell? ⟨g,o+j,none⟩=some u:=by
 have hl:j<xs.length:=(List.getElem?_eq_some_iff.1 hu).1
 obtain ⟨g,off,cap,h1,h2,h3,h4,h5⟩:=Row.open h (by omega)
 exact ⟨g,off,n,cap,h1,hj,(h5 j hl).trans hu⟩
theorem VRows.at {w:World} {wv cv qv:Value} {SS:List VS} (h:VRows w wv cv qv SS) {j:Nat} {s:VS} (hs:SS[j]?=some s):VAt w wv cv qv j s:=by
 have hl:j<SS.length:=(List.getElem?_eq_some_iff.1 hs).1
 exact ⟨row_cell h.want (by simp [intsV,hs]) hl,row_cell h.cur (by simp [intsV,hs]) hl,row_cell h.quiet (by simp [boolsV,hs]) hl⟩
section
variable {w w':World} {V k:Nat} {ov av mv lv:Value} {L:List OpB} {x:Life} {wv cv qv:Value}
theorem VB.below (h:VB w V k ov av mv lv L x wv cv qv) (hb:Below w.heap.size w w'):VB w' V k ov av mv lv L x wv cv qv:=by
 obtain ⟨M,m1,m0,m2⟩:=h.med
 exact ⟨(hb.block _ (hp_lt h.book)).trans h.book,h.ops.below hb,Row.below h.adm hb,⟨M,Row.below m1 hb,fun y hy=>(m0 y hy).below hb,m2⟩,(hb.block _ (hp_lt h.view)).trans h.view⟩
theorem VRows.below {SS:List VS} (h:VRows w wv cv qv SS) (hb:Below w.heap.size w w'):VRows w' wv cv qv SS:=⟨Row.below h.want hb,Row.below h.cur hb,Row.below h.quiet hb⟩
theorem cell_old {g o:Nat} {u:Value} (h:w.cell? ⟨g,o,none⟩=some u) (hb:Below w.heap.size w w'):w'.cell? ⟨g,o,none⟩=some u:=by
 have hg:g<w.heap.size:=by
  rcases Nat.lt_or_ge g w.heap.size with h1|h1
  ·exact h1
  ·simp only [World.cell?,Array.getElem?_eq_none h1] at h;cases h
 exact (hb.cell (p:=⟨g,o,none⟩) hg).trans h
theorem VAt.below {j:Nat} {s:VS} (h:VAt w wv cv qv j s) (hb:Below w.heap.size w w'):VAt w' wv cv qv j s:=by
 obtain ⟨⟨g1,o1,n1,c1,a1,b1,d1⟩,⟨g2,o2,n2,c2,a2,b2,d2⟩,⟨g3,o3,n3,c3,a3,b3,d3⟩⟩:=h
 exact ⟨⟨g1,o1,n1,c1,a1,b1,cell_old d1 hb⟩,⟨g2,o2,n2,c2,a2,b2,cell_old d2 hb⟩,⟨g3,o3,n3,c3,a3,b3,cell_old d3 hb⟩⟩
theorem op_at (h:OpBsR w ov L) {j:Nat} (hj:j<L.length):∃ g o c nm a1 n1 c1 a2 n2 c2,ov = .slice (some ⟨g,o,none⟩) L.length c ∧
  w.rangeAt g (o+j*7) [.int .i64 (opAt L j).kind,.int .i64 (opAt L j).peer,.int .i64 (opAt L j).source,.int .i64 (opAt L j).layer,.string nm,.slice a1 n1 c1,.slice a2 n2 c2]:=by
 obtain ⟨va,vc,rfl,-,-⟩:=h.form
 obtain ⟨g,o,cap,e1,-,-,-,hat⟩:=Rm.row_atR (fun y:OpB=>Rm.opvCells y.x) 7 (fun _=>rfl) (by omega) h.row (by omega)
 cases e1
 have hy:L[j]?=some L[j]:=List.getElem?_eq_getElem hj
 have hat:=hat j _ hy
 have e2:opAt L j=L[j].x.o:=by unfold opAt;rw [hy]
 rw [e2]
 exact ⟨g,o,_,_,_,_,_,_,_,_,rfl,fun m v hm=>(hat m Yo18).trans hm⟩
theorem adm_atV {n:Nat} (h:Row w 35 av n ((admsTo L n).flatMap admC4)) {j:Nat} (hj:j<n):∃ g o c,av = .slice (some ⟨g,o,none⟩) n c ∧
  w.rangeAt g (o+j*4) [.int .i64 (takenAt L j).adm.kind,.int .i64 (takenAt L j).adm.source,.int .i64 (takenAt L j).adm.epoch,.int .i64 (takenAt L j).adm.err]:=by
 obtain ⟨a,c,rfl⟩:=Row.form h
 obtain ⟨g,o,e,h2⟩:=row_atB admC4 4 (fun _=>rfl) h (by rw [admsTo_len];omega)
 cases e
 have hx:(admsTo L n)[j]?=some (takenAt L j).adm:=by unfold admsTo;rw [List.getElem?_map,List.getElem?_range hj];rfl
 exact ⟨g,o,c,rfl,fun m v hm=>(h2 j _ hx m Yo18).trans hm⟩
theorem med_at (h:VB w V k ov av mv lv L x wv cv qv) {j:Nat} (hj:j<L.length):∃ g o c a1 n1 c1 a2 n2 c2 a3 n3 c3,mv = .slice (some ⟨g,o,none⟩) L.length c ∧
  w.rangeAt g (o+j*15) (medCells (takenAt L j).pkt (takenAt L j).dsc (.slice a1 n1 c1) (.slice a2 n2 c2) (.slice a3 n3 c3)):=by
 obtain ⟨M,m1,m0,m2⟩:=h.med
 have hl:M.length=L.length:=by have h1:=congrArg List.length m2;rwa [List.length_map,medsTo_len] at h1
 rw [hl] at m1
 obtain ⟨a,c,rfl⟩:=Row.form m1
 obtain ⟨g,o,e,h2⟩:=row_atB medvCells 15 (fun _=>rfl) m1 (by omega)
 cases e
 have hj':j<M.length:=by omega
 have hx:M[j]?=some M[j]:=List.getElem?_eq_getElem hj'
 have he:(M[j].p,M[j].d)=((takenAt L j).pkt,(takenAt L j).dsc):=by
  have h3:=congrArg (fun l=>l[j]?) m2
  try dsimp only at h3
  rw [List.getElem?_map,hx] at h3
  unfold medsTo at h3
  rw [List.getElem?_map,List.getElem?_range hj] at h3
  exact Option.some.inj h3
 injection he with e1 e2
 have hat:=h2 j _ hx
 have hp:=m0 M[j] (List.getElem_mem hj')
 generalize M[j]=y at *
 obtain ⟨p,d,cv',ev',pv'⟩:=y
 obtain ⟨⟨a1,c1,q1⟩,⟨a2,c2,q2⟩,⟨a3,c3,q3⟩⟩:=hp.form
 dsimp only at q1 q2 q3 e1 e2
 subst q1;subst q2;subst q3;subst e1;subst e2
 exact ⟨g,o,c,a1,_,c1,a2,_,c2,a3,_,c3,rfl,fun m v hm=>(hat m (by have h:=(List.getElem?_eq_some_iff.1 hm).1;simpa [medCells] using h)).trans hm⟩
end
theorem range_sub {w:World} {g o:Nat} {xs ys:List Value} (h:w.rangeAt g o xs) (i:Nat) (hy:∀ m v,ys[m]?=some v→xs[i+m]?=some v):w.rangeAt g (o+i) ys:=fun m v hm=>by rw [Nat.add_assoc];exact h (i+m) v (hy m v hm)
theorem Vlies_any (V:Nat) (p s b f:Int) (wv cv qv bv:Value) (w:World) (h:w.heap[V]?=some (.cells #[bv,.int .i64 p,.int .i64 s,.int .i64 b,.int .i64 f,wv,cv,qv] 164 (0,0))) (at':Int) :
  Calls Tryz.prog 115 #[.pointer (some ⟨V,0,none⟩),.int .i64 at'] w fun e w'=>e = .returned (.bool (lies ⟨p,s,b,f⟩ at'))∧w=w':=by
 have c3:w.cell? ⟨V,3,none⟩=some (.int .i64 b):=by rw [cell_of h 3];rfl
 have c4:w.cell? ⟨V,4,none⟩=some (.int .i64 f):=by rw [cell_of h 4];rfl
 have HX:Hid (lies ⟨p,s,b,f⟩ at'=(decide (b<at') && decide (at'<f))):=rfl
 generalize lies ⟨p,s,b,f⟩ at'=X at *
 clear h
 by_cases h1:b<at'
 ·have d1:decide (b<at')=true:=decide_eq_true h1
  go_enter Tryz.func115,Tryz.ntmps115
  go_wp2_with fail
  go_ret
  exact ⟨by rw [HX.out,d1];rfl,rfl⟩
 ·have d1:decide (b<at')=false:=decide_eq_false h1
  go_enter Tryz.func115,Tryz.ntmps115
  go_wp2_with fail
  go_ret
  exact ⟨by rw [HX.out,d1];rfl,rfl⟩
end Go.Proofs.By
set_option linter.unusedSimpArgs false
namespace Go.Proofs.By
open Go.RowKit Go.Proofs.Heap Go.Proofs
open Go.Proofs.Rm (below_drewN)
section
variable {w:World} {V k:Nat} {ov av mv lv:Value} {L:List OpB} {x:Life} {wv cv qv:Value}
set_option maxHeartbeats 2000000 in
theorem Vpacket_any (h:VB w V k ov av mv lv L x wv cv qv) {j:Nat} (hj:j<L.length) :
  Calls Tryz.prog 88 #[.pointer (some ⟨V,0,none⟩),.int .i64 (j:Int)] w fun e w'=>e = .returned (.bool (packetAt L x j))∧Below w.heap.size w w':=by
 obtain ⟨g,o,c,rfl,hrg⟩:=adm_atV h.adm hj
 have v0:w.cell? ⟨V,0,none⟩=some (.pointer (some ⟨k,0,none⟩)):=by rw [cell_of h.view 0];rfl
 have b1:w.cell? ⟨k,1,none⟩=some (.slice (some ⟨g,o,none⟩) L.length c):=by rw [cell_of h.book 1];rfl
 have hVl:=hp_lt h.view
 have HV:=Lib.hid h.view
 have HX:Hid (packetAt L x j=(lies x j && decide ((takenAt L j).adm.kind=1) && decide ((takenAt L j).adm.source=x.source))):=rfl
 have hjI:(j:Int)<(L.length:Int):=Int.ofNat_lt.2 hj
 obtain ⟨xp,xs,xb,xf⟩:=x
 generalize packetAt L ⟨xp,xs,xb,xf⟩ j=X at *
 generalize (takenAt L j).adm=A at *
 obtain ⟨ak,as',ae,ar⟩:=A
 dsimp only at HX hrg HV
 clear h
 have hz:=heap_new w (.cells #[.int .i64 0,.int .i64 0,.int .i64 0,.int .i64 0] 35)
 have hx5:=setRow_heap _ _ _ #[.int .i64 ak,.int .i64 as',.int .i64 ae,.int .i64 ar] _ _ hz
 have HB:Hid (Below w.heap.size w ((w.alloc (.cells #[.int .i64 0,.int .i64 0,.int .i64 0,.int .i64 0] 35)).setRow w.heap.size #[.int .i64 ak,.int .i64 as',.int .i64 ae,.int .i64 ar])):=below_setRow (below_alloc w _) (Nat.le_refl _) _
 go_enter Tryz.func88,Tryz.ntmps88
 go_upto_region 2 with (first|(with_reducible refine load_at 35 (.tmp 14) rfl ?_;refine wpList_load_mid rfl 35 (.tmp 14) rfl g (o+j*4) rfl [.int .i64 ak,.int .i64 as',.int .i64 ae,.int .i64 ar] _ hrg Tryz.underlying35 rfl Yo3 ?_)|(with_reducible refine store_at 35 (.tmp 5) (.tmp 15) rfl ?_;refine store_rowTo2 rfl 35 (.tmp 5) (.tmp 15) rfl rfl w.heap.size #[.int .i64 ak,.int .i64 as',.int .i64 ae,.int .i64 ar] rfl rfl 35 #[.int .i64 0,.int .i64 0,.int .i64 0,.int .i64 0] hz Yo3 Yo3 Yo3 ?_))
 clear hz hrg v0 b1
 have HVV:=Lib.hid ((HB.out.block V hVl).trans HV.out)
 generalize ((w.alloc (.cells #[.int .i64 0,.int .i64 0,.int .i64 0,.int .i64 0] 35)).setRow w.heap.size #[.int .i64 ak,.int .i64 as',.int .i64 ae,.int .i64 ar])=w5 at *
 have y0:w5.cell? ⟨w.heap.size,0,none⟩=some (.int .i64 ak):=by rw [cell_of hx5 0];rfl
 have y1:w5.cell? ⟨w.heap.size,1,none⟩=some (.int .i64 as'):=by rw [cell_of hx5 1];rfl
 have z2:w5.cell? ⟨V,2,none⟩=some (.int .i64 xs):=by rw [cell_of HVV.out 2];rfl
 have CL:Hid (∀ n,Calls Tryz.prog 115 #[.pointer (some ⟨V,0,none⟩),.int .i64 (j:Int)] (w5.drewN n) fun e w'=>e = .returned (.bool (lies ⟨xp,xs,xb,xf⟩ (j:Int)))∧w'=w5.drewN n):=fun n=>(Vlies_any V xp xs xb xf wv cv qv _ (w5.drewN n) HVV.out (j:Int)).mono fun e w' ⟨a,b⟩=>⟨a,b.symm⟩
 generalize lies ⟨xp,xs,xb,xf⟩ (j:Int)=l at *
 clear hx5
 cases l with
 | false=>
  exact Yx132
 | true=>
  by_cases h1:ak=1
  ·subst h1
   exact Yx132
  ·have e1:(ak == 1)=false:=by rw [beq_eq_false_iff_ne];exact h1
   go_quiet ((go_at_call 115;exact Calls.quiet_of_same (CL.out _)))
   have HB2:=Lib.hid (below_drewN HB.out nq)
   clear CL
   go_wp2_with fail
   go_ret
   exact ⟨by rw [HX.out,decide_eq_false h1];rfl,HB2.out⟩
set_option maxHeartbeats 2000000 in
theorem Vopens_any (h:VB w V k ov av mv lv L x wv cv qv) {j:Nat} (hj:j<L.length) {s:VS} (hs:VAt w wv cv qv j s) :
  Calls Tryz.prog 89 #[.pointer (some ⟨V,0,none⟩),.int .i64 (j:Int)] w fun e w'=>e = .returned (.bool (opensV s (takenAt L j).dsc))∧Below w.heap.size w w':=by
 obtain ⟨g,o,c,a1,n1,c1,a2,n2,c2,a3,n3,c3,rfl,hr⟩:=med_at h hj
 have hrg:w.rangeAt g (o+j*15+11) [.int .i64 (takenAt L j).dsc.layer,.bool (takenAt L j).dsc.key,.bool (takenAt L j).dsc.start,.int .u16 (takenAt L j).dsc.frame]:=range_sub hr 11 (fun m v hm=>by
  have h:=(List.getElem?_eq_some_iff.1 hm).1
  have h:m<4:=by simpa using h
  rcases m with _|_|_|_|m
  all_goals first|exact hm|omega)
 obtain ⟨⟨g1,o1,m1,d1,rfl,l1,e1⟩,⟨g2,o2,m2,d2,rfl,l2,e2⟩,⟨g3,o3,m3,d3,rfl,l3,e3⟩⟩:=hs
 have v0:w.cell? ⟨V,0,none⟩=some (.pointer (some ⟨k,0,none⟩)):=by rw [cell_of h.view 0];rfl
 have v5:w.cell? ⟨V,5,none⟩=some (.slice (some ⟨g1,o1,none⟩) m1 d1):=by rw [cell_of h.view 5];rfl
 have v6:w.cell? ⟨V,6,none⟩=some (.slice (some ⟨g2,o2,none⟩) m2 d2):=by rw [cell_of h.view 6];rfl
 have v7:w.cell? ⟨V,7,none⟩=some (.slice (some ⟨g3,o3,none⟩) m3 d3):=by rw [cell_of h.view 7];rfl
 have b2:w.cell? ⟨k,2,none⟩=some (.slice (some ⟨g,o,none⟩) L.length c):=by rw [cell_of h.book 2];rfl
 have HX:Hid (opensV s (takenAt L j).dsc=(!s.quiet && (takenAt L j).dsc.key && (takenAt L j).dsc.start && decide ((takenAt L j).dsc.layer=s.want) && !decide ((takenAt L j).dsc.layer=s.cur))):=rfl
 have hjI:(j:Int)<(L.length:Int):=Int.ofNat_lt.2 hj
 have i1:(j:Int)<(m1:Int):=Int.ofNat_lt.2 l1
 have i2:(j:Int)<(m2:Int):=Int.ofNat_lt.2 l2
 have i3:(j:Int)<(m3:Int):=Int.ofNat_lt.2 l3
 clear h hr
 generalize opensV s (takenAt L j).dsc=X at *
 generalize (takenAt L j).dsc=D at *
 generalize s.quiet=q at *
 generalize s.want=wt at *
 generalize s.cur=cu at *
 obtain ⟨ly,ke,st,fm⟩:=D
 dsimp only at HX hrg
 have hz:=heap_new w (.cells #[.int .i64 0,.bool false,.bool false,.int .u16 0] 81)
 have hx5:=setRow_heap _ _ _ #[.int .i64 ly,.bool ke,.bool st,.int .u16 fm] _ _ hz
 have HB:Hid (Below w.heap.size w ((w.alloc (.cells #[.int .i64 0,.bool false,.bool false,.int .u16 0] 81)).setRow w.heap.size #[.int .i64 ly,.bool ke,.bool st,.int .u16 fm])):=below_setRow (below_alloc w _) (Nat.le_refl _) _
 have KC:Hid (∀ (g o:Nat) (u:Value),w.cell? ⟨g,o,none⟩=some u→((w.alloc (.cells #[.int .i64 0,.bool false,.bool false,.int .u16 0] 81)).setRow w.heap.size #[.int .i64 ly,.bool ke,.bool st,.int .u16 fm]).cell? ⟨g,o,none⟩=some u):=fun g o u hc=>cell_old hc HB.out
 go_enter Tryz.func89,Tryz.ntmps89
 go_upto_region 2 with (first|(with_reducible refine load_at 81 (.tmp 15) rfl ?_;refine wpList_load_mid rfl 81 (.tmp 15) rfl g (o+j*15+11) rfl [.int .i64 ly,.bool ke,.bool st,.int .u16 fm] _ hrg Tryz.underlying81 rfl Yo3 ?_)|(with_reducible refine store_at 81 (.tmp 5) (.tmp 16) rfl ?_;refine store_rowTo2 rfl 81 (.tmp 5) (.tmp 16) rfl rfl w.heap.size #[.int .i64 ly,.bool ke,.bool st,.int .u16 fm] rfl rfl 81 #[.int .i64 0,.bool false,.bool false,.int .u16 0] hz Yo3 Yo3 Yo3 ?_))
 clear hz hrg v0 b2
 replace v5:=KC.out _ _ _ v5
 replace v6:=KC.out _ _ _ v6
 replace v7:=KC.out _ _ _ v7
 replace e1:=KC.out _ _ _ e1
 replace e2:=KC.out _ _ _ e2
 replace e3:=KC.out _ _ _ e3
 clear KC
 generalize ((w.alloc (.cells #[.int .i64 0,.bool false,.bool false,.int .u16 0] 81)).setRow w.heap.size #[.int .i64 ly,.bool ke,.bool st,.int .u16 fm])=w5 at *
 have y0:w5.cell? ⟨w.heap.size,0,none⟩=some (.int .i64 ly):=by rw [cell_of hx5 0];rfl
 have y1:w5.cell? ⟨w.heap.size,1,none⟩=some (.bool ke):=by rw [cell_of hx5 1];rfl
 have y2:w5.cell? ⟨w.heap.size,2,none⟩=some (.bool st):=by rw [cell_of hx5 2];rfl
 clear hx5
 cases q with
 | true=>
  exact Yx120
 | false=>
 cases ke with
 | false=>
  exact Yx120
 | true=>
 cases st with
 | false=>
  exact Yx120
 | true=>
 by_cases h1:ly=wt
 rotate_left
 ·have f1:(ly == wt)=false:=by rw [beq_eq_false_iff_ne];exact h1
  go_quiet (fail)
  have HB2:=Lib.hid (below_drewN HB.out nq)
  go_wp2_with fail
  go_ret
  exact ⟨by rw [HX.out,decide_eq_false h1];rfl,HB2.out⟩
 have f1:(ly == wt)=true:=by rw [beq_iff_eq];exact h1
 by_cases h2:ly=cu
 ·have f2:(ly != cu)=false:=by rw [bne_eq_false_iff_eq];exact h2
  have H1:=Lib.hid h1
  have H2:=Lib.hid h2
  clear h1 h2
  go_quiet (fail)
  have HB2:=Lib.hid (below_drewN HB.out nq)
  go_wp2_with fail
  go_ret
  exact ⟨by rw [HX.out,decide_eq_true H1.out,decide_eq_true H2.out];rfl,HB2.out⟩
 have f2:(ly != cu)=true:=by rw [bne_iff_ne];exact h2
 have H1:=Lib.hid h1
 have H2:=Lib.hid h2
 clear h1 h2
 go_quiet (fail)
 have HB2:=Lib.hid (below_drewN HB.out nq)
 go_wp2_with fail
 go_ret
 exact ⟨by rw [HX.out,decide_eq_true H1.out,decide_eq_false H2.out];rfl,HB2.out⟩
end
end Go.Proofs.By
set_option linter.unusedSimpArgs false
namespace Go.Proofs.By
open Go.RowKit Go.Proofs.Heap Go.Proofs
open Go.Proofs.Rm (below_drewN)
theorem range_at {w:World} {g o:Nat} {xs:List Value} (h:w.rangeAt g o xs) (m:Nat) {v:Value} (hm:xs[m]?=some v):w.cell? ⟨g,o+m,none⟩=some v:=h m v hm
section
variable {w:World} {V k:Nat} {ov av mv lv:Value} {L:List OpB} {x:Life} {wv cv qv:Value}
theorem Vop_any (h:VB w V k ov av mv lv L x wv cv qv) {j:Nat} (hj:j<L.length) :
  Calls Tryz.prog 143 #[.pointer (some ⟨k,0,none⟩),.int .i64 (j:Int)] w fun e w'=>e = .returned (.int .i64 (opK L j))∧w=w':=by
 obtain ⟨g,o,c,rfl,hrg⟩:=adm_atV h.adm hj
 obtain ⟨g',o',c',nm,a1,n1,c1,a2,n2,c2,rfl,hop⟩:=op_at h.ops hj
 have b0:w.cell? ⟨k,0,none⟩=some (.slice (some ⟨g',o',none⟩) L.length c'):=by rw [cell_of h.book 0];rfl
 have b1:w.cell? ⟨k,1,none⟩=some (.slice (some ⟨g,o,none⟩) L.length c):=by rw [cell_of h.book 1];rfl
 have a0:=range_at hrg 0 rfl
 have p0:=range_at hop 0 rfl
 rw [Nat.add_zero] at a0 p0
 have HX:Hid (opK L j=if (takenAt L j).adm.kind≠2∨(opAt L j).kind=1 then 0 else (opAt L j).kind):=rfl
 have hjI:(j:Int)<(L.length:Int):=Int.ofNat_lt.2 hj
 generalize opK L j=X at *
 generalize (takenAt L j).adm.kind=ak at *
 generalize (opAt L j).kind=kd at *
 clear h hrg hop
 by_cases h1:ak=2
 ·subst h1
  by_cases h2:kd=1
  ·subst h2
   have HX1:Hid (X=0):=by show _=_;rw [HX.out,if_pos (Or.inr rfl)]
   exact Yx103
  ·have HX1:Hid (X=kd):=by show _=_;rw [HX.out,if_neg (by rintro (h|h);exact h rfl;exact h2 h)]
   have e2:(kd == 1)=false:=by rw [beq_eq_false_iff_ne];exact h2
   exact Yx103
 ·have HX1:Hid (X=0):=by show _=_;rw [HX.out,if_pos (Or.inl h1)]
  have e1:(ak != 2)=true:=by rw [bne_iff_ne];exact h1
  exact Yx103
end
def stCells (s:VS):List Value:=[.int .i64 s.want,.int .i64 s.cur,.bool s.paused,.bool s.muted]
set_option maxHeartbeats 2000000 in
theorem Vown_any (sv:VS) (kd q:Int) (w:World) :
  Calls Tryz.prog 144 #[.agg (stCells sv).toArray,.int .i64 kd,.int .i64 q] w fun e w'=>e = .returned (.agg (stCells (ownV sv kd q)).toArray)∧Below w.heap.size w w':=by
 have HX:Hid (ownV sv kd q=if kd=12 then {sv with want:=q} else if kd=10 then {sv with paused:=true,cur:= -1} else if kd=11 then {sv with paused:=false} else sv):=rfl
 generalize ownV sv kd q=X at *
 obtain ⟨a,c,pz,mz⟩:=sv
 dsimp only [stCells] at HX ⊢
 by_cases h1:kd=12
 ·subst h1
  have HX1:Hid (X=⟨q,c,pz,mz⟩):=by show _=_;rw [HX.out,if_pos rfl]
  clear HX
  go_enter Tryz.func144,Tryz.ntmps144
  go_wp2_with fail
  refine bodyPost_ret (v:= .agg #[.int .i64 q,.int .i64 c,.bool pz,.bool mz]) ?_ rfl ?_
  ·exact results_cell_row (by rfl) _ _ (w.heap.size+1) 202 #[.int .i64 q,.int .i64 c,.bool pz,.bool mz] (0,0) _ (by rfl) (two_new w _ _).2 Tryz.underlying202 rfl Yo3
  exact ⟨by rw [HX1.out],bel_alloc (below_alloc w _) (Nat.le_refl _) _⟩
 by_cases h2:kd=10
 ·subst h2
  have HX1:Hid (X=⟨a,-1,true,mz⟩):=by show _=_;rw [HX.out,if_neg (by decide),if_pos rfl]
  clear HX
  go_enter Tryz.func144,Tryz.ntmps144
  go_wp2_with fail
  refine bodyPost_ret (v:= .agg #[.int .i64 a,.int .i64 (-1),.bool true,.bool mz]) ?_ rfl ?_
  ·exact results_cell_row (by rfl) _ _ (w.heap.size+1) 202 #[.int .i64 a,.int .i64 (-1),.bool true,.bool mz] (0,0) _ (by rfl) (two_new w _ _).2 Tryz.underlying202 rfl Yo3
  exact ⟨by rw [HX1.out],bel_alloc (below_alloc w _) (Nat.le_refl _) _⟩
 by_cases h3:kd=11
 ·subst h3
  have HX1:Hid (X=⟨a,c,false,mz⟩):=by show _=_;rw [HX.out,if_neg (by decide),if_neg (by decide),if_pos rfl]
  clear HX
  go_enter Tryz.func144,Tryz.ntmps144
  go_wp2_with fail
  refine bodyPost_ret (v:= .agg #[.int .i64 a,.int .i64 c,.bool false,.bool mz]) ?_ rfl ?_
  ·exact results_cell_row (by rfl) _ _ (w.heap.size+1) 202 #[.int .i64 a,.int .i64 c,.bool false,.bool mz] (0,0) _ (by rfl) (two_new w _ _).2 Tryz.underlying202 rfl Yo3
  exact ⟨by rw [HX1.out],bel_alloc (below_alloc w _) (Nat.le_refl _) _⟩
 have HX1:Hid (X=⟨a,c,pz,mz⟩):=by show _=_;rw [HX.out,if_neg h1,if_neg h2,if_neg h3]
 have e1:(kd == 12)=false:=by rw [beq_eq_false_iff_ne];exact h1
 have e2:(kd == 10)=false:=by rw [beq_eq_false_iff_ne];exact h2
 have e3:(kd == 11)=false:=by rw [beq_eq_false_iff_ne];exact h3
 clear HX
 go_enter Tryz.func144,Tryz.ntmps144
 go_wp2_with fail
 refine bodyPost_ret (v:= .agg #[.int .i64 a,.int .i64 c,.bool pz,.bool mz]) ?_ rfl ?_
 ·exact results_cell_row (by rfl) _ _ (w.heap.size+1) 202 #[.int .i64 a,.int .i64 c,.bool pz,.bool mz] (0,0) _ (by rfl) (two_new w _ _).2 Tryz.underlying202 rfl Yo3
 exact ⟨by rw [HX1.out],bel_alloc (below_alloc w _) (Nat.le_refl _) _⟩
theorem Vthere_any (V:Nat) (p s b f:Int) (wv cv qv bv:Value) (w:World) (h:w.heap[V]?=some (.cells #[bv,.int .i64 p,.int .i64 s,.int .i64 b,.int .i64 f,wv,cv,qv] 164 (0,0))) (at':Int) :
  Calls Tryz.prog 92 #[.pointer (some ⟨V,0,none⟩),.int .i64 at'] w fun e w'=>e = .returned (.bool (there ⟨p,s,b,f⟩ at'))∧w=w':=by
 have c3:w.cell? ⟨V,3,none⟩=some (.int .i64 b):=by rw [cell_of h 3];rfl
 have c4:w.cell? ⟨V,4,none⟩=some (.int .i64 f):=by rw [cell_of h 4];rfl
 have HX:Hid (there ⟨p,s,b,f⟩ at'=(decide (b<at') && decide (at'≤f))):=rfl
 generalize there ⟨p,s,b,f⟩ at'=X at *
 clear h
 by_cases h1:b<at'
 ·have d1:decide (b<at')=true:=decide_eq_true h1
  go_enter Tryz.func92,Tryz.ntmps92
  go_wp2_with fail
  go_ret
  exact ⟨by rw [HX.out,d1];rfl,rfl⟩
 ·have d1:decide (b<at')=false:=decide_eq_false h1
  go_enter Tryz.func92,Tryz.ntmps92
  go_wp2_with fail
  go_ret
  exact ⟨by rw [HX.out,d1];rfl,rfl⟩
theorem Vthere_nil (w:World) (at':Int):Calls Tryz.prog 92 #[.pointer none,.int .i64 at'] w fun e w'=>e = .returned (.bool false)∧w=w':=by
 go_enter Tryz.func92,Tryz.ntmps92
 go_wp2_with fail
 go_ret
 exact ⟨rfl,rfl⟩
theorem Vcur_any (V k:Nat) (L:List OpB) (x:Life) (wv cv qv:Value) (w:World) (h:w.heap[V]?=some (.cells #[.pointer (some ⟨k,0,none⟩),.int .i64 x.peer,.int .i64 x.source,.int .i64 x.bgn,.int .i64 x.fin,wv,cv,qv] 164 (0,0))) (hr:VRows w wv cv qv (statesV L x (L.length+1))) (h0:0≤x.bgn) (h1:x.fin≤L.length) (at':Int) :
  Calls Tryz.prog 65 #[.pointer (some ⟨V,0,none⟩),.int .i64 at'] w fun e w'=>e = .returned (.int .i64 (if there x at' then (stateV L x at'.toNat).cur else -1))∧w=w':=by
 obtain ⟨p,s,b,f⟩:=x
 dsimp only at h h0 h1
 have CT:=Lib.hid (Vthere_any V p s b f wv cv qv _ w h at')
 by_cases ht:there ⟨p,s,b,f⟩ at'=true
 ·rw [if_pos ht]
  rw [ht] at CT
  have h2:0≤at'∧at'.toNat<L.length+1:=by
   unfold there at ht
   simp only [Bool.and_eq_true,decide_eq_true_eq] at ht
   omega
  obtain ⟨g,o,n,c,hv,hj,hc⟩:=(hr.at (statesV_at L ⟨p,s,b,f⟩ h2.2)).cur
  obtain ⟨j,hjj⟩:∃ j:Nat,at'.toNat=j:=⟨_,rfl⟩
  have hat:at'=(j:Int):=by omega
  rw [hjj] at hj hc ⊢
  subst hat
  have hjI:(j:Int)<(n:Int):=Int.ofNat_lt.2 hj
  have v5:w.cell? ⟨V,6,none⟩=some (.slice (some ⟨g,o,none⟩) n c):=by rw [cell_of h 6,←hv];rfl
  generalize (stateV L ⟨p,s,b,f⟩ j).cur=z at *
  clear h hr ht hv h2 hjj
  go_enter Tryz.func65,Tryz.ntmps65
  exact Yx43
 ·rw [if_neg ht]
  rw [Bool.not_eq_true] at ht
  rw [ht] at CT
  clear h hr ht
  go_enter Tryz.func65,Tryz.ntmps65
  exact Yx43
theorem Vcur_nil (w:World) (at':Int):Calls Tryz.prog 65 #[.pointer none,.int .i64 at'] w fun e w'=>e = .returned (.int .i64 (-1))∧w=w':=by
 have CT:=Lib.hid (Vthere_nil w at')
 go_enter Tryz.func65,Tryz.ntmps65
 exact Yx43
theorem Vquiet_any (V k:Nat) (L:List OpB) (x:Life) (wv cv qv:Value) (w:World) (h:w.heap[V]?=some (.cells #[.pointer (some ⟨k,0,none⟩),.int .i64 x.peer,.int .i64 x.source,.int .i64 x.bgn,.int .i64 x.fin,wv,cv,qv] 164 (0,0))) (hr:VRows w wv cv qv (statesV L x (L.length+1))) (h0:0≤x.bgn) (h1:x.fin≤L.length) (at':Int) :
  Calls Tryz.prog 64 #[.pointer (some ⟨V,0,none⟩),.int .i64 at'] w fun e w'=>e = .returned (.bool (if there x at' then (stateV L x at'.toNat).quiet else true))∧w=w':=by
 obtain ⟨p,s,b,f⟩:=x
 dsimp only at h h0 h1
 have CT:=Lib.hid (Vthere_any V p s b f wv cv qv _ w h at')
 by_cases ht:there ⟨p,s,b,f⟩ at'=true
 ·rw [if_pos ht]
  rw [ht] at CT
  have h2:0≤at'∧at'.toNat<L.length+1:=by
   unfold there at ht
   simp only [Bool.and_eq_true,decide_eq_true_eq] at ht
   omega
  obtain ⟨g,o,n,c,hv,hj,hc⟩:=(hr.at (statesV_at L ⟨p,s,b,f⟩ h2.2)).quiet
  obtain ⟨j,hjj⟩:∃ j:Nat,at'.toNat=j:=⟨_,rfl⟩
  have hat:at'=(j:Int):=by omega
  rw [hjj] at hj hc ⊢
  subst hat
  have hjI:(j:Int)<(n:Int):=Int.ofNat_lt.2 hj
  have v5:w.cell? ⟨V,7,none⟩=some (.slice (some ⟨g,o,none⟩) n c):=by rw [cell_of h 7,←hv];rfl
  generalize (stateV L ⟨p,s,b,f⟩ j).quiet=z at *
  clear h hr ht hv h2 hjj
  go_enter Tryz.func64,Tryz.ntmps64
  exact Yx43
 ·rw [if_neg ht]
  rw [Bool.not_eq_true] at ht
  rw [ht] at CT
  clear h hr ht
  go_enter Tryz.func64,Tryz.ntmps64
  exact Yx43
theorem Vquiet_nil (w:World) (at':Int):Calls Tryz.prog 64 #[.pointer none,.int .i64 at'] w fun e w'=>e = .returned (.bool true)∧w=w':=by
 have CT:=Lib.hid (Vthere_nil w at')
 go_enter Tryz.func64,Tryz.ntmps64
 exact Yx43
end Go.Proofs.By
