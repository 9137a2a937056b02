/- Part of a proof. -/
import Derived.Test.YtpdjhlcbcomdkaaGreatDoorF00
set_option linter.unusedVariables false
set_option linter.unusedSimpArgs false
set_option maxRecDepth 100000
set_option maxHeartbeats 16000000
open Go Go.Q
namespace Go.Proofs.Z3
section
variable {P:Program} {ops:Array Oper} {Q:Exit→Act→World→Prop} {md:Region.Mode} {S:World→Prop} {d:Nat}
def till (P:Program) (md:Region.Mode) (ops:Array Oper) (Q:Exit→Act→World→Prop) (S:World→Prop) (d:Nat):Nat→Array Bool→Act→World→Prop
 | 0,done,a,w=>Region.ready md ops done=[]∧Q .normal a w
 | n+1,done,a,w=>(Region.ready md ops done=[]→Q .normal a w) ∧
  ∀ i∈Region.ready md ops done,wpOp P ops Q i (fun a' w'=>((done.setIfInBounds i true).getD d true=false→S w')∧till P md ops Q S d n (done.setIfInBounds i true) a' w') a w
theorem Cv:∀ (n:Nat) (done:Array Bool) (a:Act) (w:World),till P md ops Q S d n done a w→wpAny P md ops Q n done a w
 | 0,_,_,_,h=>h
 | n+1,_,_,_,h=>⟨h.1,fun i hi=>wpOp_mono (fun a' w' k=>Cv n _ a' w' k.2) (h.2 i hi)⟩
def KA (md:Region.Mode) (ops:Array Oper) (done:Array Bool):Prop:=∀ k ok,ops[k]?=some ok→done.getD k false=true→∀ e∈ok.after,Region.binds md e=true→done.getD e.on false=true
def closed (md:Region.Mode) (ops:Array Oper) (done:Array Bool):Bool:=(List.range ops.size).all fun k=> !(done.getD k false) || (match ops[k]? with
 | some o=>o.after.all fun e=> !(Region.binds md e) || done.getD e.on false
 | none=>true)
theorem A9 {done:Array Bool} (h:closed md ops done=true):KA md ops done:=by
 intro k ok hk hdk e he hb
 unfold closed at h
 have h1:=List.all_eq_true.1 h k (by rw [List.mem_range];exact (Array.getElem?_eq_some_iff.1 hk).1)
 rw [hdk,hk] at h1
 have h2:=Array.all_eq_true_iff_forall_mem.1 (show (ok.after.all fun e=> !(Region.binds md e) || done.getD e.on false)=true from h1) e he
 rw [hb] at h2
 simpa using h2
theorem KA.set {done:Array Bool} (h:KA md ops done) {j:Nat} (hj:j∈Region.ready md ops done):KA md ops (done.setIfInBounds j true):=by
 intro k ok hk hdk e he hb
 by_cases Ke:j=k
 ·subst Ke
  obtain ⟨_,o,ho,Vc⟩:=mem_ready.1 hj
  rw [hk] at ho
  injection ho with ho
  subst ho
  exact getD_set_true (Vc e he hb)
 ·rw [getD_set_ne false Ke] at hdk
  exact getD_set_true (h k ok hk hdk e he hb)
def waits (md:Region.Mode) (ops:Array Oper) (i:Nat):Nat→Nat→Bool
 | 0,_=>false
 | n+1,d=>match ops[d]? with
  | some o=>o.after.any fun e=>Region.binds md e && (e.on == i || waits md ops i n e.on)
  | none=>false
theorem I2 {i:Nat} {done:Array Bool} (hc:KA md ops done):∀ (n d:Nat) (od:Oper),waits md ops i n d=true→ops[d]?=some od→(∀ e∈od.after,Region.binds md e=true→done.getD e.on false=true)→done.getD i false=true
 | 0,_,_,h,_,_=>by cases h
 | n+1,d,od,h,ho,hl=>by
  unfold waits at h
  rw [ho] at h
  obtain ⟨e,he,hb⟩:=Array.any_eq_true'.1 h
  have hb:=(Ui _ _).mp hb
  have h1:=hl e he hb.1
  rcases (Bool.or_eq_true _ _).mp hb.2 with h2|h2
  ·rw [←show e.on=i by simpa using h2];exact h1
  ·cases hoe:ops[e.on]? with
   | none=>
    exfalso
    cases n with
    | zero=>cases h2
    | succ n=>unfold waits at h2;rw [hoe] at h2;cases h2
   | some oe=>exact I2 hc n e.on oe h2 hoe (hc e.on oe hoe h1)
theorem Ac {i:Nat} {oi:Oper} {v:Value} (hi:ops[i]?=some oi) (sy:∀ (j:Nat) (o:Oper) cs b,ops[j]?=some o→o.op ≠ .select cs b)
  (hQ:∀ c a w,Q (.panic c) (a.put oi.dst v) w→Q (.panic c) a w) (Xh:i≠d) (hd:waits md ops i ops.size d=true) :
  ∀ (n:Nat) (done:Array Bool) (a:Act) (w:World),
   (∀ j oj,ops[j]?=some oj→j≠i→done.getD j true=false→(∀ e∈oj.after,Region.binds md e=true→e.on≠i)→oi.apart ops oj=true) →
   i∈Region.ready md ops done→YieldsIf P ops S oi v a→KA md ops done→done.getD d true=false→S w →
   till P md ops Q S d n (done.setIfInBounds i true) (a.put oi.dst v) w→till P md ops Q S d (n+1) done a w:=by
 intro n
 induction n with
 | zero=>
  intro done a w _ hr hy _ _ hS H
  refine ⟨fun h=>(by rw [h] at hr;cases hr),fun j hj=>?_⟩
  by_cases Dj:j=i
  ·subst Dj;exact hy.wpOp hi hS ⟨fun _=>hS,H⟩
  ·have:=ready_mono hj Dj
   rw [H.1] at this
   cases this
 | succ n ih=>
  intro done a w Bp hr hy hc hdn hS H
  refine ⟨fun h=>(by rw [h] at hr;cases hr),fun j hj=>?_⟩
  by_cases Dj:j=i
  ·subst Dj;exact hy.wpOp hi hS ⟨fun _=>hS,H⟩
  ·have h1:=H.2 j (ready_mono hj Dj)
   obtain ⟨rZ,oj,l_,Vc⟩:=mem_ready.1 hj
   have sI:done.getD i true=false:=(mem_ready.1 hr).1
   have ju:done.getD i false=true→False:=fun k=>by
    rcases Nat.lt_or_ge i done.size with h'|h'
    ·simp [h'] at sI k;rw [sI] at k;cases k
    ·simp [Gt h'] at k
   have jx:∀ e∈oj.after,Region.binds md e=true→e.on≠i:=fun e he hb heq=>ju (by rw [←heq];exact Vc e he hb)
   have hjd:j≠d:=fun e=>by
    subst e
    exact ju (I2 hc ops.size j oj hd l_ Vc)
   have g1:(done.setIfInBounds j true).getD d true=false:=by rw [getD_set_ne true hjd];exact hdn
   have g2:((done.setIfInBounds i true).setIfInBounds j true).getD d true=false:=by rw [getD_set_ne true hjd,getD_set_ne true Xh];exact hdn
   have h2:=wpOp_putIf l_ (Bp j oj l_ Dj rZ jx) (fun cs b=>sy i oi cs b hi) (fun cs b=>sy j oj cs b l_) hQ hy h1
   have yR:∀ k ok,ops[k]?=some ok→k≠i→(done.setIfInBounds j true).getD k true=false →
     (∀ e∈ok.after,Region.binds md e=true→e.on≠i)→oi.apart ops ok=true:=fun k ok hk hki sI Le=>by
    refine Bp k ok hk hki ?_ Le
    by_cases Ke:j=k
    ·subst Ke;exact rZ
    ·rw [getD_set_ne true Ke] at sI;exact sI
   refine wpOp_mono (fun a' w' k=>⟨fun _=>k.2.1 g2,ih (done.setIfInBounds j true) a' w' yR (ready_mono hr (Ne.symm Dj)) k.1 (hc.set hj) g1 (k.2.1 g2) ?_⟩) h2
   rw [Array.setIfInBounds_comm _ _ Dj]
   exact k.2.2
theorem Gc {i:Nat} {oi:Oper} {v:Value} {n:Nat} {done:Array Bool} {a:Act} {w:World} (hi:ops[i]?=some oi)
  (hs:Region.noSelect ops=true) (hf:Region.free md ops done i=true) (hr:(Region.ready md ops done).contains i=true)
  (hd:((i != d) && waits md ops i ops.size d && closed md ops done && !(done.getD d true))=true)
  (hQ:∀ c a w,Q (.panic c) (a.put oi.dst v) w→Q (.panic c) a w) (hy:YieldsIf P ops S oi v a) (hS:S w)
  (h:till P md ops Q S d n (done.setIfInBounds i true) (a.put oi.dst v) w):till P md ops Q S d (n+1) done a w:=by
 simp only [Ui] at hd
 obtain ⟨⟨⟨h1,h2⟩,h3⟩,h4⟩:=hd
 exact Ac hi (Region.noSelect_spec hs) hQ (by simpa using h1) h2 n done a w (Region.free_spec hi hf) (by simpa using hr) hy (A9 h3) (by simpa using h4) hS h
theorem Cw {i:Nat} {oi:Oper} {v:Value} (hi:ops[i]?=some oi) (sy:∀ (j:Nat) (o:Oper) cs b,ops[j]?=some o→o.op ≠ .select cs b)
  (hQ:∀ c a w,Q (.panic c) (a.put oi.dst v) w→Q (.panic c) a w) (Xh:i≠d) :
  ∀ (n:Nat) (done:Array Bool) (a:Act) (w:World),
   (∀ j oj,ops[j]?=some oj→j≠i→done.getD j true=false→(∀ e∈oj.after,Region.binds md e=true→e.on≠i)→oi.apart ops oj=true) →
   i∈Region.ready md ops done→YieldsIf P ops (fun _=>True) oi v a→(done.getD d true=false→S w) →
   till P md ops Q S d n (done.setIfInBounds i true) (a.put oi.dst v) w→till P md ops Q S d (n+1) done a w:=by
 intro n
 induction n with
 | zero=>
  intro done a w _ hr hy hS H
  refine ⟨fun h=>(by rw [h] at hr;cases hr),fun j hj=>?_⟩
  by_cases Dj:j=i
  ·subst Dj;exact hy.wpOp hi trivial ⟨fun h=>hS (by rw [getD_set_ne true Xh] at h;exact h),H⟩
  ·have:=ready_mono hj Dj
   rw [H.1] at this
   cases this
 | succ n ih=>
  intro done a w Bp hr hy hS H
  refine ⟨fun h=>(by rw [h] at hr;cases hr),fun j hj=>?_⟩
  by_cases Dj:j=i
  ·subst Dj;exact hy.wpOp hi trivial ⟨fun h=>hS (by rw [getD_set_ne true Xh] at h;exact h),H⟩
  ·have h1:=H.2 j (ready_mono hj Dj)
   obtain ⟨rZ,oj,l_,Vc⟩:=mem_ready.1 hj
   have sI:done.getD i true=false:=(mem_ready.1 hr).1
   have ju:done.getD i false=true→False:=fun k=>by
    rcases Nat.lt_or_ge i done.size with h'|h'
    ·simp [h'] at sI k;rw [sI] at k;cases k
    ·simp [Gt h'] at k
   have jx:∀ e∈oj.after,Region.binds md e=true→e.on≠i:=fun e he hb heq=>ju (by rw [←heq];exact Vc e he hb)
   have h2:=wpOp_putIf l_ (Bp j oj l_ Dj rZ jx) (fun cs b=>sy i oi cs b hi) (fun cs b=>sy j oj cs b l_) hQ hy h1
   have yR:∀ k ok,ops[k]?=some ok→k≠i→(done.setIfInBounds j true).getD k true=false →
     (∀ e∈ok.after,Region.binds md e=true→e.on≠i)→oi.apart ops ok=true:=fun k ok hk hki sI Le=>by
    refine Bp k ok hk hki ?_ Le
    by_cases Ke:j=k
    ·subst Ke;exact rZ
    ·rw [getD_set_ne true Ke] at sI;exact sI
   have hg:(done.setIfInBounds j true).getD d true=false→((done.setIfInBounds i true).setIfInBounds j true).getD d true=false:=fun h=>by
    rw [Array.setIfInBounds_comm _ _ (Ne.symm Dj),getD_set_ne true Xh];exact h
   refine wpOp_mono (fun a' w' k=>⟨fun h=>k.2.1 (hg h),ih (done.setIfInBounds j true) a' w' yR (ready_mono hr (Ne.symm Dj)) k.1 (fun h=>k.2.1 (hg h)) ?_⟩) h2
   rw [Array.setIfInBounds_comm _ _ Dj]
   exact k.2.2
theorem IZ {i:Nat} {oi:Oper} {v:Value} {n:Nat} {done:Array Bool} {a:Act} {w:World} (hi:ops[i]?=some oi)
  (hs:Region.noSelect ops=true) (hf:Region.free md ops done i=true) (hr:(Region.ready md ops done).contains i=true) (hd:(i != d)=true)
  (hQ:∀ c a w,Q (.panic c) (a.put oi.dst v) w→Q (.panic c) a w) (hy:YieldsIf P ops (fun _=>True) oi v a) (hS:done.getD d true=false→S w)
  (h:till P md ops Q S d n (done.setIfInBounds i true) (a.put oi.dst v) w):till P md ops Q S d (n+1) done a w:=
 Cw hi (Region.noSelect_spec hs) hQ (by simpa using hd) n done a w (Region.free_spec hi hf) (by simpa using hr) hy hS h
theorem pt:(∀ (xs:List Value) (i:Nat) (h:i<xs.toArray.size),xs.toArray[i]=xs[i]'(by simpa using h))∧(∀ (xs:List Oper) (i:Nat) (h:i<xs.toArray.size),xs.toArray[i]=xs[i]'(by simpa using h)) ∧
  (∀ (x:Value) (xs:List Value) (i:Nat) (h:i+1<(x :: xs).length),(x :: xs)[i+1]=xs[i]'(by simpa using h))∧(∀ (x:Oper) (xs:List Oper) (i:Nat) (h:i+1<(x :: xs).length),(x :: xs)[i+1]=xs[i]'(by simpa using h)) ∧
  (∀ (x:Value) (xs:List Value) (h:0<(x :: xs).length),(x :: xs)[0]=x)∧(∀ (x:Oper) (xs:List Oper) (h:0<(x :: xs).length),(x :: xs)[0]=x) ∧
  (∀ (a:Act) (d:Nat) (v:Value),a.put (some d) v={a with tmps:=a.tmps.setIfInBounds d v})∧(∀ (a:Act) (v:Value),a.put none v=a) ∧
  (∀ (xs:List Value) (i:Nat) (v:Value),xs.toArray.setIfInBounds i v=(xs.set i v).toArray)∧(∀ (xs:List Bool) (i:Nat) (v:Bool),xs.toArray.setIfInBounds i v=(xs.set i v).toArray) ∧
  (∀ (x:Value) (xs:List Value) (v:Value),(x :: xs).set 0 v=v :: xs)∧(∀ (x:Value) (xs:List Value) (i:Nat) (v:Value),(x :: xs).set (i+1) v=x :: xs.set i v) ∧
  (∀ (x:Bool) (xs:List Bool) (v:Bool),(x :: xs).set 0 v=v :: xs)∧(∀ (x:Bool) (xs:List Bool) (i:Nat) (v:Bool),(x :: xs).set (i+1) v=x :: xs.set i v):=
 ⟨fun _ _ _=>rfl,fun _ _ _=>rfl,fun _ _ _ _=>rfl,fun _ _ _ _=>rfl,fun _ _ _=>rfl,fun _ _ _=>rfl,fun _ _ _=>rfl,fun _ _=>rfl,fun _ _ _=>List.setIfInBounds_toArray ..,fun _ _ _=>List.setIfInBounds_toArray ..,fun _ _ _=>rfl,fun _ _ _ _=>rfl,fun _ _ _=>rfl,fun _ _ _ _=>rfl⟩
theorem tk (i:Nat) (v:Value) {oi:Oper} {n:Nat} {done:Array Bool} {a:Act} {w:World} (hi:ops[i]?=some oi) (hy:∀ w,S w→(execOp a.eval oi).run P w = .ok (.value v) w)
  (h:till P md ops Q S d n (done.setIfInBounds i true) (a.put oi.dst v) w)
  (hc:(Region.noSelect ops && Region.free md ops done i && (Region.ready md ops done).contains i && ((i != d) && waits md ops i ops.size d && closed md ops done && !(done.getD d true)))=true:=by kernel_rfl)
  (hw:Region.wanted oi (yielded ops a.tmps)=true:=by rfl) (hQ:∀ c a w,Q (.panic c) (a.put oi.dst v) w→Q (.panic c) a w:=by exact fun _ _ _ h=>h) (hS:S w:=by assumption):till P md ops Q S d (n+1) done a w:=by
 simp only [Ui] at hc
 obtain ⟨⟨⟨h1,h2⟩,h3⟩,h4⟩:=hc
 exact Gc hi h1 h2 h3 (by simpa only [Ui] using h4) hQ (Wc ⟨hw,hy⟩) hS h
theorem tp (i:Nat) (v:Value) {oi:Oper} {n:Nat} {done:Array Bool} {a:Act} {w:World} (hi:ops[i]?=some oi) (hy:∀ w,True→(execOp a.eval oi).run P w = .ok (.value v) w)
  (h:till P md ops Q S d n (done.setIfInBounds i true) (a.put oi.dst v) w)
  (hc:(Region.noSelect ops && Region.free md ops done i && (Region.ready md ops done).contains i && (i != d))=true:=by kernel_rfl)
  (hw:Region.wanted oi (yielded ops a.tmps)=true:=by rfl) (hQ:∀ c a w,Q (.panic c) (a.put oi.dst v) w→Q (.panic c) a w:=by exact fun _ _ _ h=>h) (hS:done.getD d true=false→S w:=by exact fun h=>by first|assumption|exact absurd h Zd):till P md ops Q S d (n+1) done a w:=by
 simp only [Ui] at hc
 obtain ⟨⟨⟨h1,h2⟩,h3⟩,h4⟩:=hc
 exact IZ hi h1 h2 h3 h4 hQ (Wc ⟨hw,hy⟩) hS h
theorem ts (i:Nat) {oi:Oper} {n:Nat} {done:Array Bool} {a:Act} {w:World} (hi:ops[i]?=some oi)
  (h:till P md ops Q S d n (done.setIfInBounds i true) (a.put oi.dst undef) w)
  (hc:(Region.noSelect ops && Region.free md ops done i && (Region.ready md ops done).contains i && (i != d))=true:=by kernel_rfl)
  (hw:Region.wanted oi (yielded ops a.tmps)=false:=by rfl) (hQ:∀ c a w,Q (.panic c) (a.put oi.dst undef) w→Q (.panic c) a w:=by exact fun _ _ _ h=>h) (hS:done.getD d true=false→S w:=by exact fun h=>by first|assumption|exact absurd h Zd):till P md ops Q S d (n+1) done a w:=by
 simp only [Ui] at hc
 obtain ⟨⟨⟨h1,h2⟩,h3⟩,h4⟩:=hc
 exact IZ hi h1 h2 h3 h4 hQ (Wj ⟨hw,rfl⟩) hS h
theorem hk (i:Nat) (v:Value) {oi:Oper} {n:Nat} {done:Array Bool} {a:Act} {w:World} (hi:ops[i]?=some oi) (hy:∀ w,S w→(execOp a.eval oi).run P w = .ok (.value v) w)
  (h:wpAnyH P md ops Q S n (done.setIfInBounds i true) (a.put oi.dst v) w)
  (hc:(Region.noSelect ops && Region.free md ops done i && (Region.ready md ops done).contains i)=true:=by kernel_rfl)
  (hw:Region.wanted oi (yielded ops a.tmps)=true:=by rfl) (hQ:∀ c a w,Q (.panic c) (a.put oi.dst v) w→Q (.panic c) a w:=by exact fun _ _ _ h=>h) (hS:S w:=by assumption):wpAnyH P md ops Q S (n+1) done a w:=by
 simp only [Ui] at hc
 obtain ⟨⟨h1,h2⟩,h3⟩:=hc
 exact wpAnyH_take hi h1 h2 h3 hQ (Wc ⟨hw,hy⟩) hS h
theorem Xz {done:Array Bool} {a:Act} {w:World} (hr:Region.ready md ops done=[]) (h:Q .normal a w):∀ n,till P md ops Q S d n done a w
 | 0=>⟨hr,h⟩
 | _+1=>⟨fun _=>h,by rw [hr];simp⟩
def each (P:Program) (md:Region.Mode) (ops:Array Oper) (Q:Exit→Act→World→Prop) (S:World→Prop) (d n:Nat) (done:Array Bool) (a:Act) (w:World) (rs:List Nat):Prop:=
 ∀ i∈rs,wpOp P ops Q i (fun a' w'=>((done.setIfInBounds i true).getD d true=false→S w')∧till P md ops Q S d n (done.setIfInBounds i true) a' w') a w
theorem rB {n:Nat} {done:Array Bool} {a:Act} {w:World}:each P md ops Q S d n done a w []:=fun _ h=>by cases h
theorem vg {n:Nat} {done:Array Bool} {a:Act} {w:World} {i:Nat} {o:Oper} {rs:List Nat} (ho:ops[i]?=some o)
  (h:∀ K':Act→World→Prop,Shut (∀ a w,((done.setIfInBounds i true).getD d true=false→S w)→till P md ops Q S d n (done.setIfInBounds i true) a w→K' a w)→if Region.wanted o (yielded ops a.tmps)=true then Oper.wp P o a w K' Q else K' (a.put o.dst undef) w)
  (hs:each P md ops Q S d n done a w rs):each P md ops Q S d n done a w (i :: rs):=fun j hj=>by
 rcases KG.1 hj with rfl|hj
 ·exact wpOp_step ho (fun K' hK=>h K' (fun a w hS hW=>hK a w ⟨hS,hW⟩))
 ·exact hs j hj
theorem Ad {rs:List Nat} {n:Nat} {done:Array Bool} {a:Act} {w:World} (hr:Region.ready md ops done=rs) (Xh:rs≠[])
  (h:each P md ops Q S d n done a w rs):till P md ops Q S d (n+1) done a w:=⟨fun h0=>absurd (hr▸h0) Xh,hr▸h⟩
theorem Cb {id:Nat} {a:Act} {w:World} (hm:P.follows .mixedOrders=true)
  (h:till P .any ops Q S d ops.size (Array.replicate ops.size false) a w.drew):(Code.region id ops true).wp P Q a w:=
 wp_region_any hm (Cv _ _ _ _ h)
theorem Yq {id:Nat} {a:Act} {w:World} (hm:P.follows .mixedOrders=true) (hS:S w.drew)
  (h:S w.drew→till P .any ops Q S d ops.size (Array.replicate ops.size false) a w.drew):(Code.region id ops true).wp P Q a w:=Cb hm (h hS)
theorem Xl {n:Nat} {done:Array Bool} {i:Nat} {K':Act→World→Prop} (hK:Shut (∀ a w,((done.setIfInBounds i true).getD d true=false→S w)→till P md ops Q S d n (done.setIfInBounds i true) a w→K' a w)) (a:Act) (w:World) (hS:S w) (h:S w→till P md ops Q S d n (done.setIfInBounds i true) a w):K' a w:=hK a w (fun _=>hS) (h hS)
theorem WO {n:Nat} {done:Array Bool} {i:Nat} {K':Act→World→Prop} (hK:Shut (∀ a w,((done.setIfInBounds i true).getD d true=false→S w)→till P md ops Q S d n (done.setIfInBounds i true) a w→K' a w)) (a:Act) (w:World) (hdn:(done.setIfInBounds i true).getD d true=true) (h:till P md ops Q S d n (done.setIfInBounds i true) a w):K' a w:=hK a w (fun k=>(by rw [hdn] at k;cases k)) h
end
open Go Go.RowKit
section
variable {P:Program} {md:Region.Mode} {ops:Array Oper} {Q:Exit→Act→World→Prop} {S:World→Prop} {d:Nat}
def along (md:Region.Mode) (ops:Array Oper) (i:Nat):Nat→List Nat→Bool
 | d,[]=>match ops[d]? with
  | some o=>o.after.any fun e=>Region.binds md e && e.on == i
  | none=>false
 | d,b :: l=>(match ops[d]? with
  | some o=>o.after.any fun e=>Region.binds md e && e.on == b
  | none=>false) && along md ops i b l
theorem J3 {i:Nat}:∀ (l:List Nat) (d n:Nat),l.length<n→along md ops i d l=true→waits md ops i n d=true
 | [],d,n+1,_,h=>by
  unfold along at h
  unfold waits
  cases ho:ops[d]? with
  | none=>rw [ho] at h;cases h
  | some o=>
   rw [ho] at h
   obtain ⟨e,he,hb⟩:=Array.any_eq_true'.1 h
   have hb:=(Ui _ _).mp hb
   exact Array.any_eq_true'.2 ⟨e,he,by rw [hb.1,hb.2];rfl⟩
 | b :: l,d,n+1,hn,h=>by
  unfold along at h
  have h:=(Ui _ _).mp h
  have ih:=J3 l b n (by rw [List.length_cons] at hn;omega) h.2
  unfold waits
  cases ho:ops[d]? with
  | none=>rw [ho] at h;cases h.1
  | some o=>
   rw [ho] at h
   obtain ⟨e,he,hb⟩:=Array.any_eq_true'.1 h.1
   have hb:=(Ui _ _).mp hb
   have heb:e.on=b:=by simpa using hb.2
   exact Array.any_eq_true'.2 ⟨e,he,by rw [hb.1,heb,ih,Bool.or_true];rfl⟩
theorem tkp (i:Nat) (l:List Nat) (v:Value) {oi:Oper} {n:Nat} {done:Array Bool} {a:Act} {w:World} (hi:ops[i]?=some oi) (hy:∀ w,S w→(execOp a.eval oi).run P w = .ok (.value v) w)
  (h:till P md ops Q S d n (done.setIfInBounds i true) (a.put oi.dst v) w)
  (hc:(Region.noSelect ops && Region.free md ops done i && (Region.ready md ops done).contains i && ((i != d) && along md ops i d l && decide (l.length<ops.size) && closed md ops done && !(done.getD d true)))=true:=by kernel_rfl)
  (hw:Region.wanted oi (yielded ops a.tmps)=true:=by rfl) (hQ:∀ c a w,Q (.panic c) (a.put oi.dst v) w→Q (.panic c) a w:=by exact fun _ _ _ h=>h) (hS:S w:=by assumption):till P md ops Q S d (n+1) done a w:=by
 simp only [Ui] at hc
 obtain ⟨⟨⟨h1,h2⟩,h3⟩,⟨⟨⟨h4,h5⟩,h6⟩,h7⟩,h8⟩:=hc
 refine Gc hi h1 h2 h3 ?_ hQ (Wc ⟨hw,hy⟩) hS h
 simp only [Ui]
 exact ⟨⟨⟨h4,J3 l d ops.size (of_decide_eq_true h6) h5⟩,h7⟩,h8⟩
end
end Go.Proofs.Z3
namespace Go.Proofs
open Go Go.RowKit Go.Proofs.Z3
section
variable {P:Program} {ops:Array Oper} {Q:Exit→Act→World→Prop} {md:Region.Mode} {S:World→Prop} {d:Nat} {oi:Oper} {v:Value} {n:Nat} {done:Array Bool} {x x':Act} {w:World}
theorem YA (i:Nat) (hi:ops[i]?=some oi:=by rfl) (hc:(Region.noSelect ops && Region.free md ops done i && (Region.ready md ops done).contains i)=true:=by kernel_rfl) (hy:∀ w,S w→(execOp x.eval oi).run P w = .ok (.value v) w:=by intro wS QW;(try dsimp only at QW);(try simp only [Z3.pt]);go_simp;try with_reducible rfl) (ha:x.put oi.dst v=x':=by (try simp only [Z3.pt]);with_reducible rfl) (hw:Region.wanted oi (yielded ops x.tmps)=true:=by rfl) (hQ:∀ c a w,Q (.panic c) (a.put oi.dst v) w→Q (.panic c) a w:=by exact fun _ _ _ h=>h) (hS:S w:=by assumption)
  (h:wpAnyH P md ops Q S n (done.setIfInBounds i true) x' w):wpAnyH P md ops Q S (n+1) done x w:=by
 subst ha
 exact hk i v hi hy h hc hw (fun c a w k=>hQ c a w k) hS
theorem YK (i:Nat) (hi:ops[i]?=some oi:=by rfl) (hc:(Region.noSelect ops && Region.free md ops done i && (Region.ready md ops done).contains i && ((i != d) && waits md ops i ops.size d && closed md ops done && !(done.getD d true)))=true:=by kernel_rfl) (hy:∀ w,S w→(execOp x.eval oi).run P w = .ok (.value v) w:=by intro wS QW;(try dsimp only at QW);(try simp only [Z3.pt]);go_simp;try with_reducible rfl) (ha:x.put oi.dst v=x':=by (try simp only [Z3.pt]);with_reducible rfl) (hw:Region.wanted oi (yielded ops x.tmps)=true:=by rfl) (hQ:∀ c a w,Q (.panic c) (a.put oi.dst v) w→Q (.panic c) a w:=by exact fun _ _ _ h=>h) (hS:S w:=by assumption)
  (h:till P md ops Q S d n (done.setIfInBounds i true) x' w):till P md ops Q S d (n+1) done x w:=by
 subst ha
 exact tk i v hi hy h hc hw hQ hS
theorem YQ (i:Nat) (l:List Nat) (hi:ops[i]?=some oi:=by rfl) (hc:(Region.noSelect ops && Region.free md ops done i && (Region.ready md ops done).contains i && ((i != d) && along md ops i d l && decide (l.length<ops.size) && closed md ops done && !(done.getD d true)))=true:=by kernel_rfl) (hy:∀ w,S w→(execOp x.eval oi).run P w = .ok (.value v) w:=by intro wS QW;(try dsimp only at QW);(try simp only [Z3.pt]);go_simp;try with_reducible rfl) (ha:x.put oi.dst v=x':=by (try simp only [Z3.pt]);with_reducible rfl) (hw:Region.wanted oi (yielded ops x.tmps)=true:=by rfl) (hQ:∀ c a w,Q (.panic c) (a.put oi.dst v) w→Q (.panic c) a w:=by exact fun _ _ _ h=>h) (hS:S w:=by assumption)
  (h:till P md ops Q S d n (done.setIfInBounds i true) x' w):till P md ops Q S d (n+1) done x w:=by
 subst ha
 exact tkp i l v hi hy h hc hw hQ hS
theorem YP (i:Nat) (hi:ops[i]?=some oi:=by rfl) (hc:(Region.noSelect ops && Region.free md ops done i && (Region.ready md ops done).contains i && (i != d))=true:=by kernel_rfl) (hy:∀ w,True→(execOp x.eval oi).run P w = .ok (.value v) w:=by intro wS QW;(try dsimp only at QW);(try simp only [Z3.pt]);go_simp;try with_reducible rfl) (ha:x.put oi.dst v=x':=by (try simp only [Z3.pt]);with_reducible rfl) (hw:Region.wanted oi (yielded ops x.tmps)=true:=by rfl) (hQ:∀ c a w,Q (.panic c) (a.put oi.dst v) w→Q (.panic c) a w:=by exact fun _ _ _ h=>h) (hS:done.getD d true=false→S w:=by exact fun h=>by first|assumption|exact absurd h Zd)
  (h:till P md ops Q S d n (done.setIfInBounds i true) x' w):till P md ops Q S d (n+1) done x w:=by
 subst ha
 exact tp i v hi hy h hc hw hQ hS
theorem YR (i:Nat) (hi:ops[i]?=some oi:=by rfl) (hr:Region.ready md ops done=[i]:=by kernel_rfl)
  (h:∀ K':Act→World→Prop,Shut (∀ a w,((done.setIfInBounds i true).getD d true=false→S w)→till P md ops Q S d n (done.setIfInBounds i true) a w→K' a w)→if Region.wanted oi (yielded ops x.tmps)=true then Oper.wp P oi x w K' Q else K' (x.put oi.dst undef) w):till P md ops Q S d (n+1) done x w:=Ad hr Zi (vg hi h rB)
theorem TR (i:Nat) (hi:ops[i]?=some oi:=by rfl) (hr:Region.ready md ops done=[i]:=by kernel_rfl)
  (h:∀ K':Act→World→Prop,Shut (∀ a w,S w→(S w→wpAnyH P md ops Q S n (done.setIfInBounds i true) a w)→K' a w)→if Region.wanted oi (yielded ops x.tmps)=true then Oper.wp P oi x w K' Q else K' (x.put oi.dst undef) w):wpAnyH P md ops Q S (n+1) done x w:=wpAnyH_ready hr Zi (AllReadyH.cons hi h AllReadyH.nil)
theorem YHE (hr:Region.ready md ops done=[]:=by kernel_rfl) (h:Q .normal x w):wpAnyH P md ops Q S n done x w:=wpAnyH_done hr h n
end
theorem WK {p:Prop} (h:p:=by first|with_reducible assumption|exact Below.drew (by with_reducible assumption)|exact Heap.Below.alloc' (by with_reducible assumption) (ZB _) _|exact Heap.Below.alloc' (Below.drew (by with_reducible assumption)) (ZB _) _|exact Below.drew (Heap.Below.alloc' (by with_reducible assumption) (ZB _) _)):p:=h
theorem QK {p:Prop} (h:p:=by first|with_reducible assumption|exact Below.drew (by with_reducible assumption)|exact Heap.Below.alloc' (by with_reducible assumption) (ZB _) _|exact Heap.Below.alloc' (Below.drew (by with_reducible assumption)) (ZB _) _|exact Below.drew (Heap.Below.alloc' (by with_reducible assumption) (ZB _) _)|exact Below.setCell (by with_reducible assumption) Zi _|exact Below.setCell (Below.drew (by with_reducible assumption)) Zi _):p:=h
theorem Zg {p:Prop} (h:p:=by kernel_rfl):p:=h
theorem DK {p:Prop} (h:p:=by first|with_reducible assumption|exact TG.drew (by with_reducible assumption)|exact TG.alloc (by with_reducible assumption) _|exact TG.alloc (TG.drew (by with_reducible assumption)) _|exact TG.drew (TG.alloc (by with_reducible assumption) _)):p:=h
theorem Xo {p:Prop} (h:p:=by with_reducible assumption):p:=h
theorem E4 {p:Prop} (h:p:=by first|with_reducible assumption|exact Below.drew Xo):p:=h
theorem yE {p:Prop} (h:p:=by repeat (first|exact YG _ _|refine Below.drew ?_|refine Below.alloc ?_ Zi _)):p:=h
theorem UL {p:Prop} (h:p:=by dsimp only;omega):p:=h
theorem DI {p:Prop} (h:p:=by show _<(w.heap.push _).size;rw [Rg];exact Nat.lt_succ_self _):p:=h
theorem Yo14 {p:Prop} (h:p:=by rw [show (T.Z8++[(⟨p,n,la,false⟩:WJ)]).flatMap ZL=T.Z8.flatMap ZL++[.int .i64 p,.int .i64 n,.int .i64 la,.bool false] by rw [QL];rfl,show (T.Z8++[(⟨p,n,la,false⟩:WJ)]).length=T.Z8.length+1 by simp];exact Z7):p:=h
theorem yD {p:Prop} (h:p:=by rw [WN HF.o]):p:=h
theorem VB {p:Prop} (h:p:=by simp;omega):p:=h
theorem Yo17 {p:Prop} (h:p:=by rw [show (T.ZK++[(⟨p,nm⟩:WU)]).flatMap Zf=T.ZK.flatMap Zf++[.int .i64 p,.string (str nm)] by rw [QL];rfl,show (T.ZK++[(⟨p,nm⟩:WU)]).length=T.ZK.length+1 by simp];exact Z7):p:=h
theorem Yo18 {p:Prop} (h:p:=by have h:=(List.getElem?_eq_some_iff.1 hm).1;simpa using h):p:=h
theorem A2 {p:Prop} (h:p:=by first|assumption|exact Below.drew (by assumption)):p:=h
theorem aq {p:Prop} (h:p:=by show w.heap.size≤(w.heap.push _).size;rw [Rg];exact JK _):p:=h
theorem qJ {p:Prop} (h:p:=by repeat (first|exact MC.o|refine Z4.drew ?_|refine Z4.alloc ?_ _)):p:=h
theorem qK {p:Prop} (h:p:=by rw [TU];omega):p:=h
theorem SN {p:Prop} (h:p:=by assumption):p:=h
theorem ng {p:Prop} (h:p:=by intro j hj;rw [Tu];rcases c5 j hj with rfl|rfl|rfl|rfl|rfl <;> rfl):p:=h
theorem qL {p:Prop} (h:p:=by have h:=uK;rw [OD,KF] at h;exact h):p:=h
theorem ni {p:Prop} (h:p:=by rw [XZ f k hk,TU,Nat.min_eq_left h];exact ZB _):p:=h
theorem DJ {p:Prop} (h:p:=by first|rfl|trivial):p:=h
theorem gJ {p:Prop} (h:p:=by have h:=HO.o;rw [SP,QL];exact h):p:=h
end Go.Proofs
namespace Go.Proofs
open Go
abbrev Yz1:List Value:=(Qc 0 0 0 0 0 0 none 0 0 none 0 0 0 none 0 0)
abbrev Y9:Array Value:=(Qc 0 0 0 0 0 0 none 0 0 none 0 0 0 none 0 0)
abbrev XQ:Array Value:=(Qm 0 0 0 0 false 0 0 0 0 none 0 0 false 0 none 0 0 none 0 0 0 0 false false 0 none 0 0 none 0 0 0)
abbrev Yz3:List Value:=(Qb false 0 0 0 0 none 0 0 false 0 none 0 0 none 0 0 0)
abbrev Wi:Array Value:=(Qb false 0 0 0 0 none 0 0 false 0 none 0 0 none 0 0 0)
abbrev R7:Array Value:=(Qt false 0 0 0 0 none 0 0 false 0 none 0 0 none 0 0 0 0 false false 0)
abbrev bw:Array Value:=(Qa 0 0 0 0 ⟨#[]⟩ none 0 0 none 0 0)
abbrev Yz6:List Value:=(Qc 206 0 0 0 0 0 none 0 0 none 0 0 0 none 0 0)
abbrev ij:Array Value:=(Qc 206 0 0 0 0 0 none 0 0 none 0 0 0 none 0 0)
abbrev Yz7:List Value:=(Qc 203 0 0 0 0 0 none 0 0 none 0 0 0 none 0 0)
abbrev ik:Array Value:=(Qc 203 0 0 0 0 0 none 0 0 none 0 0 0 none 0 0)
abbrev Yz8:List Value:=(Qc 205 0 0 0 0 0 none 0 0 none 0 0 0 none 0 0)
abbrev im:Array Value:=(Qc 205 0 0 0 0 0 none 0 0 none 0 0 0 none 0 0)
abbrev Yz9:List Value:=(Qc 201 0 0 0 0 0 none 0 0 none 0 0 0 none 0 0)
abbrev iq:Array Value:=(Qc 201 0 0 0 0 0 none 0 0 none 0 0 0 none 0 0)
abbrev Yz10:List Value:=(Qc 200 0 0 0 0 0 none 0 0 none 0 0 0 none 0 0)
abbrev qW:Array Value:=(Qc 200 0 0 0 0 0 none 0 0 none 0 0 0 none 0 0)
end Go.Proofs
