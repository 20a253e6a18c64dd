/- Part 16 of the proof (Ya, Yb, Yc, Ys, Yd, Yk); no condition. -/
import Derived.Test.YtokehnfjjmpanaaGreatDoorYC15
set_option linter.unusedVariables false
namespace Go.Proofs.YtokehnfjjmpanaaGreatDoor.Bd
open Bins Cov Xe Wd
open Bool renaming eq_iff_iff→qG,or_eq_true→zN
open Int renaming le_refl→zJ
open List renaming getD_eq_getElem?_getD→zD,mem_cons_of_mem→qN
def inR (v:Nat) (r:Rng):Prop:=r.lo≤(v:Int)∧(v:Int)≤r.hi
def sgR (v:Nat):Rng:=⟨(v:Nat),(v:Nat)⟩
theorem QB (v:Nat):inR v (sgR v):=⟨zJ _,zJ _⟩
theorem AWD {v:Nat} {a b:Rng} (h:inR v a) (s:JO a b):inR v b:=⟨Int.le_trans s.1 h.1,Int.le_trans h.2 s.2⟩
theorem AJP {v:Nat} (h:v < 65536):inR v IP:=⟨Int.natCast_nonneg _,by show (v:Int)≤65535; omega⟩
theorem AAR (v:Nat):sgl (sgR v)=true:=by unfold sgl sgR; simp
theorem XU (v:Nat):isT (sgR v) = !(v == 0):=by
 unfold isT sgR
 by_cases h:v=0
 ·subst h; rfl
 ·rw [decide_eq_true (show ((v:Nat):Int) > 0 by omega)]; simp [h]
theorem VB (v:Nat):isF (sgR v)=(v == 0):=by
 unfold isF sgR
 by_cases h:v=0
 ·subst h; rfl
 ·have:((v:Nat):Int)≠0:=by omega
  rw [qG]; simp
theorem AU0 (t:Bool):inR (tr t) (knR t (!t)):=by cases t <;> exact ⟨by decide,by decide⟩
theorem ABU {b t f:Bool} (ht:t=b) (hf:f = !b):inR (tr b) (knR t f):=by subst ht; subst hf; exact AU0 _
theorem AWS (a b:Nat) (ha:a < 65536) (hb:b < 65536):inR ((a+65536 - b) % 65536) (WQ (sgR a) (sgR b)):=by
 unfold WQ sgR
 simp only
 by_cases h:b≤a
 ·rw [if_pos (by omega)]
  have:(a+65536 - b) % 65536=a - b:=by omega
  rw [this]
  exact ⟨by simp only; omega,by simp only; omega⟩
 ·rw [if_neg (by omega),if_pos (by omega)]
  have:(a+65536 - b) % 65536=a+65536 - b:=by omega
  rw [this]
  exact ⟨by simp only; omega,by simp only; omega⟩
theorem AVP (a b:Nat) (ha:a < 65536) (hb:b < 65536):inR ((a+b) % 65536) (TZ (sgR a) (sgR b)):=by
 unfold TZ sgR
 simp only
 by_cases h:a+b < 65536
 ·rw [if_neg (by omega)]
  unfold QT
  rw [if_neg (by omega)]
  exact ⟨by simp only; omega,by simp only; omega⟩
 ·rw [if_pos (by omega)]
  exact ⟨by simp only; omega,by simp only; omega⟩
theorem AQX {m:Nat} {x:Int} (h:x=(m:Nat)):inR (m % 65536) (QT x x):=by
 subst h
 unfold QT
 by_cases q:m < 65536
 ·rw [if_neg (by omega),Nat.mod_eq_of_lt q]; exact QB m
 ·rw [if_pos (by omega)]; exact AJP (by omega)
theorem AW8 (op:Int) (hop:7≤op∧op≤21) (a b:Nat) (ha:a < 65536) (hb:b < 65536):inR (dbW op a b) (MJ op (sgR a) (sgR b)):=by
 have hs:(sgl (sgR a) && sgl (sgR b))=true:=by rw [AAR,AAR]; rfl
 unfold dbW MJ
 by_cases q:op=7
 ·rw [if_pos q,if_pos q]; exact AVP a b ha hb
 rw [if_neg q,if_neg q]; have n7:=q; clear q
 by_cases q:op=8
 ·rw [if_pos q,if_pos q]; exact AWS a b ha hb
 rw [if_neg q,if_neg q]; have n8:=q; clear q
 by_cases q:op=9
 ·rw [if_pos q,if_pos q]; exact AQX (by show (a:Int) * (b:Int)=_; rw [Int.natCast_mul])
 rw [if_neg q,if_neg q]; have n9:=q; clear q
 by_cases q:op=10
 ·rw [if_pos q,if_pos (.inl q)]; unfold SE; rw [if_pos q,if_pos hs]; exact QB _
 by_cases q':op=11
 ·rw [if_neg q,if_pos q',if_pos (.inr (.inl q'))]; unfold SE; rw [if_neg q,if_pos q',if_pos hs]; exact QB _
 by_cases q'':op=12
 ·rw [if_neg q,if_neg q',if_pos q'',if_pos (.inr (.inr q''))]; unfold SE; rw [if_neg q,if_neg q',if_pos hs]; exact QB _
 rw [if_neg q,if_neg q',if_neg q'',if_neg (show ¬ (op=10∨op=11∨op=12) by omega)]
 by_cases q:op=13
 ·rw [if_pos q,if_pos q]
  unfold RP AEW
  by_cases z:(isF (sgR a) || decide ((sgR b).lo≥16))=true
  ·rw [if_pos z]
   rw [VB,zN] at z
   rcases z with z | z
   ·have z:a=0:=by simpa using z
    subst z
    split
    ·exact QB 0
    ·rw [Nat.zero_mul]; exact QB 0
   ·have z:(b:Int)≥16:=of_decide_eq_true z
    rw [if_pos (.inr z)]; exact QB 0
  ·rw [if_neg z,if_pos (AAR b)]
   have hb':(b:Int) < 16:=by
    rw [zN,not_or] at z
    have z:=z.2
    have : ¬ (b:Int)≥16:=fun y=>z (decide_eq_true y)
    omega
   rw [if_neg (by omega)]
   refine AQX ?_
   show (a:Int) * 2 ^ ((b:Int).toNat)=_
   rw [Int.natCast_mul,Int.natCast_pow]; rfl
 rw [if_neg q,if_neg q]; have n13:=q; clear q
 by_cases q:op=14
 ·rw [if_pos q,if_pos q]
  have e:((AAB a (b:Nat):Nat):Int)=VN a b:=by
   unfold AAB VN
   by_cases z:(b:Int)≥16
   ·rw [if_pos (.inr z),if_pos z]; rfl
   ·rw [if_neg (by omega),if_neg z,Int.natCast_ediv,Int.natCast_pow]; rfl
  show inR _ ⟨VN (a:Nat) (b:Nat),VN (a:Nat) (b:Nat)⟩
  rw [← e]; exact QB _
 rw [if_neg q,if_neg q]; have n14:=q; clear q
 have eA:(UC (sgR a) (sgR b))=(a == b):=by
  unfold UC
  rw [hs]
  show (((a:Nat):Int) == ((b:Nat):Int))=_
  rw [qG]; simp; omega
 have eD:(dfB (sgR a) (sgR b)) = !(a == b):=by
  show (decide (((a:Nat):Int) < ((b:Nat):Int)) || decide (((b:Nat):Int) < ((a:Nat):Int)))=_
  rw [qG]; simp; omega
 by_cases q:op=15
 ·rw [if_pos q,if_pos q]; exact ABU eA eD
 rw [if_neg q,if_neg q]; have n15:=q; clear q
 by_cases q:op=16
 ·rw [if_pos q,if_pos q]; exact ABU eD (by rw [eA,Bool.not_not])
 rw [if_neg q,if_neg q]; have n16:=q; clear q
 by_cases q:op=17
 ·rw [if_pos q,if_pos q]
  refine ABU ?_ ?_
  ·show decide (((a:Nat):Int) < ((b:Nat):Int))=decide (a < b); rw [qG]; simp
  ·show decide (((a:Nat):Int)≥((b:Nat):Int)) = !decide (a < b); rw [qG]; simp
 rw [if_neg q,if_neg q]; have n17:=q; clear q
 by_cases q:op=18
 ·rw [if_pos q,if_pos q]
  refine ABU ?_ ?_
  ·show decide (((a:Nat):Int)≤((b:Nat):Int))=decide (a≤b); rw [qG]; simp
  ·show decide (((a:Nat):Int) > ((b:Nat):Int)) = !decide (a≤b); rw [qG]; simp
 rw [if_neg q,if_neg q]; have n18:=q; clear q
 rw [XU,XU,VB,VB]
 by_cases q:op=19
 ·rw [if_pos q,if_pos q]; exact ABU rfl (by cases (a == 0) <;> cases (b == 0) <;> rfl)
 rw [if_neg q,if_neg q]; clear q
 by_cases q:op=20
 ·rw [if_pos q,if_pos q]; exact ABU rfl (by cases (a == 0) <;> cases (b == 0) <;> rfl)
 rw [if_neg q,if_neg q]
 exact ABU rfl (by cases (a == 0) <;> cases (b == 0) <;> rfl)
theorem APY (x:Nat) : ∀ (imp:Bool) (l:List Nat),imp=true→inR (tr (AAI x l)) (PN (sgR x) imp (l.map sgR))
 | imp,[],h=>by subst h; show inR 0 (knR false true); exact ⟨by decide,by decide⟩
 | imp,[_],h=>by subst h; show inR 0 (knR false true); exact ⟨by decide,by decide⟩
 | imp,a :: b :: r,h=>by
   have eT:VQ (sgR x) (sgR a) (sgR b)=(decide (a≤x) && decide (x≤b)):=by
    show (decide (((x:Nat):Int)≥((a:Nat):Int)) && decide (((x:Nat):Int)≤((b:Nat):Int)))=_
    rw [qG]; simp
   show inR (tr ((decide (a≤x) && decide (x≤b)) || AAI x r)) (if VQ (sgR x) (sgR a) (sgR b)=true then ⟨1,1⟩ else PN (sgR x) (if XV (sgR x) (sgR a) (sgR b)=true then false else imp) (r.map sgR))
   rw [eT]
   cases q:(decide (a≤x) && decide (x≤b))
   ·have eP:XV (sgR x) (sgR a) (sgR b)=false:=by
     show (decide (((x:Nat):Int)≥((a:Nat):Int)) && decide (((x:Nat):Int)≤((b:Nat):Int)) && decide (((a:Nat):Int)≤((b:Nat):Int)))=false
     rw [← Bool.not_eq_true] at q ⊢
     intro hq
     refine q ?_
     simp at hq ⊢
     omega
    rw [eP,if_neg (by decide),if_neg (by decide),Bool.false_or]
    exact APY x imp r h
   ·rw [if_pos rfl,Bool.true_or]; exact ⟨by decide,by decide⟩
theorem AYJ (op:Int) (hop:4≤op∧op≤25∧op≠24) (vs:List Nat) (hv : ∀ x∈vs,x < 65536) (h1:op=4∨op=5∨op=6∨op=25→vs.length=1) (h3:op=22→vs.length=3) (h2:7≤op→op≤21→vs.length=2) (hi:op=23→3≤vs.length):inR (opW op vs) (opR op (vs.map sgR)):=by
 have gd : ∀ k,k < vs.length→(vs.map sgR).getD k IP=sgR (vs.getD k 0):=fun k hk=>by
  rw [zD,zD,List.getElem?_map,List.getElem?_eq_getElem hk]; rfl
 have g0:=getD_lt hv 0
 have g1:=getD_lt hv 1
 by_cases q:op=22
 ·have hl:=h3 q
  have e:opR op (vs.map sgR)=AAM (sgR (vs.getD 0 0)) (sgR (vs.getD 1 0)) (sgR (vs.getD 2 0)):=by
   unfold opR
   rw [if_neg (by omega),if_neg (by omega),if_neg (by omega),if_neg (by omega),if_pos q,gd 0 (by omega),gd 1 (by omega),gd 2 (by omega)]
  rw [e]
  unfold opW AAM
  rw [if_pos q,XU,VB]
  cases z:(vs.getD 0 0 == 0)
  ·have z':vs.getD 0 0≠0:=by simpa using z
   rw [if_pos z',if_pos (by decide)]; exact QB _
  ·have z' : ¬ vs.getD 0 0≠0:=by simpa using z
   rw [if_neg z',if_neg (by decide),if_pos rfl]; exact QB _
 by_cases q':op=23
 ·have hl:=hi q'
  have e:opR op (vs.map sgR)=PN (sgR (vs.getD 0 0)) true ((vs.drop 1).map sgR):=by
   unfold opR
   rw [if_neg (by omega),if_neg (by omega),if_neg (by omega),if_neg (by omega),if_neg q,if_pos q',gd 0 (by omega),← List.map_drop]
  rw [e]
  unfold opW
  rw [if_neg q,if_pos q']
  exact APY _ true _ rfl
 unfold opW
 rw [if_neg q,if_neg q']
 by_cases q4:op=4∨op=5∨op=6∨op=25
 ·have hl:=h1 q4
  unfold opR
  rw [if_pos hl,gd 0 (by omega)]
  unfold sgW
  by_cases z:op=4
  ·rw [if_pos z,if_pos z,XU,VB]; exact AU0 _
  rw [if_neg z,if_neg z]; have z4:=z; clear z
  by_cases z:op=5
  ·rw [if_pos z,if_pos z]
   exact ⟨by show 65535 - ((vs.getD 0 0:Nat):Int)≤_; omega,by show _≤65535 - ((vs.getD 0 0:Nat):Int); omega⟩
  rw [if_neg z,if_neg z]; have z5:=z; clear z
  by_cases z:op=6
  ·rw [if_pos z,if_pos z]
   unfold XO
   rw [VB,XU]
   cases y:(vs.getD 0 0 == 0)
   ·have y':vs.getD 0 0≠0:=by simpa using y
    rw [if_neg (by decide),if_pos (by decide)]
    exact ⟨by show 65536 - ((vs.getD 0 0:Nat):Int)≤_; omega,by show _≤65536 - ((vs.getD 0 0:Nat):Int); omega⟩
   ·have y':vs.getD 0 0=0:=by simpa using y
    rw [y',if_pos rfl]; exact ⟨by decide,by decide⟩
  rw [if_neg z,if_neg z,if_pos (by omega)]
  unfold ABJ
  rw [if_pos (AAR _)]
  exact QB _
 ·have hl:=h2 (by omega) (by omega)
  have e:opR op (vs.map sgR)=MJ op (sgR (vs.getD 0 0)) (sgR (vs.getD 1 0)):=by
   unfold opR
   rw [if_neg (by omega),if_neg (by omega),if_neg (by omega),if_neg (by omega),if_neg q,if_neg q',gd 0 (by omega),gd 1 (by omega)]
  rw [e,if_neg (show ¬ vs.length=1 by omega)]
  exact AW8 op (by omega) _ _ g0 g1
def AVD (vars:List Vr) (l:List Rng) (sg:List Sg):Prop := ∀ n,(KP sg n).2=true→0≤plc vars n∧inR (KP sg n).1 (l.getD (plc vars n).toNat IP)
theorem AOJ (vars:List Vr) (l:List Rng) (sg:List Sg) (hE:AVD vars l sg) (hl : ∀ r∈l,wfR r) (e:Ex):(∀ x∈pre e,I4 x=0)→(∀ x∈pre e,knE sg x=true)→inR (KE sg e) (evS vars l e):=by
 induction e using Ex.induct with | h e ih => ?_
 intro hval hkn
 have hnode:=hval e (by rw [pre_eq]; simp)
 have hk:=hkn e (by rw [pre_eq]; simp)
 obtain ⟨a1,a25,ar1,ar3,arI,ar2⟩:=AAV hnode
 have hn1:=(UG hnode).1
 rw [AJX,U1]
 unfold AAA evO
 by_cases h1:e.op=1
 ·rw [if_pos h1,if_pos h1]
  have:=hn1 h1
  have e1:e.n.toNat % 65536=e.n.toNat:=Nat.mod_eq_of_lt (by omega)
  rw [e1]
  exact ⟨by show e.n≤_; omega,by show _≤e.n; omega⟩
 rw [if_neg h1,if_neg h1]
 by_cases h2:e.op=2
 ·rw [if_pos h2,if_pos h2]
  unfold knE at hk
  rw [if_pos h2] at hk
  obtain ⟨p0,p1⟩:=hE _ hk
  unfold AOI
  rw [if_pos p0]; exact p1
 rw [if_neg h2,if_neg h2]
 by_cases h3:e.op=3
 ·rw [if_pos h3,if_pos (.inl h3)]; exact AJP (AKE _ _ _)
 rw [if_neg h3]
 by_cases h24:e.op=24
 ·rw [if_pos h24,if_pos (.inr h24)]; exact AJP (AA6 _ _ _)
 rw [if_neg h24,if_neg (by omega)]
 have hlen:=U0 sg e.args
 refine AWD (AYJ e.op (by omega) (NE sg e.args) (AGL sg e.args) (fun q=>by rw [hlen]; exact ar1 q) (fun q=>by rw [hlen]; exact ar3 q) (fun q1 q2=>by rw [hlen]; exact ar2 q1 q2) (fun q=>by rw [hlen]; exact (arI q).2)) (AV3 e.op ?_)
 rw [MN,MF,List.map_map]
 have key : ∀ xs:List Ex,(∀ a∈xs,a∈e.args)→SubL (xs.map (sgR ∘ KE sg)) (xs.map (evS vars l)):=by
  intro xs
  induction xs with
  | nil=>intro _; exact .nil
  | cons x xs ihx =>
    intro hm
    have hx:=hm x (by simp)
    have hin:=ih x hx (fun y hy=>hval y (by rw [pre_eq]; exact qN _ (LG hx y hy))) (fun y hy=>hkn y (by rw [pre_eq]; exact qN _ (LG hx y hy)))
    have hlt:=AK0 sg x
    exact .cons ⟨Int.natCast_nonneg _,zJ _,by show ((KE sg x:Nat):Int)≤65535; omega⟩ (AOE vars hl x fun y hy=>hval y (by rw [pre_eq]; exact qN _ (LG hx y hy))) ⟨hin.1,hin.2⟩ (ihx fun a ha=>hm a (by simp [ha]))
 exact key e.args fun a h=>h
end Go.Proofs.YtokehnfjjmpanaaGreatDoor.Bd
set_option linter.unusedSimpArgs false
set_option maxRecDepth 8000
namespace Go.Proofs.YtokehnfjjmpanaaGreatDoor.Bd
open Sm Bins Cov Xe Wd Go.RowKit
open Bool renaming not_false→jC,or_false→jO
open Int renaming le_refl→zJ,toNat_natCast→zG
open List renaming getD_eq_getElem?_getD→zD,getElem?_eq_getElem→jU,replicate→qJ,take_of_length_le→jX,length_take→zV,take_succ_eq_append_getElem→zT,length_map→jM,getElem_mem→jQ,contains_cons→jP,contains_nil→jR,getElem_of_mem→qB,map_cons→jF,map_nil→jD,append_nil→jE
open Nat renaming le_refl→jL,le_of_ble_eq_true→jH,reduceEqDiff→jB,add_zero→jI,zero_add→jG,reduceAdd→jK,reduceBEq→jS
open Option renaming getD_some→jA,getD_none→jJ
def ch1 (r:Rng):Option Int→Int
 | some a=>r.lo+a % (r.hi - r.lo+1)
 | none=>r.lo
def chL (l:List Rng) (at':List Int):List Int:=(List.range l.length).map fun i=>ch1 (l.getD i IP) at'[i]?
theorem MI (l:List Rng) (at':List Int):(chL l at').length=l.length:=by simp [chL]
theorem AFR {l:List Rng} {at':List Int} {i:Nat} (hi:i < (chL l at').length):(chL l at')[i]=ch1 (l[i]'(by rw [MI] at hi; exact hi)) at'[i]? := by
 have hi':i < l.length:=by rw [MI] at hi; exact hi
 simp only [chL,List.getElem_map,List.getElem_range,zD,jU hi',jA]
theorem AKA {r:Rng} (hr:wfR r) (o:Option Int):r.lo≤ch1 r o∧ch1 r o≤r.hi:=by
 obtain ⟨r0,r1,r2⟩:=hr
 cases o with
 | none=>exact ⟨zJ _,r1⟩
 | some a =>
   have hm0:=Int.emod_nonneg a (show r.hi - r.lo+1≠0 by omega)
   have hm1:=Int.emod_lt_of_pos a (show 0 < r.hi - r.lo+1 by omega)
   exact ⟨by show r.lo≤r.lo+a % (r.hi - r.lo+1); omega,by show r.lo+a % (r.hi - r.lo+1)≤r.hi; omega⟩
def chI (l:List Rng) (at':List Int) (k:Nat):List Int:=(chL l at').take k ++ qJ (l.length - k) 0
theorem AQZ (l:List Rng) (at':List Int):chI l at' 0=qJ l.length 0:=by simp [chI]
theorem AQ0 (l:List Rng) (at':List Int):chI l at' l.length=chL l at':=by
 unfold chI
 rw [jX (by rw [MI]; exact jL _),Nat.sub_self]; simp
theorem AT0 (l:List Rng) (at':List Int) {k:Nat} (h:k≤l.length):(chI l at' k).length=l.length:=by
 unfold chI
 rw [List.length_append,zV,MI,List.length_replicate]; omega
theorem AL0 (l:List Rng) (at':List Int) {k:Nat} (h:k < l.length):(chI l at' k).set k (ch1 l[k] at'[k]?)=chI l at' (k+1):=by
 unfold chI
 have hk:((chL l at').take k).length=k:=by rw [zV,MI]; omega
 rw [List.set_append_right _ _ (by rw [hk]; exact jL _),hk,Nat.sub_self]
 obtain ⟨m,hm⟩ : ∃ m,l.length - k=m+1:=⟨l.length - k - 1,by omega⟩
 have hm2:l.length - (k+1)=m:=by omega
 have hkl:k < (chL l at').length:=by rw [MI]; exact h
 rw [hm,hm2,List.replicate_succ,List.set_cons_zero,zT hkl,AFR hkl]
 simp
theorem AYS (h:Hp) (n:Nat) (hn:n≤1048576):I9 Tryz.prog true h 45 (.int .i64 (n:Int)) (.int .i64 (n:Int))=some (.own h.length 0 n,h ++ [.live 1 ((qJ n (0:Int)).map qencI)]):=by
 have hz:MR Tryz.prog 3=some [.int .i64 0]:=by kernel_rfl
 have hr:room n 8:=OZ (by omega) (by omega)
 unfold I9
 simp only [AVM,sz3,AW4,hz,zG]
 rw [if_pos ⟨by omega,zJ _,hr,rfl⟩,List.map_replicate]; rfl
theorem AX4 {H:Hp} {b i:Nat} {xs:List Int} (z:Int) (hb:H[b]? = some (.live 1 (xs.map qencI))) (hi:i < xs.length):F7 Tryz.prog H 3 (.ptr b i 0) (.int .i64 z)=some (H.set b (.live 1 ((xs.set i z).map qencI))):=by
 rw [JG (cs := [.int .i64 z]) rfl sz3 hb (row:=qencI xs[i]) (by rw [List.getElem?_map,jU hi]; rfl) (by simp [qencI]),List.map_set]; rfl
theorem frzI:Frz qencI:=fun _ _ _ _=>⟨rfl,rfl⟩
section
variable (G:Nat→AV)
set_option maxHeartbeats 2000000 in
theorem ACH (l:List Rng) (m:SM) (at':List Int) (am:SM) (hl:l.length≤1048576) (hw : ∀ r∈l,wfR r) (hu : ∀ z∈at',0≤z∧z≤65535) (h:Hp):PCall (En G) 18 [.sl m 2 (l.map encR),.sl am 1 (at'.map AJZ)] h (.sl .any 1 ((chL l at').map qencI)):=by
 refine ACalls.pure (R:=fun v H=>Sm.ext h H∧JS h.length H 2 v = .sl .any 1 ((chL l at').map qencI)) 2 ?_ (fun v H q=>q)
 refine acN Tryz.func18 rfl ?_
 show awp _ _ _ _ _ (EE _ [.tmp 4] _)
 have gO:=C9 h (ABlk.live 1 ((qJ l.length (0:Int)).map qencI))
 have hx0:Sm.ext h (h ++ [ABlk.live 1 ((qJ l.length (0:Int)).map qencI)]):=(ext.rfl' h).app _
 simp -implicitDefEqProofs only [BC,CB,A8,A7,AZ,BA,AC,AQ,AO,BD,AX,AL,AA,AY,AU,BG,MC,BH,BB,QV,E5,BZ,AB,BF,↓reduceIte,jB,jA,jC,enP,ADA,jM,AYS _ _ hl]
 generalize h ++ [ABlk.live 1 ((qJ l.length (0:Int)).map qencI)]=H0 at gO hx0 ⊢
 obtain ⟨ob,hob⟩ : ∃ ob,h.length=ob:=⟨_,rfl⟩
 rw [hob] at gO ⊢
 rw [← AQZ l at'] at gO
 refine IY 0 (fun F H=>F 5 = .own ob 0 l.length∧H[ob]? = some (.live 1 ((chL l at').map qencI))∧Sm.ext h H) (fun _ _=>False) ?_ ?_ (fun _ _ q=>q.elim)
 ·refine D7 (fun n F H => ∃ i,n+i=l.length∧F 1 = .sl am 1 (at'.map AJZ)∧F 5 = .own ob 0 l.length∧F 11 = .sl m 2 (l.map encR)∧F 12 = .int .i64 (l.length:Nat)∧F 13 = .int .i64 (i:Nat)∧H[ob]? = some (.live 1 ((chI l at' i).map qencI))∧Sm.ext h H) l.length
   ⟨0,by simp,by simp -implicitDefEqProofs only [AA,BF,BQ,↓reduceIte,jB],by simp -implicitDefEqProofs only [AA,↓reduceIte,jB],by simp -implicitDefEqProofs only [AA,↓reduceIte,jB],by simp -implicitDefEqProofs only [AA,↓reduceIte,jB],by simp -implicitDefEqProofs only [AA,↓reduceIte]; rfl,gO,hx0⟩ ?_
  clear gO hx0
  rintro n F H ⟨i,hi,f1,f5,f11,f12,f13,gO,hx⟩
  simp -implicitDefEqProofs only [BC,A8,BJ,A7,AZ,BA,AC,AQ,AO,BD,AX,AL,AA,AY,BU,AB,DF,↓reduceIte,jA,jC,enP,f12,f13]
  refine CV (fun hc => ?_) (fun hc => ?_)
  ·have hi':i < l.length:=by simpa using hc
   have g7:=C9 H (ABlk.live 2 [encR l[i]])
   have gO1:=CX (x:=ABlk.live 2 [encR l[i]]) gO
   have hx1:=hx.app [ABlk.live 2 [encR l[i]]]
   have hlo:=CP gO
   obtain ⟨w0,w1,w2⟩:=hw _ (jQ hi')
   simp -implicitDefEqProofs only [BC,CB,A8,BR,A7,AZ,BA,AC,AQ,AO,BD,AX,AL,DZ,AA,AY,BH,BB,EZ,BP,CZ,BI,CQ,BZ,AB,CE,↓reduceIte,jB,jI,jA,jC,enP,QS,GI,jJ,f11,f13,EF hi',EO AF2 TY O8 hi',OU,UA]
   have h7:H.length≠ob:=by omega
   generalize H ++ [ABlk.live 2 [encR l[i]]]=H1 at g7 gO1 hx1 ⊢
   generalize H.length=b7 at g7 h7 ⊢
   have hci:i < (chI l at' i).length:=by rw [AT0 l at' (by omega)]; exact hi'
   have io : ∀ {K:Hp} {xs:List Int},K[ob]? = some (.live 1 (xs.map qencI))→JM 1 K (.own ob 0 l.length) (.int .i64 (i:Nat))=some (.ptr ob (0+i) 0):=fun q=>J9 q hi'
   have s1:=AX4 l[i].lo gO1 hci
   have io1:=io gO1
   rw [jG] at io1
   simp -implicitDefEqProofs only [BC,A8,BJ,A7,AZ,BA,AC,AQ,AO,BD,AX,AL,DZ,AA,AY,BH,CZ,BU,CQ,E5,AB,CE,DF,↓reduceIte,jB,jA,jC,enP,A1G,RH,jJ,f5,f13,G5 g7,io1,s1,f1,jM]
   have gO2:(H1.set ob (.live 1 (((chI l at' i).set i l[i].lo).map qencI)))[ob]? = some (.live 1 (((chI l at' i).set i l[i].lo).map qencI)):=G7 gO1
   have g7':(H1.set ob (.live 1 (((chI l at' i).set i l[i].lo).map qencI)))[b7]? = some (.live 2 [encR l[i]]):=by rw [List.getElem?_set_ne (Ne.symm h7)]; exact g7
   have hx2:=hx1.set (b:=ob) (by omega) (.live 1 (((chI l at' i).set i l[i].lo).map qencI))
   generalize H1.set ob (.live 1 (((chI l at' i).set i l[i].lo).map qencI))=H2 at gO2 g7' hx2 ⊢
   have hc2:i < ((chI l at' i).set i l[i].lo).length:=by rw [List.length_set]; exact hci
   refine CV (fun hd => ?_) (fun hd => ?_)
   ·have hia:i < at'.length:=by simpa using hd
    obtain ⟨u0,u1⟩:=hu _ (jQ hia)
    have hm0:=Int.emod_nonneg at'[i] (show l[i].hi - l[i].lo+1≠0 by omega)
    have hm1:=Int.emod_lt_of_pos at'[i] (show 0 < l[i].hi - l[i].lo+1 by omega)
    have l55:DL Tryz.prog H2 55 (.fptr 1 (at'.map AJZ) i 0)=some (.int .u16 at'[i]):=by rw [GG (by kernel_rfl) hia]; rfl
    have s2:=AX4 (l[i].lo+at'[i] % (l[i].hi - l[i].lo+1)) gO2 hc2
    rw [List.set_set] at s2
    have hst:(chI l at' i).set i (l[i].lo+at'[i] % (l[i].hi - l[i].lo+1))=chI l at' (i+1):=by
     rw [← AL0 l at' hi',jU hia]; rfl
    rw [hst] at s2
    have io2:=io gO2
    rw [jG] at io2
    try simp -implicitDefEqProofs only []
    refine EX (by kernel_rfl) ?_
    simp -implicitDefEqProofs only [FC,DV,CY,GN,EC,DW,EP,ED,GL,IJ,AEO,DN,EQ,A8,A7,EK,FI,AZ,BA,AC,AQ,AO,BD,AX,AL,AA,AY,AU,BG,BH,BP,CZ,BU,PK,BI,CQ,AB,CE,DY,IZ,↓reduceIte,jB,jK,jI,jG,jA,jC,enP,GI,GR,A1H,RH,AWU,jJ,f1,f5,f13,G5 g7',IA g7',EF hia,l55,wrap_i64 (n:=at'[i]) (by omega) (by omega),wrap_i64 (n:=l[i].hi - l[i].lo) (by omega) (by omega),wrap_i64 (n:=l[i].hi - l[i].lo+1) (by omega) (by omega),AYB u0 (show 0 < l[i].hi - l[i].lo+1 by omega),wrap_i64 (n:=l[i].lo+at'[i] % (l[i].hi - l[i].lo+1)) (by omega) (by omega),io2,s2,wrap_succ (show i < 9223372036854775807 by omega)]
    exact ⟨n - 1,by omega,i+1,by omega,by trivial,by trivial,by trivial,by trivial,by trivial,G7 gO2,hx2.set (by omega) _⟩
   ·have hia : ¬ i < at'.length:=by simpa using hd
    have hst:(chI l at' i).set i l[i].lo=chI l at' (i+1):=by
     rw [← AL0 l at' hi',List.getElem?_eq_none (by omega)]; rfl
    rw [hst] at gO2
    simp -implicitDefEqProofs only [A8,BR,A7,EK,FI,AZ,BA,AC,AQ,AO,BD,AX,AL,AA,AY,AU,BG,BH,BU,AB,DY,↓reduceIte,jB,jA,jC,enP,f13,wrap_succ (show i < 9223372036854775807 by omega)]
    exact ⟨n - 1,by omega,i+1,by omega,by trivial,by trivial,by trivial,by trivial,by trivial,gO2,hx2⟩
  ·have hi' : ¬ i < l.length:=by simpa using hc
   obtain rfl:i=l.length:=by omega
   rw [AQ0] at gO
   simp -implicitDefEqProofs only [D6,EU,MX,FX,AA,↓reduceIte,jB]
   exact ⟨f5,gO,hx⟩
 ·rintro F H ⟨f5,gO,hx⟩
  simp -implicitDefEqProofs only [BC,A8,BK,A7,FT,CU,AZ,BA,AC,AQ,AO,BD,AX,AL,AA,AY,BH,BB,↓reduceIte,jA,jC,f5]
  refine ⟨hx,?_⟩
  have hl':=MI l at'
  rw [← hl']
  exact AFD frzI (jL _) gO
end
def JP (vars:List Vr) (a:List Int):List Sg:=List.zipWith (fun v z=>(v.name,z)) vars a
theorem X7 {vars:List Vr} {a:List Int} (h:a.length=vars.length):(JP vars a).length=vars.length:=by unfold JP; simp; omega
theorem ALR {vars:List Vr} {a:List Int} {i:Nat} (h1:i < vars.length) (h2:i < a.length) (h:i < (JP vars a).length):(JP vars a)[i]=(vars[i].name,a[i]):=by simp [JP]
theorem YW : ∀ (vars:List Vr) (a:List Int),a.length=vars.length→(∀ z∈a,0≤z∧z≤65535)→∀ n:ByteArray,(KP (JP vars a) n).2=true→0≤plc vars n∧∃ h:(plc vars n).toNat < a.length,((KP (JP vars a) n).1:Int)=a[(plc vars n).toNat]
 | [],[],_,_,n,h=>by cases h
 | [],_ :: _,hl,_,_,_=>by simp at hl
 | _ :: _,[],hl,_,_,_=>by simp at hl
 | v :: vs,z :: a,hl,hz,n,h=>by
   have e:KP (JP (v :: vs) (z :: a)) n=if (v.name.toList == n.toList)=true then (wW z,true) else KP (JP vs a) n:=rfl
   have ep:plc (v :: vs) n=if (v.name.toList == n.toList)=true then 0 else if plc vs n < 0 then -1 else plc vs n+1:=rfl
   rw [e] at h ⊢
   obtain ⟨z0,z1⟩:=hz z (by simp)
   by_cases q:(v.name.toList == n.toList)=true
   ·rw [if_pos q] at h ep ⊢
    rw [ep]
    refine ⟨zJ _,by simp,?_⟩
    show ((wW z:Nat):Int)=z
    rw [AAO]; omega
   ·rw [if_neg q] at h ep ⊢
    obtain ⟨p0,p1,p2⟩:=YW vs a (by simpa using hl) (fun x hx=>hz x (by simp [hx])) n h
    rw [if_neg (by omega)] at ep
    obtain ⟨k,hk⟩:=Int.eq_ofNat_of_zero_le p0
    have hk2:plc (v :: vs) n=((k+1:Nat):Int):=by rw [ep,hk]; omega
    rw [hk2]
    have p1':k < a.length:=by rw [hk,zG] at p1; exact p1
    refine ⟨by omega,by rw [zG]; simp; omega,?_⟩
    rw [p2]
    simp [hk]
theorem A17 (n:ByteArray) (z:Int):JZ Tryz.prog 87 [(0,.str n),(1,.int .i64 z)]=some (.agg (N7 (n,z))):=by kernel_rfl
theorem A13 (h:Hp) (s:Sg):FU Tryz.prog false h 47 1 [(0,.agg (N7 s))]=some (.sl .full 2 [N7 s],h):=by kernel_rfl
theorem AY1:Frz N7:=fun _ _ _ _=>⟨rfl,rfl⟩
section
variable (G:Nat→AV)
set_option maxHeartbeats 1000000 in
theorem AL8 (p:Pr) (hs:PrS p) (a:List Int) (m:SM) (hl:a.length=p.vars.length) (h:Hp):PCall (En G) 19 [.agg (D8 p),.sl m 1 (a.map qencI)] h (.sl (nm (JP p.vars a)) 2 ((JP p.vars a).map N7)):=by
 have hvl:=hs.vars
 have hel:=X7 hl
 refine U7 AY1 ?_
 refine JB (H:=hint [32] []) (enM G) Tryz.func19 rfl (by kernel_rfl) (by kernel_rfl) (jH (by kernel_rfl)) ?_
 show awp _ _ _ _ _ (EE _ [.tmp 4] _)
 have ge:=C9 h (ABlk.live 5 [D8 p])
 have hx:ext h (h ++ [ABlk.live 5 [D8 p]]):=(ext.rfl' h).app _
 have hh:h.length≤(h ++ [ABlk.live 5 [D8 p]]).length:=by simp
 simp -implicitDefEqProofs only [EI,jP,jR,jS,jO,BC,A8,A7,AZ,BA,AO,BD,AX,AL,AA,AY,AU,MC,BH,BB,FN,BP,BI,E5,BZ,AB,BF,BQ,↓reduceIte,jB,jI,jA,jC,enP,KZ,ABR,E8,VS]
 generalize h ++ [ABlk.live 5 [D8 p]]=H0 at ge hx hh ⊢
 generalize hpb:h.length=pb at ge hh ⊢
 have l22 : ∀ {H:Hp},Sm.ext H0 H→DL Tryz.prog H 22 (.ptr pb 0 0)=some (.sl p.vm 4 (p.vars.map FM)):=fun q=>by rw [DC UW (FP q ge) (row:=D8 p) rfl]; rfl
 have hne:(((a.length:Nat):Int) != ((p.vars.length:Nat):Int))=false:=by rw [hl]; simp
 simp -implicitDefEqProofs only [EI,jP,jR,jS,jO,BC,CB,A8,BR,BJ,A7,DX,AZ,BA,AO,BD,AX,AL,AA,AY,AU,BG,MC,BB,BU,E5,AB,FD,↓reduceIte,jB,jA,jC,enP,QR,E8,l22 (ext.rfl' H0),jM,hne]
 refine D7 (fun n F H => ∃ i u,n+i=a.length∧F 1 = .sl m 1 (a.map qencI)∧F 2 = .ptr pb 0 0∧F 5=u∧F 6 = .int .i64 (i:Nat)∧ext H0 H∧outG 2 N7 H0 ((JP p.vars a).take i) u H) a.length
  ⟨0,.sl .nil 0 [],by simp,by simp -implicitDefEqProofs only [AA,BF,BQ,↓reduceIte,jB],by simp -implicitDefEqProofs only [AA,↓reduceIte,jB],by simp -implicitDefEqProofs only [AA,↓reduceIte,jB],by simp -implicitDefEqProofs only [AA,↓reduceIte]; rfl,ext.rfl' _,outG.nil _ _ _ _⟩ ?_
 rintro n F H ⟨i,u,hi,f1,f2,f5,f6,hxH,ho⟩
 simp -implicitDefEqProofs only [EI,jP,jR,jS,jO,BC,A8,BJ,A7,AZ,BA,AO,BD,AX,AL,AA,AY,BH,BU,E5,AB,DF,↓reduceIte,jB,jA,jC,enP,ABR,E8,f1,f6,jM]
 refine CV (fun hc => ?_) (fun hc => ?_)
 ·have hi':i < a.length:=by simpa using hc
  have hiv:i < p.vars.length:=by omega
  have hie:i < (JP p.vars a).length:=by omega
  obtain ⟨v',H',ha,ho',_,hx',_,_⟩:=ho.append (P:=Tryz.prog) A0M (by kernel_rfl) A0J A1Z (by omega) (by rw [zV]; omega) hxH (p.vars[i].name,a[i])
  rw [← ALR hiv hi' hie,← zT hie] at ho'
  have ln:DL Tryz.prog H 9 (.fptr 4 (p.vars.map FM) i 0)=some (.str p.vars[i].name):=by rw [GG ag9 hiv]; rfl
  have la:DL Tryz.prog H 3 (.fptr 1 (a.map qencI) i 0)=some (.int .i64 a[i]):=by rw [GG ag3 hi']; rfl
  try simp -implicitDefEqProofs only [BC,CB,BR,A7]
  refine EX (by kernel_rfl) ?_
  simp -implicitDefEqProofs only [FC,FB,ES,EI,jP,jR,jS,jO,DV,CY,EC,DW,EP,G9,NJ,PU,ED,DN,EQ,OE,A8,A7,EK,FI,AZ,BA,AO,BD,AX,AL,AA,AY,AU,BG,BH,BB,FZ,GM,BP,BU,BI,CQ,NL,BZ,AB,DY,↓reduceIte,jB,jK,jI,jA,jC,enP,TU,KZ,RH,OO,E8,f1,f2,f5,f6,l22 hxH,EF hiv,EF hi',ln,la,A17,A13,ha,wrap_succ (show i < 9223372036854775807 by omega)]
  exact ⟨n - 1,by omega,i+1,v',by omega,by trivial,by trivial,by trivial,by trivial,hx',ho'⟩
 ·have hi' : ¬ i < a.length:=by simpa using hc
  rw [jX (by omega)] at ho
  simp -implicitDefEqProofs only [EI,jP,jR,jS,jO,BC,A8,BK,D6,A7,EU,FT,FX,CU,AZ,BA,AO,BD,AX,AL,AA,AY,BH,BB,↓reduceIte,jB,jA,jC,E8,f5]
  refine ⟨hx.trans hxH,?_⟩
  rcases ho with ⟨a,b⟩ | ⟨a,o,b,c,d⟩
  ·exact .inl ⟨a,b⟩
  ·exact .inr ⟨a,o,Nat.le_trans hx.le b,c,d⟩
end
theorem ACJ {l:List Rng} (hw : ∀ r∈l,wfR r) (at':List Int) : ∀ z∈chL l at',0≤z∧z≤65535:=by
 intro z hz
 obtain ⟨i,hi,rfl⟩:=qB hz
 have hi':i < l.length:=by rw [MI] at hi; exact hi
 rw [AFR hi]
 have h1:=hw _ (jQ hi')
 have h2:=AKA h1 at'[i]?
 obtain ⟨w0,w1,w2⟩:=h1
 omega
theorem AWQ {vars:List Vr} {l:List Rng} (hl:l.length=vars.length) (hw : ∀ r∈l,wfR r) (at':List Int):AVD vars l (JP vars (chL l at')):=by
 intro n hn
 obtain ⟨p0,p1,p2⟩:=YW vars (chL l at') (by rw [MI]; exact hl) (ACJ hw at') n hn
 refine ⟨p0,?_⟩
 have p1':(plc vars n).toNat < l.length:=by rw [MI] at p1; exact p1
 rw [AFR p1] at p2
 have h2:=AKA (hw _ (jQ p1')) at'[(plc vars n).toNat]?
 have e:l.getD (plc vars n).toNat IP=l[(plc vars n).toNat]:=by rw [zD,jU p1']; rfl
 rw [e]
 exact ⟨by rw [p2]; exact h2.1,by rw [p2]; exact h2.2⟩
theorem AQJ {vars:List Vr} {l:List Rng} (hl:l.length=vars.length) (hw : ∀ r∈l,wfR r) (at':List Int) : ∀ s∈JP vars (chL l at'),AIT s:=by
 intro s hs
 obtain ⟨i,hi,rfl⟩:=qB hs
 have hc:(chL l at').length=vars.length:=by rw [MI]; exact hl
 have hi':i < vars.length:=by rw [X7 hc] at hi; exact hi
 rw [ALR hi' (by omega) hi]
 have:=ACJ hw at' _ (jQ (show i < (chL l at').length by omega))
 unfold AIT
 simp only
 omega
section
variable (G:Nat→AV)
set_option maxHeartbeats 2000000 in
theorem AXL (hG:GOk G) (c:Cs) (hs:CsS c) (h:Hp):PCall (En G) 9 [.agg (JQ c)] h (.bool true):=by
 refine ACalls.pure0 rfl ?_
 refine acN Tryz.func9 rfl ?_
 show awp _ _ _ _ _ (EE _ [.tmp 2] _)
 have g1:=C9 h (ABlk.live 11 [JQ c])
 have hx:ext h (h ++ [ABlk.live 11 [JQ c]]):=(ext.rfl' h).app _
 simp -implicitDefEqProofs only [BC,A8,A7,AZ,BA,AC,AQ,AO,BD,AX,AL,AA,AY,AU,BM,BB,FN,BP,BI,BZ,AB,BF,↓reduceIte,jB,jI,jA,jC,enP,NY,AZH]
 generalize h ++ [ABlk.live 11 [JQ c]]=H at g1 hx ⊢
 generalize h.length=b1 at g1 ⊢
 simp -implicitDefEqProofs only [AZ,AC,AQ,AO,BD,AX,AL,AA,AY,BO,BV,BN,AB,jF,jD,jE,↓reduceIte,jA,jC,Q3 g1]
 refine (ADL G c.p hs.p H).use ?_
 simp -implicitDefEqProofs only [AZ,BL,BX,CG,AC,AQ,AO,BD,AX,AL,AA,AY,AU,BG,BH,BU,AB,FD,↓reduceIte,jA,jC,enP]
 have wide : ∀ q:(NM c.p≠0∨TF c.p.vars c.l=false),evP c.e c.p c.l=IP:=fun q=>by
  unfold evP; rw [if_pos (.inr q)]
 have hall:(IP == (⟨0,65535⟩:Rng))=true:=by decide
 refine IV (fun h1 => ?_) (fun h1 => ?_)
 ·have h1':NM c.p≠0:=by simpa using h1
  have hE:=OY G hG c.e hs.e c.p hs.p c.l c.lm hs.l H
  rw [wide (.inl h1')] at hE
  simp -implicitDefEqProofs only [BC,A8,BJ,A7,DR,AZ,BA,BL,BX,CG,FY,AC,AQ,AO,BD,AX,AL,AA,EG,AY,AU,BO,BM,CO,DK,BP,BI,BV,BN,AB,jF,jD,jE,↓reduceIte,jB,jI,jG,jA,jC,enP,NY,YZ,QH,h1,ZR g1,Q3 g1,RU g1]
  refine hE.use ?_
  simp -implicitDefEqProofs only [FB,ES,AZ,BL,BX,CG,F8,AC,AQ,AO,BD,AX,AL,AA,AY,AU,BO,BG,BH,FZ,BU,BV,BN,AB,jD,jE,↓reduceIte,jB,jA,jC,enP,ARB,ALQ,hall]
  refine (JY G hG H).use ?_
  simp -implicitDefEqProofs only [BK,A7,CJ,CU,AZ,BA,AC,AQ,AO,BD,AX,AL,AA,AY,AU,BM,BB,CO,DK,↓reduceIte,jB,jA,jC]
  exact ⟨by trivial,hx⟩
 have hv:NM c.p=0:=by simpa using h1
 simp -implicitDefEqProofs only [BL,BX,CG,EM,AC,AQ,AO,BD,AX,AL,AA,AY,BO,BP,BI,BV,BN,AB,jF,jD,jE,↓reduceIte,jB,jI,jG,jA,jC,enP,NY,QH,h1,Q3 g1,RU g1]
 refine (AHQ G c.p hs.p c.l c.lm hs.l H).use ?_
 simp -implicitDefEqProofs only [BJ,A7,AZ,BA,BL,BX,CG,EM,AC,AQ,AO,BD,AX,AL,AA,AY,AU,BM,CO,DU,I5,AB,FO,↓reduceIte,jB,jA,jC,h1]
 cases hf:TF c.p.vars c.l
 ·have hE:=OY G hG c.e hs.e c.p hs.p c.l c.lm hs.l H
  rw [wide (.inr hf)] at hE
  simp -implicitDefEqProofs only [BC,A8,DR,AZ,AC,AQ,AO,BD,AX,AL,AA,AY,BO,BP,BI,BV,BN,AB,jF,jD,jE,↓reduceIte,jB,jI,jG,jA,jC,enP,NY,YZ,QH,ZR g1,Q3 g1,RU g1]
  refine hE.use ?_
  simp -implicitDefEqProofs only [FB,ES,AZ,BL,BX,CG,F8,AC,AQ,AO,BD,AX,AL,AA,AY,AU,BO,BG,BH,FZ,BU,BV,BN,AB,jD,jE,↓reduceIte,jB,jA,jC,enP,ARB,ALQ,hall]
  refine (JY G hG H).use ?_
  simp -implicitDefEqProofs only [BK,A7,CJ,CU,AZ,BA,AC,AQ,AO,BD,AX,AL,AA,AY,AU,BM,BB,CO,DK,↓reduceIte,jB,jA,jC]
  exact ⟨by trivial,hx⟩
 obtain ⟨hwl,hll⟩:=MH.1 hf
 have hcl:=MI c.l c.at'
 have hel:=X7 (vars:=c.p.vars) (a:=chL c.l c.at') (by omega)
 have hvl:=hs.p.vars
 have hV:=AEM G (JP c.p.vars (chL c.l c.at')) (nm (JP c.p.vars (chL c.l c.at'))) c.e H (by omega) (AQJ hll hwl c.at') (AIS hs.e)
 have hin:exE c.e=0→(pre c.e).all (knE (JP c.p.vars (chL c.l c.at')))=true→inR (KE (JP c.p.vars (chL c.l c.at')) c.e) (evP c.e c.p c.l):=fun q1 q2=>by
  unfold evP
  rw [if_neg (by rw [q1,hv,hf]; simp)]
  exact AOJ c.p.vars c.l _ (AWQ hll hwl c.at') hwl c.e (RY q1) fun x hx=>List.all_eq_true.1 q2 x hx
 generalize hsg:JP c.p.vars (chL c.l c.at')=sg at hV hin
 simp -implicitDefEqProofs only [BC,BR,A7,DX,Bool.not_true]
 refine EX (by kernel_rfl) ?_
 simp -implicitDefEqProofs only [FC,DV,CY,DW,EP,ED,DN,OD,EW,EJ,AC,AA,AY,BO,BP,BI,GH,AB,jF,jD,jE,↓reduceIte,jB,jK,jI,jG,jA,enP,NY,YZ,QH,AQE,ZR g1,Q3 g1,RU g1,ALJ g1]
 refine ⟨_,ACH G c.l c.lm c.at' c.am hs.l hwl hs.u H,?_⟩
 try simp -implicitDefEqProofs only [ZR g1,Q3 g1,RU g1,ALJ g1]
 refine ⟨_,AL8 G c.p hs.p (chL c.l c.at') .any (by omega) H,?_⟩
 try simp -implicitDefEqProofs only [ZR g1,Q3 g1,RU g1,ALJ g1]
 rw [hsg]
 refine ⟨_,hV,?_⟩
 unfold evV
 simp -implicitDefEqProofs only [FC,List.getElem?_cons_zero,List.getElem?_cons_succ,DV,CY,EC,DW,G9,OD,BC,A8,BJ,A7,AZ,BA,AC,AQ,AO,BD,AX,AL,AA,AY,AU,BG,BH,BU,GH,IW,AB,FD,↓reduceIte,jB,jK,jA,jC,enP]
 refine CV (fun he => ?_) (fun he => ?_)
 ·simp -implicitDefEqProofs only [BC,A8,AZ,AC,AQ,AO,BD,AX,BO,BV,BN,jD,jE,jA,jC]
  refine (JY G hG H).use ?_
  simp -implicitDefEqProofs only [BK,A7,CJ,CU,AZ,BA,AC,AQ,AO,BD,AX,AL,AA,AY,BB,↓reduceIte,jA,jC]
  exact ⟨by trivial,hx⟩
 have he:(evE sg c.e).2=0:=by simpa using he
 obtain ⟨q1,q2,hval⟩:exE c.e=0∧(pre c.e).all (knE sg)=true∧(evE sg c.e).1=KE sg c.e:=by
  unfold evE at he ⊢
  by_cases q:exE c.e≠0
  ·rw [if_pos q] at he; cases he
  rw [if_neg q] at he ⊢
  by_cases q':(pre c.e).all (knE sg)=true
  ·rw [if_pos q']; exact ⟨by simpa using q,q',rfl⟩
  ·rw [if_neg q'] at he; cases he
 have hr:=hin q1 q2
 rw [hval]
 generalize KE sg c.e=v at hr ⊢
 have g5:=C9 H (ABlk.live 2 [encR (evP c.e c.p c.l)])
 have hx5:=hx.app [ABlk.live 2 [encR (evP c.e c.p c.l)]]
 have g15:=CX (x:=ABlk.live 2 [encR (evP c.e c.p c.l)]) g1
 simp -implicitDefEqProofs only [BC,A8,BR,A7,AZ,AC,AQ,AO,BD,AX,AL,AA,AY,BO,BP,BI,BV,BN,AB,jF,jD,jE,↓reduceIte,jB,jI,jG,jA,jC,enP,NY,YZ,QH,ZR g1,Q3 g1,RU g1]
 refine (OY G hG c.e hs.e c.p hs.p c.l c.lm hs.l H).use ?_
 simp -implicitDefEqProofs only [BC,A8,A7,AZ,BA,AC,AQ,AO,BD,AX,AL,DZ,AA,AY,EZ,BP,CZ,BI,BZ,AB,CE,↓reduceIte,jB,jI,jA,jC,enP,GI,jJ,OU,UA]
 generalize H ++ [ABlk.live 2 [encR (evP c.e c.p c.l)]]=H5 at g5 hx5 g15 ⊢
 generalize H.length=b5 at g5 ⊢
 obtain ⟨r1,r2⟩:=hr
 have hA:=Z9 G hG c.e hs.e c.p hs.p c.l c.lm hs.l H5
 have hN:=AKO G hG c.e hs.e c.p hs.p c.l c.lm hs.l H5
 generalize evP c.e c.p c.l=r at *
 have d1:decide (r.lo≤((v:Nat):Int))=true:=decide_eq_true r1
 have d2:decide (((v:Nat):Int)≤r.hi)=true:=decide_eq_true r2
 by_cases hz:v=0
 ·subst hz
  have hT:isT r=false:=by unfold isT; rw [decide_eq_false]; intro q; have r1:r.lo≤0:=r1; omega
  rw [hT] at hA
  have e0:(((0:Nat):Int) != 0)=false:=by decide
  have e1:(((0:Nat):Int) == 0)=true:=by decide
  simp -implicitDefEqProofs only [AZ,BL,BX,CG,F8,EM,AC,AQ,AO,BD,AX,AL,AA,AY,AU,BO,BG,BM,BH,CO,DK,BP,BU,BI,BV,BN,AB,FD,I7,jF,jD,jE,↓reduceIte,jB,jI,jG,jA,jC,enP,GR,NY,YZ,QH,G5 g5,IA g5,d1,d2,e0,e1,ZR g15,Q3 g15,RU g15]
  refine hA.use ?_
  simp -implicitDefEqProofs only [AZ,BL,BX,CG,F8,EM,FY,AC,AQ,AO,BD,AX,AL,AA,EG,AY,AU,BO,BG,BM,BH,CO,DK,DU,BU,I5,BV,BN,AB,DJ,FO,jD,jE,↓reduceIte,jB,jA,jC,enP,e0,e1]
  refine (JY G hG H5).use ?_
  simp -implicitDefEqProofs only [BK,A7,CU,AZ,BA,AC,AQ,AO,BD,AX,AL,AA,AY,AU,BM,BB,CO,DK,↓reduceIte,jB,jA,jC]
  exact ⟨by trivial,hx5⟩
 ·have hF:isF r=false:=by
   unfold isF
   rw [← Bool.not_eq_true]
   intro q
   have q:r.hi=0:=by simpa using q
   omega
  rw [hF] at hN
  have e0:(((v:Nat):Int) != 0)=true:=by simp; omega
  have e1:(((v:Nat):Int) == 0)=false:=by simp; omega
  simp -implicitDefEqProofs only [AZ,BL,BX,CG,F8,EM,FY,AC,AQ,AO,BD,AX,AL,AA,EG,AY,AU,BO,BG,BM,BH,CO,DK,BP,BU,BI,BV,BN,AB,DJ,FD,I7,jF,jD,jE,↓reduceIte,jB,jI,jG,jA,jC,enP,GR,NY,YZ,QH,G5 g5,IA g5,d1,d2,e0,e1,ZR g15,Q3 g15,RU g15]
  refine hN.use ?_
  simp -implicitDefEqProofs only [AZ,BL,BX,CG,F8,EM,AC,AQ,AO,BD,AX,AL,AA,AY,AU,BO,BM,BH,CO,DK,DU,I5,BV,BN,AB,FO,jD,jE,↓reduceIte,jB,jA,jC,e0,e1]
  refine (JY G hG H5).use ?_
  simp -implicitDefEqProofs only [BK,A7,CU,AZ,BA,AC,AQ,AO,BD,AX,AL,AA,AY,AU,BM,BB,CO,DK,↓reduceIte,jB,jA,jC]
  exact ⟨by trivial,hx5⟩
end
end Go.Proofs.YtokehnfjjmpanaaGreatDoor.Bd
namespace Go.Proofs.YtokehnfjjmpanaaGreatDoor.Bd
open Bins Cov Xe Wd
open Int renaming eq_ofNat_of_zero_le→zI,toNat_natCast→zG,le_refl→zJ
open List renaming mem_cons_of_mem→qN,getD_eq_getElem?_getD→zD,getElem?_eq_getElem→jU,length_set→qM,getElem_mem→jQ
theorem YV : ∀ (vars:List Vr) (a:List Int),a.length=vars.length→∀ n:ByteArray,∀ i:Nat,plc vars n=(i:Nat)→∃ h:i < a.length,(KP (JP vars a) n).1=wW a[i]
 | [],[],_,n,i,h=>by
   have:plc [] n = -1:=rfl
   omega
 | [],_ :: _,hl,_,_,_=>by simp at hl
 | _ :: _,[],hl,_,_,_=>by simp at hl
 | v :: vs,z :: a,hl,n,i,h=>by
   have e:KP (JP (v :: vs) (z :: a)) n=if (v.name.toList == n.toList)=true then (wW z,true) else KP (JP vs a) n:=rfl
   have ep:plc (v :: vs) n=if (v.name.toList == n.toList)=true then 0 else if plc vs n < 0 then -1 else plc vs n+1:=rfl
   rw [e]
   by_cases q:(v.name.toList == n.toList)=true
   ·rw [if_pos q] at ep ⊢
    have:i=0:=by omega
    subst this
    exact ⟨by simp,rfl⟩
   ·rw [if_neg q] at ep ⊢
    by_cases q':plc vs n < 0
    ·rw [if_pos q'] at ep; omega
    rw [if_neg q'] at ep
    obtain ⟨k,hk⟩:=zI (show 0≤plc vs n by omega)
    obtain ⟨p1,p2⟩:=YV vs a (by simpa using hl) n k hk
    have:i=k+1:=by omega
    subst this
    exact ⟨by simpa using p1,p2⟩
section
variable (vars:List Vr) (a:List Int)
structure OkS (s:NS):Prop where
 len:s.1.length=vars.length
 wf : ∀ r∈s.1,wfR r
 inn : ∀ (i:Nat) (h1:i < a.length) (h2:i < s.1.length),s.1[i].lo≤a[i]∧a[i]≤s.1[i].hi
def Ok1 (r:Option NS):Prop := ∃ s,r=some s∧OkS vars a s
structure KV (e:Ex):Prop where
 n : ∀ x∈pre e,I4 x=0
 k : ∀ x∈pre e,knE (JP vars a) x=true
variable {vars a}
theorem KV.arg {e x:Ex} (h:KV vars a e) (hx:x∈e.args):KV vars a x :=
 ⟨fun y hy=>h.n y (by rw [pre_eq]; exact qN _ (LG hx y hy)),fun y hy=>h.k y (by rw [pre_eq]; exact qN _ (LG hx y hy))⟩
theorem bind_ok {r:Option NS} {f:NS→Option NS} (h:Ok1 vars a r) (hf : ∀ s,OkS vars a s→Ok1 vars a (f s)):Ok1 vars a (r.bind f):=by
 obtain ⟨s,rfl,hs⟩:=h
 exact hf s hs
theorem PL {s:NS} {i:Nat} {lo hi:Int} (ok:OkS vars a s) (hi':i < vars.length) (hai:i < a.length) (h1:lo≤a[i]) (h2:a[i]≤hi):Ok1 vars a (OI s i lo hi):=by
 have hil:i < s.1.length:=by rw [ok.len]; exact hi'
 have hgd:s.1.getD i IP=s.1[i]:=by rw [zD,jU hil]; rfl
 obtain ⟨q1,q2⟩:=ok.inn i hai hil
 have e1:(nxR s.1[i] lo hi).lo=max s.1[i].lo lo:=rfl
 have e2:(nxR s.1[i] lo hi).hi=min s.1[i].hi hi:=rfl
 have e:OI s i lo hi=some (s.1.set i (nxR s.1[i] lo hi),s.2 || !((nxR s.1[i] lo hi) == s.1[i])):=by
  unfold OI
  rw [hgd,if_neg (by omega)]
 refine ⟨_,e,⟨by show (s.1.set i _).length=_; rw [qM]; exact ok.len,(NV hil e).wf ok.wf,fun j j1 j2 => ?_⟩⟩
 show ((s.1.set i (nxR s.1[i] lo hi))[j]'j2).lo≤a[j]∧_
 rw [List.getElem_set]
 have j2':j < s.1.length:=by rw [ok.len]; have:=ok.len; have:j < (s.1.set i (nxR s.1[i] lo hi)).length:=j2; rw [qM] at this; omega
 by_cases q:i=j
 ·subst q
  rw [if_pos rfl]
  exact ⟨by omega,by omega⟩
 ·rw [if_neg q]; exact ok.inn j j1 j2'
theorem V7 {s:NS} {e:Ex} {f:NS→Nat→Option NS} (hal:a.length=vars.length) (har : ∀ z∈a,0≤z∧z≤65535) (ok:OkS vars a s) (hf : ∀ (i:Nat) (hv:i < vars.length) (h:i < a.length),((KE (JP vars a) e:Nat):Int)=a[i]→Ok1 vars a (f s i)):Ok1 vars a (atV vars e f s):=by
 unfold atV
 by_cases h:0≤vix vars e
 ·rw [if_pos h]
  have hlt:=SX vars e
  obtain ⟨i,hi⟩:=zI h
  rw [hi,zG]
  have h2:e.op=2:=by
   rcases Classical.em (e.op=2) with q | q
   ·exact q
   ·unfold vix at h; rw [if_neg q] at h; omega
  have hp:plc vars e.name=(i:Nat):=by
   unfold vix at hi; rw [if_pos h2] at hi; exact hi
  obtain ⟨p1,p2⟩:=YV vars a hal e.name i hp
  refine hf i (by omega) p1 ?_
  rw [U1]
  unfold AAA
  rw [if_neg (by omega),if_pos h2,p2,AAO]
  have:=har _ (jQ p1)
  omega
 ·rw [if_neg h]; exact ⟨s,rfl,ok⟩
theorem val_ok {s:NS} (hal:a.length=vars.length) (har : ∀ z∈a,0≤z∧z≤65535) (ok:OkS vars a s) {e:Ex} (h:KV vars a e):inR (KE (JP vars a) e) (evS vars s.1 e):=by
 refine AOJ vars s.1 _ (fun n hn => ?_) ok.wf e h.n h.k
 obtain ⟨p0,p1,p2⟩:=YW vars a hal har n hn
 have p1':(plc vars n).toNat < s.1.length:=by rw [ok.len]; omega
 have e:s.1.getD (plc vars n).toNat IP=s.1[(plc vars n).toNat]:=by rw [zD,jU p1']; rfl
 have:=ok.inn _ p1 p1'
 refine ⟨p0,?_⟩
 rw [e]
 exact ⟨by rw [p2]; exact this.1,by rw [p2]; exact this.2⟩
theorem AQA {s:NS} {i:Nat} {r:Rng} {y:Nat} (har : ∀ z∈a,0≤z∧z≤65535) (ok:OkS vars a s) (hi':i < vars.length) (hai:i < a.length) (hy:inR y r) (hne:a[i]≠(y:Int)):Ok1 vars a (fne s i r):=by
 unfold fne
 by_cases hs:sgl r=true
 ·rw [if_pos hs]
  have hs':r.lo=r.hi:=by unfold sgl at hs; simpa using hs
  obtain ⟨y1,y2⟩:=hy
  have:=har _ (jQ hai)
  have gd : ∀ {t:NS},OkS vars a t→(t.1.getD i IP).lo≤a[i]∧a[i]≤(t.1.getD i IP).hi:=fun {t} ok=>by
   have hil:i < t.1.length:=by rw [ok.len]; exact hi'
   rw [zD,jU hil]
   exact ok.inn i hai hil
  refine bind_ok ?_ (fun t ok' => ?_)
  ·by_cases q:(s.1.getD i IP).lo=r.lo
   ·rw [if_pos q]
    have:=gd ok
    exact PL ok hi' hai (by omega) (by omega)
   ·rw [if_neg q]; exact ⟨s,rfl,ok⟩
  ·by_cases q:(t.1.getD i IP).hi=r.lo
   ·rw [if_pos q]
    have:=gd ok'
    exact PL ok' hi' hai (by omega) (by omega)
   ·rw [if_neg q]; exact ⟨t,rfl,ok'⟩
 ·rw [if_neg hs]; exact ⟨s,rfl,ok⟩
theorem ADU : ∀ (rs:List Rng) (p:Int × Int),(RG rs p).1≤p.1∧p.2≤(RG rs p).2
 | [],p=>⟨zJ _,zJ _⟩
 | [_],p=>⟨zJ _,zJ _⟩
 | c :: b :: r,p=>by
   have h:=ADU r (if c.lo≤b.hi then (min p.1 c.lo,max p.2 b.hi) else p)
   have e:RG (c :: b :: r) p=RG r (if c.lo≤b.hi then (min p.1 c.lo,max p.2 b.hi) else p):=rfl
   rw [e]
   by_cases q:c.lo≤b.hi
   ·rw [if_pos q] at h ⊢
    have h1:(RG r (min p.1 c.lo,max p.2 b.hi)).1≤min p.1 c.lo:=h.1
    have h2:max p.2 b.hi≤(RG r (min p.1 c.lo,max p.2 b.hi)).2:=h.2
    exact ⟨by omega,by omega⟩
   ·rw [if_neg q] at h ⊢; exact h
theorem AHC {α:Type} (f:α→Nat) (g:α→Rng) (x:Nat) : ∀ (xs:List α),(∀ y∈xs,inR (f y) (g y))→AAI x (xs.map f)=true→∀ p:Int × Int,(RG (xs.map g) p).1≤(x:Int)∧(x:Int)≤(RG (xs.map g) p).2
 | [],_,hx,_=>by cases hx
 | [_],_,hx,_=>by cases hx
 | c :: b :: r,hy,hx,p=>by
   have hc:=hy c (by simp)
   have hb:=hy b (by simp)
   have hx:((decide (f c≤x) && decide (x≤f b)) || AAI x (r.map f))=true:=hx
   have e:RG ((c :: b :: r).map g) p=RG (r.map g) (if (g c).lo≤(g b).hi then (min p.1 (g c).lo,max p.2 (g b).hi) else p):=rfl
   rw [e]
   rcases Bool.or_eq_true_iff.1 hx with q | q
   ·have q:f c≤x∧x≤f b:=by simpa using q
    obtain ⟨c1,c2⟩:=hc
    obtain ⟨b1,b2⟩:=hb
    rw [if_pos (by omega)]
    have h:=ADU (r.map g) (min p.1 (g c).lo,max p.2 (g b).hi)
    have h1:(RG (r.map g) (min p.1 (g c).lo,max p.2 (g b).hi)).1≤min p.1 (g c).lo:=h.1
    have h2:max p.2 (g b).hi≤(RG (r.map g) (min p.1 (g c).lo,max p.2 (g b).hi)).2:=h.2
    exact ⟨by omega,by omega⟩
   ·exact AHC f g x r (fun y hm=>hy y (by simp [hm])) q _
theorem AGG : ∀ (ws:List Wg) (p:Int × Int),(ws.foldl RD p).1≤p.1∧p.2≤(ws.foldl RD p).2
 | [],p=>⟨zJ _,zJ _⟩
 | w :: ws,p=>by
   have h:=AGG ws (RD p w)
   have e:(w :: ws).foldl RD p=ws.foldl RD (RD p w):=rfl
   rw [e]
   have hw:(RD p w).1≤p.1∧p.2≤(RD p w).2:=by
    unfold RD
    split
    ·exact ⟨by show min p.1 w.lo≤p.1; omega,by show p.2≤max p.2 w.hi; omega⟩
    ·exact ⟨zJ _,zJ _⟩
   exact ⟨by omega,by omega⟩
theorem AGH (v:Int) : ∀ (ws:List Wg) (p:Int × Int),(∃ w∈ws,w.w > 0∧w.lo≤v∧v≤w.hi)→(ws.foldl RD p).1≤v∧v≤(ws.foldl RD p).2
 | [],_,h=>by obtain ⟨w,hw,_⟩:=h; cases hw
 | w :: ws,p,h=>by
   have e:(w :: ws).foldl RD p=ws.foldl RD (RD p w):=rfl
   rw [e]
   obtain ⟨x,hx,h1,h2,h3⟩:=h
   rcases List.mem_cons.1 hx with rfl | hx
   ·have h:=AGG ws (RD p x)
    have hw:(RD p x).1≤x.lo∧x.hi≤(RD p x).2:=by
     unfold RD
     rw [if_pos h1]
     exact ⟨by show min p.1 x.lo≤x.lo; omega,by show x.hi≤max p.2 x.hi; omega⟩
    exact ⟨by omega,by omega⟩
   ·exact AGH v ws _ ⟨x,hx,h1,h2,h3⟩
theorem VI {sg:List Sg} {xs:List Ex} {k:Nat} (h:k < xs.length):(NE sg xs).getD k 0=KE sg xs[k]:=by
 rw [MF,zD,List.getElem?_map,jU h]; rfl
theorem AA4 {b:Bool} (h:tr b≠0):b=true:=by cases b; exact absurd rfl h; rfl
theorem APF (hal:a.length=vars.length) (har : ∀ z∈a,0≤z∧z≤65535) (e:Ex):KV vars a e→KE (JP vars a) e≠0→∀ s:NS,OkS vars a s→Ok1 vars a (RS vars e s):=by
 induction e using Ex.induct with | h e ih => ?_
 intro hk hv s ok
 have hnode:=hk.n e (by rw [pre_eq]; simp)
 obtain ⟨a1,a25,ar1,ar3,arI,ar2⟩:=AAV hnode
 rw [AE4]
 have gd : ∀ (k:Nat) (h:k < e.args.length),e.args.getD k ex0=e.args[k]:=fun k hk=>by rw [zD,jU hk]; rfl
 have hvl:=U0 (JP vars a) e.args
 rw [U1] at hv
 unfold AAA at hv
 unfold APG
 by_cases h2:e.op=2∧0≤plc vars e.name
 ·rw [if_pos h2]
  rw [if_neg (by omega),if_pos h2.1] at hv
  have hr:=QD (JH e.name) vars
  obtain ⟨i,hi⟩:=zI h2.2
  have hpe:plc vars e.name=KC (JH e.name) vars:=rfl
  rw [hi,zG]
  obtain ⟨p1,p2⟩:=YV vars a hal e.name i hi
  have:=har _ (jQ p1)
  rw [p2] at hv
  have hc:=AAO a[i]
  exact PL ok (by omega) p1 (by omega) (by omega)
 rw [if_neg h2]
 by_cases h4:e.op=4
 ·rw [if_pos h4]
  have hl:=ar1 (.inl h4)
  rw [if_neg (by omega),if_neg (by omega),if_neg (by omega),if_neg (by omega)] at hv
  unfold opW at hv
  rw [if_neg (by omega),if_neg (by omega),if_pos (by omega)] at hv
  unfold sgW at hv
  rw [if_pos h4,VI (by omega)] at hv
  have hz:KE (JP vars a) e.args[0]=0:=by simpa using AA4 hv
  rw [gd 0 (by omega)]
  refine V7 hal har ok fun i hiv hia he => ?_
  rw [hz] at he
  exact PL ok hiv hia (by omega) (by omega)
 rw [if_neg h4]
 by_cases h19:e.op=19
 ·rw [if_pos h19]
  have hl:=ar2 (by omega) (by omega)
  rw [if_neg (by omega),if_neg (by omega),if_neg (by omega),if_neg (by omega)] at hv
  unfold opW at hv
  rw [if_neg (by omega),if_neg (by omega),if_neg (by omega)] at hv
  unfold dbW at hv
  rw [if_neg (by omega),if_neg (by omega),if_neg (by omega),if_neg (by omega),if_neg (by omega),if_neg (by omega),if_neg (by omega),if_neg (by omega),if_neg (by omega),if_neg (by omega),if_neg (by omega),if_neg (by omega),if_pos h19,VI (by omega),VI (by omega)] at hv
  have hb:KE (JP vars a) e.args[0]≠0∧KE (JP vars a) e.args[1]≠0:=by simpa using AA4 hv
  have hall : ∀ x∈e.args,KE (JP vars a) x≠0:=by
   intro x hx
   obtain ⟨k,hk,rfl⟩:=List.getElem_of_mem hx
   match k,hk with
   | 0,_=>exact hb.1
   | 1,_=>exact hb.2
   | k+2,hk=>omega
  have key : ∀ (xs:List Ex),(∀ x∈xs,x∈e.args)→∀ s:NS,OkS vars a s→Ok1 vars a (TD vars xs s):=by
   intro xs
   induction xs with
   | nil=>intro _ s ok; exact ⟨s,rfl,ok⟩
   | cons x xs ihx =>
     intro hm s ok
     show Ok1 vars a ((RS vars x s).bind (TD vars xs))
     exact bind_ok (ih x (hm x (by simp)) (hk.arg (hm x (by simp))) (hall x (hm x (by simp))) s ok) (fun t ok'=>ihx (fun y hy=>hm y (by simp [hy])) t ok')
  exact key e.args (fun x h=>h) s ok
 rw [if_neg h19]
 by_cases hop:e.op=15∨e.op=16∨e.op=17∨e.op=18
 ·have hl:=ar2 (by omega) (by omega)
  have k0:=hk.arg (jQ (show 0 < e.args.length by omega))
  have k1:=hk.arg (jQ (show 1 < e.args.length by omega))
  have hvd:dbW e.op (KE (JP vars a) e.args[0]) (KE (JP vars a) e.args[1])≠0:=by
   rw [if_neg (by omega),if_neg (by omega),if_neg (by omega),if_neg (by omega)] at hv
   unfold opW at hv
   rw [if_neg (by omega),if_neg (by omega),if_neg (by omega),VI (by omega),VI (by omega)] at hv
   exact hv
  unfold dbW at hvd
  rw [if_neg (by omega),if_neg (by omega),if_neg (by omega),if_neg (by omega),if_neg (by omega),if_neg (by omega),if_neg (by omega),if_neg (by omega)] at hvd
  rw [gd 0 (by omega),gd 1 (by omega)]
  have in0 : ∀ {t:NS},OkS vars a t→inR (KE (JP vars a) e.args[0]) (evS vars t.1 e.args[0]):=fun ok=>val_ok hal har ok k0
  have in1 : ∀ {t:NS},OkS vars a t→inR (KE (JP vars a) e.args[1]) (evS vars t.1 e.args[1]):=fun ok=>val_ok hal har ok k1
  have lt : ∀ {i:Nat} (h:i < a.length),0≤a[i]∧a[i]≤65535:=fun h=>har _ (jQ h)
  by_cases h15:e.op=15
  ·rw [if_pos h15] at hvd ⊢
   have hxy:KE (JP vars a) e.args[0]=KE (JP vars a) e.args[1]:=by simpa using AA4 hvd
   unfold YA
   refine bind_ok (V7 hal har ok fun i hiv hia he => ?_) (fun t ok'=>V7 hal har ok' fun i hiv hia he => ?_)
   ·have:=in1 ok
    rw [← hxy] at this
    obtain ⟨q1,q2⟩:=this
    exact PL ok hiv hia (by omega) (by omega)
   ·have:=in0 ok'
    rw [hxy] at this
    obtain ⟨q1,q2⟩:=this
    exact PL ok' hiv hia (by omega) (by omega)
  rw [if_neg h15] at hvd ⊢
  by_cases h16:e.op=16
  ·rw [if_pos h16] at hvd ⊢
   have hxy:KE (JP vars a) e.args[0]≠KE (JP vars a) e.args[1]:=by simpa using AA4 hvd
   unfold YA
   refine bind_ok (V7 hal har ok fun i hiv hia he => ?_) (fun t ok'=>V7 hal har ok' fun i hiv hia he => ?_)
   ·exact AQA har ok hiv hia (in1 ok) (by omega)
   ·exact AQA har ok' hiv hia (in0 ok') (by omega)
  rw [if_neg h16] at hvd ⊢
  by_cases h17:e.op=17
  ·rw [if_pos h17] at hvd ⊢
   have hxy:KE (JP vars a) e.args[0] < KE (JP vars a) e.args[1]:=of_decide_eq_true (AA4 hvd)
   unfold AE1
   refine bind_ok (V7 hal har ok fun i hiv hia he => ?_) (fun t ok'=>V7 hal har ok' fun i hiv hia he => ?_)
   ·obtain ⟨q1,q2⟩:=in1 ok
    have:=lt hia
    exact PL ok hiv hia (by omega) (by omega)
   ·obtain ⟨q1,q2⟩:=in0 ok'
    have:=lt hia
    exact PL ok' hiv hia (by omega) (by omega)
  rw [if_neg h17] at hvd ⊢
  have h18:e.op=18:=by omega
  rw [if_pos h18] at hvd ⊢
  have hxy:KE (JP vars a) e.args[0]≤KE (JP vars a) e.args[1]:=of_decide_eq_true (AA4 hvd)
  unfold AE1
  refine bind_ok (V7 hal har ok fun i hiv hia he => ?_) (fun t ok'=>V7 hal har ok' fun i hiv hia he => ?_)
  ·obtain ⟨q1,q2⟩:=in1 ok
   have:=lt hia
   exact PL ok hiv hia (by omega) (by omega)
  ·obtain ⟨q1,q2⟩:=in0 ok'
   have:=lt hia
   exact PL ok' hiv hia (by omega) (by omega)
 rw [if_neg (by omega),if_neg (by omega),if_neg (by omega),if_neg (by omega)]
 by_cases h23:e.op=23
 ·rw [if_pos h23]
  have hl:=arI h23
  rw [if_neg (by omega),if_neg (by omega),if_neg (by omega),if_neg (by omega)] at hv
  unfold opW at hv
  rw [if_neg (by omega),if_pos h23,VI (by omega)] at hv
  have hins:=AA4 hv
  rw [gd 0 (by omega)]
  refine V7 hal har ok fun i hiv hia he => ?_
  unfold APJ
  rw [MF,← List.map_drop] at hins
  rw [MN]
  have:=AHC (KE (JP vars a)) (evS vars s.1) _ (e.args.drop 1) (fun y hy=>val_ok hal har ok (hk.arg (List.mem_of_mem_drop hy))) hins (65536,-1)
  rw [he] at this
  exact PL ok hiv hia this.1 this.2
 ·rw [if_neg h23]; exact ⟨s,rfl,ok⟩
structure KPr (p:Pr) (a:List Int):Prop where
 hard : ∀ e∈p.hard,KV p.vars a e∧KE (JP p.vars a) e≠0
 dist : ∀ d∈p.dists,∃ i,d.var=(i:Nat)∧i < p.vars.length∧∃ h:i < a.length,∃ w∈d.ws,w.w > 0∧w.lo≤a[i]∧a[i]≤w.hi
theorem AH2 : ∀ (ds:List Ds),(∀ d∈ds,∃ i,d.var=(i:Nat)∧i < vars.length∧∃ h:i < a.length,∃ w∈d.ws,w.w > 0∧w.lo≤a[i]∧a[i]≤w.hi)→∀ s:NS,OkS vars a s→Ok1 vars a (AJ2 ds s)
 | [],_,s,ok=>⟨s,rfl,ok⟩
 | d :: ds,hd,s,ok=>by
   show Ok1 vars a ((AEQ s d).bind (AJ2 ds))
   obtain ⟨i,h1,h2,h3,h4⟩:=hd d (by simp)
   have hw:=AGH a[i] d.ws (65536,-1) h4
   refine bind_ok ?_ (fun t ok'=>AH2 ds (fun x hx=>hd x (by simp [hx])) t ok')
   unfold AEQ
   rw [h1,zG]
   exact PL ok h2 h3 hw.1 hw.2
theorem ADT (hal:a.length=vars.length) (har : ∀ z∈a,0≤z∧z≤65535) : ∀ (xs:List Ex),(∀ e∈xs,KV vars a e∧KE (JP vars a) e≠0)→∀ s:NS,OkS vars a s→Ok1 vars a (TD vars xs s)
 | [],_,s,ok=>⟨s,rfl,ok⟩
 | x :: xs,hx,s,ok=>by
   show Ok1 vars a ((RS vars x s).bind (TD vars xs))
   exact bind_ok (APF hal har x (hx x (by simp)).1 (hx x (by simp)).2 s ok) (fun t ok'=>ADT hal har xs (fun y hy=>hx y (by simp [hy])) t ok')
theorem AO0 (hal:a.length=vars.length) (har : ∀ z∈a,0≤z∧z≤65535) (hard:List Ex) (hx : ∀ e∈hard,KV vars a e∧KE (JP vars a) e≠0) (s:NS) (ok:OkS vars a s):Ok1 vars a (AAE vars hard s):=by
 unfold AAE
 refine bind_ok (ADT hal har hard hx (s.1,false) ⟨ok.len,ok.wf,ok.inn⟩) (fun t ok' => ?_)
 have hc:AIA vars hard t.1=false:=by
  unfold AIA
  rw [List.any_eq_false]
  intro e he
  obtain ⟨k,hv⟩:=hx e he
  obtain ⟨q1,q2⟩:=val_ok hal har ok' k
  unfold isF
  intro q
  have q:(evS vars t.1 e).hi=0:=by simpa using q
  omega
 rw [hc,if_neg (by decide)]
 exact ⟨t,rfl,ok'⟩
theorem AHE (hal:a.length=vars.length) (har : ∀ z∈a,0≤z∧z≤65535) (hard:List Ex) (hx : ∀ e∈hard,KV vars a e∧KE (JP vars a) e≠0) : ∀ (n:Nat) (s:NS),OkS vars a s→(s.2=true→wid s.1 < n)→Ok1 vars a (XP vars hard n s)
 | 0,s,ok,hn=>by
   have e:XP vars hard 0 s=if s.2=true then none else some s:=rfl
   cases hs:s.2 with
   | true=>have:=hn hs; omega
   | false=>rw [e,hs]; exact ⟨s,rfl,ok⟩
 | n+1,s,ok,hn=>by
   have e:XP vars hard (n+1) s=if s.2=true then (AAE vars hard s).bind (XP vars hard n) else some s:=rfl
   cases hs:s.2 with
   | false=>rw [e,hs]; exact ⟨s,rfl,ok⟩
   | true =>
     rw [e,hs,if_pos rfl]
     have hn:=hn hs
     obtain ⟨t,ht,ok'⟩:=AO0 hal har hard hx s ok
     rw [ht]
     refine AHE hal har hard hx n t ok' fun hc => ?_
     have st:=ASI ok.len ht
     rcases st.chg ok.wf hc with q | q
     ·cases q
     ·have q:wid t.1 < wid s.1:=q
      omega
theorem AOY {p:Pr} {a:List Int} {l:List Rng} (hal:a.length=p.vars.length) (har : ∀ z∈a,0≤z∧z≤65535) (hk:KPr p a) (ok:OkS p.vars a (l,false)) : ∃ s,VM p l=some s∧OkS p.vars a s:=by
 unfold VM
 exact bind_ok (AH2 p.dists hk.dist (l,false) ok) (fun t ok'=>AHE hal har p.hard hk.hard _ (t.1,true) ⟨ok'.len,ok'.wf,ok'.inn⟩ fun _=>Nat.lt_succ_self _)
end
end Go.Proofs.YtokehnfjjmpanaaGreatDoor.Bd
set_option linter.unusedSimpArgs false
set_option maxRecDepth 8000
namespace Go.Proofs.YtokehnfjjmpanaaGreatDoor.Bd
open Sm Bins Cov Xe Wd Go.RowKit
open Bool renaming not_false→jC
open List renaming map_cons→jF,map_nil→jD,append_nil→jE,getElem?_cons_zero→jZ,getElem?_cons_succ→zC,length_map→jM,getElem_mem→jQ,take_succ_eq_append_getElem→zT,mem_append→zZ,take_of_length_le→jX
open Nat renaming le_of_ble_eq_true→jH,reduceEqDiff→jB,add_zero→jI,zero_add→jG
open Option renaming getD_some→jA,getD_none→jJ
def VO:List Wg→Int→Bool
 | [],_=>false
 | w :: r,v=>if (decide (w.lo≤v) && decide (v≤w.hi))=true then decide (w.w > 0) else VO r v
theorem AMP (ws:List Wg) (v:Int) (k:Nat) (hk:k < ws.length):VO (ws.drop k) v=if (decide (ws[k].lo≤v) && decide (v≤ws[k].hi))=true then decide (ws[k].w > 0) else VO (ws.drop (k+1)) v:=by
 rw [List.drop_eq_getElem_cons hk]; rfl
theorem AK8 : ∀ (ws:List Wg) (v:Int),VO ws v=true→∃ w∈ws,w.w > 0∧w.lo≤v∧v≤w.hi
 | [],_,h=>by cases h
 | w :: r,v,h=>by
   unfold VO at h
   split at h
   ·rename_i q
    have q:w.lo≤v∧v≤w.hi:=by simpa using q
    exact ⟨w,by simp,by simpa using h,q.1,q.2⟩
   ·obtain ⟨x,hx,h⟩:=AK8 r v h
    exact ⟨x,by simp [hx],h⟩
section
variable (G:Nat→AV)
theorem ANX (l:List Sg) (m:SM) (e:Ex) (h:Hp) (hl:l.length≤1099511627776) (hok : ∀ s∈l,AIT s) (hw:wt e≤1048576):PCall (En G) 20 [.agg (CW e),.sl m 2 (l.map N7)] h (.int .i64 ((evE l e).1:Nat)):=by
 refine ACalls.pure0 rfl ?_
 refine acN Tryz.func20 rfl ?_
 show awp _ _ _ _ _ (EE _ [.tmp 4] _)
 simp -implicitDefEqProofs only [BC,A8,A7,AZ,BA,AC,AQ,AO,BD,AX,AL,AA,AY,AU,BO,BG,BH,BB,FN,BP,BV,BN,BZ,AB,BF,BQ,jF,jD,jE,↓reduceIte,jB,jA,jC,enP,bxE,ldE]
 refine (AEM G l m e _ hl hok (AIS hw)).use ?_
 unfold evV
 simp -implicitDefEqProofs only [jZ,zC,BC,A8,BK,A7,CU,AZ,BA,AC,AQ,AO,BD,AX,AL,AA,AY,BH,BB,GH,IW,AB,↓reduceIte,jB,jA,jC]
 exact ⟨by trivial,_,rfl⟩
set_option maxHeartbeats 1000000 in
theorem AEZ (ws:List Wg) (m:SM) (v:Int) (hl:ws.length≤1048576) (h:Hp):PCall (En G) 21 [.sl m 4 (ws.map IG),.int .i64 v] h (.bool (VO ws v)):=by
 refine ACalls.pure0 rfl ?_
 refine acN Tryz.func21 rfl ?_
 show awp _ _ _ _ _ (EE _ [.tmp 4] _)
 simp -implicitDefEqProofs only [BC,CB,A8,A7,AZ,BA,AC,AQ,AO,BD,AX,AL,AA,AY,AU,BG,BM,BH,BB,E5,AB,BF,↓reduceIte,jB,jA,jC,enP,AM2,jM]
 refine IY 0 (fun F H=>VO ws v=false∧Sm.ext h H) (fun F H=>F 4 = .bool (VO ws v)∧Sm.ext h H) ?_ ?_ ?_
 ·refine D7 (fun n F H => ∃ k,n+k=ws.length∧VO ws v=VO (ws.drop k) v∧F 1 = .int .i64 v∧F 7 = .sl m 4 (ws.map IG)∧F 8 = .int .i64 (ws.length:Nat)∧F 9 = .int .i64 (k:Nat)∧Sm.ext h H) ws.length
   ⟨0,by simp,rfl,by simp -implicitDefEqProofs only [AA,BF,BQ,↓reduceIte,jB],by simp -implicitDefEqProofs only [AA,↓reduceIte,jB],by simp -implicitDefEqProofs only [AA,↓reduceIte,jB],by simp -implicitDefEqProofs only [AA,↓reduceIte]; rfl,ext.rfl' _⟩ ?_
  rintro n F H ⟨k,hk,hp,f1,f7,f8,f9,hx⟩
  simp -implicitDefEqProofs only [BC,A8,BJ,A7,AZ,BA,AC,AQ,AO,BD,AX,AL,AA,AY,BU,AB,DF,↓reduceIte,jA,jC,enP,f8,f9]
  refine CV (fun hc => ?_) (fun hc => ?_)
  ·have hk':k < ws.length:=by simpa using hc
   rw [AMP ws v k hk'] at hp
   have g6:=C9 H (ABlk.live 4 [IG ws[k]])
   have hx1:=hx.app [ABlk.live 4 [IG ws[k]]]
   simp -implicitDefEqProofs only [BC,CB,A8,BR,A7,AZ,BA,AC,AQ,AO,BD,AX,AL,DZ,AA,AY,EZ,BP,CZ,BI,CQ,BZ,AB,CE,↓reduceIte,jB,jI,jA,jC,enP,ATC,PO,jJ,f7,f9,EF hk',EO AUE AMH SA hk',AXG,AVQ]
   generalize H ++ [ABlk.live 4 [IG ws[k]]]=H1 at g6 hx1 ⊢
   generalize H.length=b6 at g6 ⊢
   have e0:DL Tryz.prog H1 3 (.ptr b6 0 0)=some (.int .i64 ws[k].lo):=by rw [DC ag3 g6 (row:=IG ws[k]) rfl]; rfl
   have e1:DL Tryz.prog H1 3 (.ptr b6 0 1)=some (.int .i64 ws[k].hi):=by rw [DC ag3 g6 (row:=IG ws[k]) rfl]; rfl
   have e2:DL Tryz.prog H1 3 (.ptr b6 0 2)=some (.int .i64 ws[k].w):=by rw [DC ag3 g6 (row:=IG ws[k]) rfl]; rfl
   simp -implicitDefEqProofs only [AZ,BL,BX,CG,AC,AQ,AO,BD,AX,AL,AA,AY,BH,BU,AB,I7,↓reduceIte,jB,jA,jC,enP,e0,f1]
   have yes : ∀ q:(decide (ws[k].lo≤v) && decide (v≤ws[k].hi))=true,VO ws v=decide (ws[k].w > 0):=fun q=>by rw [hp,if_pos q]
   have no : ∀ q : ¬ (decide (ws[k].lo≤v) && decide (v≤ws[k].hi))=true,VO ws v=VO (ws.drop (k+1)) v:=fun q=>by rw [hp,if_neg q]
   refine IV (fun h1 => ?_) (fun h1 => ?_)
   ·simp -implicitDefEqProofs only [BJ,A7,AZ,BA,BL,BX,CG,F8,AC,AQ,AO,BD,AX,AL,AA,AY,AU,BM,BH,CO,DK,BP,BU,BI,AB,I7,↓reduceIte,jB,jG,jA,jC,enP,RJ,h1,e1,f1]
    refine CV (fun h2 => ?_) (fun h2 => ?_)
    ·simp -implicitDefEqProofs only [BC,A8,BK,A7,CJ,D5,LW,FV,AZ,BA,AC,AQ,AO,BD,AX,AL,AA,AY,AU,BG,BB,BP,BU,BI,AB,EY,↓reduceIte,jB,jG,jA,jC,enP,YX,e2]
     exact ⟨by rw [yes (by rw [h1,h2]; rfl)],hx1⟩
    ·simp -implicitDefEqProofs only [A8,BR,A7,EK,FI,AZ,BA,AC,AQ,AO,BD,AX,AL,AA,AY,AU,BG,BH,BU,AB,DY,↓reduceIte,jB,jA,jC,enP,f9,wrap_succ (show k < 9223372036854775807 by omega)]
     exact ⟨n - 1,by omega,k+1,by omega,no (by rw [h1,h2]; decide),by trivial,by trivial,by trivial,by trivial,hx1⟩
   ·simp -implicitDefEqProofs only [A8,BR,BJ,A7,EK,FI,DX,AZ,BA,BL,BX,CG,JA,AC,AQ,AO,BD,AX,AL,AA,EG,AY,AU,BG,BM,BH,CO,DU,BU,AB,DY,↓reduceIte,jB,jA,jC,enP,h1,f9,wrap_succ (show k < 9223372036854775807 by omega)]
    exact ⟨n - 1,by omega,k+1,by omega,no (by rw [h1]; simp),by trivial,by trivial,by trivial,by trivial,hx1⟩
  ·have hk' : ¬ k < ws.length:=by simpa using hc
   rw [List.drop_eq_nil_of_le (by omega)] at hp
   simp -implicitDefEqProofs only [D6,EU,MX,FX,↓reduceIte]
   exact ⟨hp,hx⟩
 ·rintro F H ⟨hp,hx⟩
  simp -implicitDefEqProofs only [BC,A8,BK,A7,FT,CU,AZ,BA,AC,AQ,AO,BD,AX,AL,AA,AU,BM,BB,↓reduceIte,jA,jC]
  exact ⟨by rw [hp],hx⟩
 ·rintro F H ⟨f4,hx⟩
  simp -implicitDefEqProofs only [CJ,D5,CU,f4]
  exact ⟨trivial,hx⟩
set_option maxHeartbeats 4000000 in
theorem AXM (hG:GOk G) (c:Cs) (hs:CsS c) (h:Hp):PCall (En G) 5 [.agg (JQ c)] h (.bool true):=by
 refine ACalls.pure0 rfl ?_
 refine acN Tryz.func5 rfl ?_
 show awp _ _ _ _ _ (EE _ [.tmp 2] _)
 have g1:=C9 h (ABlk.live 11 [JQ c])
 have hx:ext h (h ++ [ABlk.live 11 [JQ c]]):=(ext.rfl' h).app _
 simp -implicitDefEqProofs only [BC,A8,A7,AZ,BA,AC,AQ,AO,BD,AX,AL,AA,AY,AU,BM,BB,FN,BP,BI,BZ,AB,BF,↓reduceIte,jB,jI,jA,jC,enP,NY,AZH]
 generalize h ++ [ABlk.live 11 [JQ c]]=H at g1 hx ⊢
 generalize h.length=b1 at g1 ⊢
 simp -implicitDefEqProofs only [AZ,AC,AQ,AO,BD,AX,AL,AA,AY,BO,BV,BN,AB,jF,jD,jE,↓reduceIte,jA,jC,Q3 g1]
 refine (ADL G c.p hs.p H).use ?_
 simp -implicitDefEqProofs only [AZ,BL,BX,CG,AC,AQ,AO,BD,AX,AL,AA,AY,AU,BG,BH,BU,AB,FD,↓reduceIte,jA,jC,enP]
 refine IV (fun h1 => ?_) (fun h1 => ?_)
 ·simp -implicitDefEqProofs only [BC,A8,BJ,A7,DR,AZ,BA,BL,BX,CG,FY,AC,AQ,AO,BD,AX,AL,AA,EG,AY,AU,BO,BM,CO,DK,BV,BN,jD,jE,↓reduceIte,jB,jA,jC,h1]
  refine (JY G hG H).use ?_
  simp -implicitDefEqProofs only [BK,A7,CJ,CU,AZ,BA,AC,AQ,AO,BD,AX,AL,AA,AY,BB,↓reduceIte,jA,jC]
  exact ⟨by trivial,hx⟩
 have hv:NM c.p=0:=by simpa using h1
 simp -implicitDefEqProofs only [BL,BX,CG,EM,AC,AQ,AO,BD,AX,AL,AA,AY,BO,BP,BI,BV,BN,AB,jF,jD,jE,↓reduceIte,jB,jI,jG,jA,jC,enP,NY,QH,h1,Q3 g1,RU g1]
 refine (AHQ G c.p hs.p c.l c.lm hs.l H).use ?_
 simp -implicitDefEqProofs only [BJ,A7,AZ,BA,BL,BX,CG,EM,AC,AQ,AO,BD,AX,AL,AA,AY,AU,BM,CO,DU,I5,AB,FO,↓reduceIte,jB,jA,jC,h1]
 cases hf:TF c.p.vars c.l
 ·simp -implicitDefEqProofs only [BC,A8,DR,AZ,AC,AQ,AO,BD,AX,BO,BV,BN,jD,jE,jA,jC]
  refine (JY G hG H).use ?_
  simp -implicitDefEqProofs only [BK,A7,CJ,CU,AZ,BA,AC,AQ,AO,BD,AX,AL,AA,AY,BB,↓reduceIte,jA,jC]
  exact ⟨by trivial,hx⟩
 obtain ⟨hwl,hll⟩:=MH.1 hf
 have hg:=AU2 hs.p hv
 simp -implicitDefEqProofs only [BC,CB,A8,BR,A7,DX,AZ,BA,AC,AQ,AO,BD,AX,AL,AA,AY,AU,BG,BH,BP,BI,E5,AB,↓reduceIte,jB,jG,jA,Bool.not_true,jC,enP,ADA,QH,RU g1,jM]
 -- small ranges
 refine IY 0 (fun F K=>F 1 = .ptr b1 0 0∧ext H K) (fun F K=>F 2 = .bool true∧ext H K) ?_ ?_ ?_
 ·refine D7 (fun n F K => ∃ i,n+i=c.l.length∧F 1 = .ptr b1 0 0∧F 29 = .sl c.lm 2 (c.l.map encR)∧F 30 = .int .i64 (c.l.length:Nat)∧F 31 = .int .i64 (i:Nat)∧ext H K) c.l.length ⟨0,by simp,by simp -implicitDefEqProofs only [AA,↓reduceIte,jB],by simp -implicitDefEqProofs only [AA,↓reduceIte,jB],by simp -implicitDefEqProofs only [AA,↓reduceIte,jB],by simp -implicitDefEqProofs only [AA,↓reduceIte]; rfl,ext.rfl' _⟩ ?_
  rintro n F K ⟨i,hi,f1,f29,f30,f31,hxK⟩
  simp -implicitDefEqProofs only [BC,A8,BJ,A7,AZ,BA,AC,AQ,AO,BD,AX,AL,AA,AY,BU,AB,DF,↓reduceIte,jA,jC,enP,f30,f31]
  refine CV (fun hc => ?_) (fun hc => ?_)
  ·have hi':i < c.l.length:=by simpa using hc
   have g4:=C9 K (ABlk.live 2 [encR c.l[i]])
   have hx4:=hxK.app [ABlk.live 2 [encR c.l[i]]]
   simp -implicitDefEqProofs only [BC,CB,A8,BR,A7,AZ,BA,AC,AQ,AO,BD,AX,AL,DZ,AA,AY,EZ,BP,CZ,BI,CQ,BZ,AB,CE,↓reduceIte,jB,jG,jA,jC,enP,QS,GR,jJ,f29,f31,EF hi',EO AF2 TY O8 hi',OU,UA]
   generalize K ++ [ABlk.live 2 [encR c.l[i]]]=K1 at g4 hx4 ⊢
   generalize K.length=rb at g4 ⊢
   simp -implicitDefEqProofs only [BJ,A7,AZ,BA,AC,AQ,AO,BD,AX,AL,AA,AY,AU,BG,BU,AB,EY,↓reduceIte,jA,jC,enP,IA g4]
   refine CV (fun h1 => ?_) (fun h1 => ?_)
   ·simp -implicitDefEqProofs only [BC,A8,AZ,AC,AQ,AO,BD,AX,BO,BV,BN,jD,jE,jA,jC]
    refine (JY G hG K1).use ?_
    simp -implicitDefEqProofs only [BK,A7,CJ,D5,LW,FV,AZ,BA,AC,AQ,AO,BD,AX,AL,AA,AY,BB,↓reduceIte,jA,jC]
    exact ⟨trivial,hx4⟩
   ·simp -implicitDefEqProofs only [A8,BR,A7,EK,FI,AZ,BA,AC,AQ,AO,BD,AX,AL,AA,AY,AU,BG,BH,BU,AB,DY,↓reduceIte,jB,jA,jC,enP,f31,wrap_succ (show i < 9223372036854775807 by have:=hs.l; omega)]
    exact ⟨n - 1,by omega,i+1,by omega,by trivial,by trivial,by trivial,by trivial,hx4⟩
  ·simp -implicitDefEqProofs only [D6,EU,MX,FX,AA,↓reduceIte,jB]
   exact ⟨f1,hxK⟩
 ·rintro F K ⟨f1,hxK⟩
  have g1K:=FP hxK g1
  have hcl:=MI c.l c.at'
  have hvl:=hs.p.vars
  have hchu:=ACJ hwl c.at'
  have hcin : ∀ (i:Nat) (h1:i < (chL c.l c.at').length) (h2:i < c.l.length),c.l[i].lo≤(chL c.l c.at')[i]∧(chL c.l c.at')[i]≤c.l[i].hi:=fun i h1 h2=>by
   rw [AFR h1]; exact AKA (hwl _ (jQ h2)) _
  have hel:=X7 (vars:=c.p.vars) (a:=chL c.l c.at') (by omega)
  have heok:=AQJ hll hwl c.at'
  have hch:=ACH G c.l c.lm c.at' c.am hs.l hwl hs.u K
  have hen:=AL8 G c.p hs.p (chL c.l c.at') .any (by omega) K
  generalize chL c.l c.at'=a at hcl hchu hcin hel heok hch hen
  have hal:a.length=c.p.vars.length:=by omega
  generalize hsg:JP c.p.vars a=sg at hel heok hen
  simp -implicitDefEqProofs only [BC,A8,A7,FT,AZ,AC,AQ,AO,BD,AX,AL,AA,AY,BO,BP,BI,BV,BN,AB,jF,jD,jE,↓reduceIte,jB,jG,jA,jC,enP,QH,AQE,f1,RU g1K,ALJ g1K]
  refine hch.use ?_
  simp -implicitDefEqProofs only [BC,A8,A7,AZ,BA,AC,AQ,AO,BD,AX,AL,AA,AY,BO,BH,BB,BP,BI,BV,BN,AB,jF,jD,jE,↓reduceIte,jB,jI,jA,jC,enP,NY,f1,Q3 g1K]
  refine hen.use ?_
  have l23 : ∀ {J:Hp},Sm.ext H J→DL Tryz.prog J 23 (.ptr b1 0 1)=some (.sl c.p.hm 4 (c.p.hard.map CW)):=fun q=>by rw [DC QU (FP q g1) (row:=JQ c) rfl]; rfl
  have l24 : ∀ {J:Hp},Sm.ext H J→DL Tryz.prog J 24 (.ptr b1 0 3)=some (.sl c.p.dm 2 (c.p.dists.map IU)):=fun q=>by rw [DC ARQ (FP q g1) (row:=JQ c) rfl]; rfl
  simp -implicitDefEqProofs only [BC,CB,A8,A7,AZ,BA,AC,AQ,AO,BD,AX,AL,AA,AY,AU,BG,BH,BB,BP,BI,E5,AB,↓reduceIte,jB,jI,jG,jA,jC,enP,TT,AB6,NY,f1,l23 hxK,jM]
  have hhl:c.p.hard.length≤1048576:=by have:=hs.p.exprs; omega
  clear hch hen
  -- the constraints
  refine IY 2 (fun F J=>F 1 = .ptr b1 0 0∧F 5 = .sl .any 1 (a.map qencI)∧(∀ e∈c.p.hard,(evE sg e).1≠0)∧ext H J) (fun F J=>F 2 = .bool true∧ext H J) ?_ ?_ ?_
  ·refine D7 (fun n F J => ∃ i,n+i=c.p.hard.length∧F 1 = .ptr b1 0 0∧F 5 = .sl .any 1 (a.map qencI)∧F 6 = .sl (nm sg) 2 (sg.map N7)∧F 51 = .sl c.p.hm 4 (c.p.hard.map CW)∧F 52 = .int .i64 (c.p.hard.length:Nat)∧F 53 = .int .i64 (i:Nat)∧(∀ e∈c.p.hard.take i,(evE sg e).1≠0)∧ext H J) c.p.hard.length
    ⟨0,by simp,by simp -implicitDefEqProofs only [AA,↓reduceIte,jB,f1],by simp -implicitDefEqProofs only [AA,↓reduceIte,jB],by simp -implicitDefEqProofs only [AA,↓reduceIte,jB],by simp -implicitDefEqProofs only [AA,↓reduceIte,jB],by simp -implicitDefEqProofs only [AA,↓reduceIte,jB],by simp -implicitDefEqProofs only [AA,↓reduceIte]; rfl,by simp,hxK⟩ ?_
   clear f1
   rintro n F J ⟨i,hi,f1,f5,f6,f51,f52,f53,hq,hxJ⟩
   simp -implicitDefEqProofs only [BC,A8,BJ,A7,AZ,BA,AC,AQ,AO,BD,AX,AL,AA,AY,BU,AB,DF,↓reduceIte,jA,jC,enP,f52,f53]
   refine CV (fun hc => ?_) (fun hc => ?_)
   ·have hi':i < c.p.hard.length:=by simpa using hc
    have hmem:=jQ hi'
    have hx8:=hxJ.app [ABlk.live 4 [CW c.p.hard[i]]]
    simp -implicitDefEqProofs only [BC,CB,A8,BR,A7,AZ,BA,AC,AQ,AO,BD,AX,AL,DZ,AA,AY,BO,BH,EZ,BP,CZ,CQ,BV,BN,BZ,AB,CE,jF,jD,jE,↓reduceIte,jB,jA,jC,enP,P9,jJ,f51,f53,EF hi',EO MK J4 EN hi',AF1,AGQ _ _ [.int .i64 0,.int .i64 0,.str ⟨#[]⟩,.sl .nil 0 []] rfl,ldE,f6]
    refine (ANX G sg (nm sg) c.p.hard[i] _ (by omega) heok (hg.hard _ hmem).w).use ?_
    simp -implicitDefEqProofs only [BJ,A7,AZ,BA,AC,AQ,AO,BD,AX,AL,AA,AY,AU,BG,BU,AB,DJ,↓reduceIte,jA,jC,enP]
    refine CV (fun h1 => ?_) (fun h1 => ?_)
    ·simp -implicitDefEqProofs only [BC,A8,AZ,AC,AQ,AO,BD,AX,BO,BV,BN,jD,jE,jA,jC]
     refine (JY G hG _).use ?_
     simp -implicitDefEqProofs only [BK,A7,CJ,D5,LW,FV,AZ,BA,AC,AQ,AO,BD,AX,AL,AA,AY,BB,↓reduceIte,jA,jC]
     exact ⟨trivial,hx8⟩
    ·have h1:(evE sg c.p.hard[i]).1≠0:=by
      intro q; rw [q] at h1; exact absurd h1 (by decide)
     simp -implicitDefEqProofs only [A8,BR,A7,EK,FI,AZ,BA,AC,AQ,AO,BD,AX,AL,AA,AY,AU,BG,BH,BU,AB,DY,↓reduceIte,jB,jA,jC,enP,f53,wrap_succ (show i < 9223372036854775807 by omega)]
     refine ⟨n - 1,by omega,i+1,by omega,by trivial,by trivial,by trivial,by trivial,by trivial,by trivial,fun e he => ?_,hx8⟩
     rw [zT hi'] at he
     rcases zZ.1 he with he | he
     ·exact hq e he
     ·rw [List.mem_singleton] at he; subst he; exact h1
   ·have hi' : ¬ i < c.p.hard.length:=by simpa using hc
    rw [jX (by omega)] at hq
    simp -implicitDefEqProofs only [D6,EU,MX,FX,AA,↓reduceIte,jB]
    exact ⟨f1,f5,hq,hxJ⟩
  ·clear f1
   rintro F J ⟨f1,f5,hqh,hxJ⟩
   have hdl:=hs.p.dists
   simp -implicitDefEqProofs only [BC,CB,A8,A7,FT,AZ,BA,AC,AQ,AO,BD,AX,AL,AA,AY,AU,BG,BH,BP,BI,E5,AB,↓reduceIte,jI,jG,jA,jC,enP,APM,AB5,NY,f1,l24 hxJ,jM]
   -- the distributions
   refine IY 4 (fun F J=>F 1 = .ptr b1 0 0∧F 5 = .sl .any 1 (a.map qencI)∧(∀ d∈c.p.dists,∃ i,d.var=(i:Nat)∧i < c.p.vars.length∧∃ h:i < a.length,VO d.ws a[i]=true)∧ext H J) (fun F J=>F 2 = .bool true∧ext H J) ?_ ?_ ?_
   ·refine D7 (fun n F J => ∃ i,n+i=c.p.dists.length∧F 1 = .ptr b1 0 0∧F 5 = .sl .any 1 (a.map qencI)∧F 65 = .sl c.p.dm 2 (c.p.dists.map IU)∧F 66 = .int .i64 (c.p.dists.length:Nat)∧F 67 = .int .i64 (i:Nat)∧(∀ d∈c.p.dists.take i,∃ i,d.var=(i:Nat)∧i < c.p.vars.length∧∃ h:i < a.length,VO d.ws a[i]=true)∧ext H J) c.p.dists.length
     ⟨0,by simp,by simp -implicitDefEqProofs only [AA,↓reduceIte,jB,f1],by simp -implicitDefEqProofs only [AA,↓reduceIte,jB,f5],by simp -implicitDefEqProofs only [AA,↓reduceIte,jB],by simp -implicitDefEqProofs only [AA,↓reduceIte,jB],by simp -implicitDefEqProofs only [AA,↓reduceIte]; rfl,by simp,hxJ⟩ ?_
    clear f1 f5
    rintro n F J ⟨i,hi,f1,f5,f65,f66,f67,hq,hxJ⟩
    simp -implicitDefEqProofs only [BC,A8,BJ,A7,AZ,BA,AC,AQ,AO,BD,AX,AL,AA,AY,BU,AB,DF,↓reduceIte,jA,jC,enP,f66,f67]
    refine CV (fun hc => ?_) (fun hc => ?_)
    ·have hi':i < c.p.dists.length:=by simpa using hc
     have hmem:=jQ hi'
     obtain ⟨k,hk,hvk,_⟩:=U4 (hg.var _ hmem)
     have hka:k < a.length:=by omega
     have g10:=C9 J (ABlk.live 2 [IU c.p.dists[i]])
     have hx10:=hxJ.app [ABlk.live 2 [IU c.p.dists[i]]]
     simp -implicitDefEqProofs only [BC,CB,A8,BR,A7,AZ,BA,AC,AQ,AO,BD,AX,AL,DZ,AA,AY,EZ,BP,CZ,CQ,BZ,AB,CE,↓reduceIte,jB,jA,jC,enP,ABW,jJ,f65,f67,EF hi',EO ARO AGO UR hi',AXI,AVS]
     generalize J ++ [ABlk.live 2 [IU c.p.dists[i]]]=J1 at g10 hx10 ⊢
     generalize J.length=b10 at g10 ⊢
     have l50:DL Tryz.prog J1 50 (.ptr b10 0 1)=some (.sl c.p.dists[i].wm 4 (c.p.dists[i].ws.map IG)):=by rw [DC AUF g10 (row:=IU c.p.dists[i]) rfl]; rfl
     have l3:DL Tryz.prog J1 3 (.ptr b10 0 0)=some (.int .i64 c.p.dists[i].var):=by rw [DC ag3 g10 (row:=IU c.p.dists[i]) rfl]; rfl
     have la:DL Tryz.prog J1 3 (.fptr 1 (a.map qencI) k 0)=some (.int .i64 a[k]):=by rw [GG ag3 hka]; rfl
     refine EX (by kernel_rfl) ?_
     simp -implicitDefEqProofs only [FC,DV,CY,DW,EP,ED,AR1,DN,EQ,EW,EJ,AC,AA,AY,BO,BP,I5,BI,CQ,AB,jF,jD,jE,↓reduceIte,jB,Nat.reduceAdd,jI,jG,jA,enP,RH,UO,WO,f5,l50,l3,hvk,EF hka,la]
     refine ⟨_,AEZ G c.p.dists[i].ws c.p.dists[i].wm a[k] (hs.p.ws _ hmem) J1,?_⟩
     simp -implicitDefEqProofs only [CY,EC,BJ,A7,AA,AY,AB,FO,↓reduceIte]
     refine CV (fun h1 => ?_) (fun h1 => ?_)
     ·simp -implicitDefEqProofs only [BC,A8,AZ,AC,AQ,AO,BD,AX,BO,BV,BN,jD,jE,jA,jC]
      refine (JY G hG _).use ?_
      simp -implicitDefEqProofs only [BK,A7,CJ,D5,LW,FV,AZ,BA,AC,AQ,AO,BD,AX,AL,AA,AY,BB,↓reduceIte,jA,jC]
      exact ⟨trivial,hx10⟩
     ·have h1:VO c.p.dists[i].ws a[k]=true:=by simpa using h1
      simp -implicitDefEqProofs only [A8,BR,A7,EK,FI,AZ,BA,AC,AQ,AO,BD,AX,AL,AA,AY,AU,BG,BH,BU,AB,DY,↓reduceIte,jB,jA,jC,enP,f67,wrap_succ (show i < 9223372036854775807 by omega)]
      refine ⟨n - 1,by omega,i+1,by omega,by trivial,by trivial,by trivial,by trivial,by trivial,fun d hd => ?_,hx10⟩
      rw [zT hi'] at hd
      rcases zZ.1 hd with hd | hd
      ·exact hq d hd
      ·rw [List.mem_singleton] at hd; subst hd; exact ⟨k,hvk,hk,hka,h1⟩
    ·have hi' : ¬ i < c.p.dists.length:=by simpa using hc
     rw [jX (by omega)] at hq
     simp -implicitDefEqProofs only [D6,EU,MX,FX,AA,↓reduceIte,jB]
     exact ⟨f1,f5,hq,hxJ⟩
   ·clear f1 f5
    rintro F J ⟨f1,f5,hqd,hxJ⟩
    have g1J:=FP hxJ g1
    have hK:KPr c.p a:=by
     refine ⟨fun e he => ?_,fun d hd => ?_⟩
     ·have:=hqh e he
      unfold evE at this
      by_cases q:exE e≠0
      ·rw [if_pos q] at this; exact absurd rfl this
      rw [if_neg q] at this
      by_cases q':(pre e).all (knE sg)=true
      ·rw [if_pos q'] at this
       rw [hsg]
       exact ⟨⟨RY (by simpa using q),fun x hx=>by rw [hsg]; exact List.all_eq_true.1 q' x hx⟩,this⟩
      ·rw [if_neg q'] at this; exact absurd rfl this
     ·obtain ⟨i,e1,e2,e3,e4⟩:=hqd d hd
      exact ⟨i,e1,e2,e3,AK8 _ _ e4⟩
    obtain ⟨s,hrun,hok⟩:=AOY (l:=c.l) hal hchu hK ⟨hll,hwl,fun i h1 h2=>hcin i h1 h2⟩
    have hnar:AMW c.p c.l=(s.1,0):=by
     unfold AMW
     rw [if_neg (by rw [hv,hf]; simp),hrun]
    have hN:=Z7 G hG c.p hs.p c.l c.lm hs.l J
    rw [hnar] at hN
    have hsl:s.1.length=a.length:=by rw [hok.len]; omega
    have hle:(((s.1.length:Nat):Int) != ((a.length:Nat):Int))=false:=by rw [hsl]; simp
    simp -implicitDefEqProofs only [BC,A8,A7,FT,AZ,AC,AQ,AO,BD,AX,AL,AA,AY,BO,BP,BI,BV,BN,AB,jF,jD,jE,↓reduceIte,jB,jI,jG,jA,jC,enP,NY,QH,f1,Q3 g1J,RU g1J]
    refine hN.use ?_
    simp -implicitDefEqProofs only [jZ,zC,BC,CB,A8,BR,BJ,A7,DX,AZ,BA,BL,BX,CG,EM,AC,AQ,AO,BD,AX,AL,AA,AY,AU,BG,BM,BH,BB,CO,DU,BU,GH,IW,E5,AB,FD,↓reduceIte,jB,jA,jC,enP,ADA,ABR,f5,Int.reduceBNe,bne_self_eq_false,jM,hle]
    refine IY 6 (fun F K=>K=J) (fun _ _=>False) ?_ ?_ (fun _ _ q=>q.elim)
    ·refine D7 (fun n F K => ∃ i,n+i=a.length∧F 11 = .sl (AS2 c.p c.l) 2 (s.1.map encR)∧F 99 = .sl .any 1 (a.map qencI)∧F 100 = .int .i64 (a.length:Nat)∧F 101 = .int .i64 (i:Nat)∧K=J) a.length
      ⟨0,by simp,by simp -implicitDefEqProofs only [AA,↓reduceIte,jB],by simp -implicitDefEqProofs only [AA,↓reduceIte,jB,f5],by simp -implicitDefEqProofs only [AA,↓reduceIte,jB],by simp -implicitDefEqProofs only [AA,↓reduceIte]; rfl,rfl⟩ ?_
     rintro n F K ⟨i,hi,f11,f99,f100,f101,rfl⟩
     simp -implicitDefEqProofs only [BC,A8,BJ,A7,AZ,BA,AC,AQ,AO,BD,AX,AL,AA,AY,BU,AB,DF,↓reduceIte,jA,jC,enP,f100,f101]
     refine CV (fun hc => ?_) (fun hc => ?_)
     ·have hi':i < a.length:=by simpa using hc
      have his:i < s.1.length:=by omega
      obtain ⟨i1,i2⟩:=hok.inn i hi' his
      have la:DL Tryz.prog K 3 (.fptr 1 (a.map qencI) i 0)=some (.int .i64 a[i]):=by rw [GG ag3 hi']; rfl
      have l0:DL Tryz.prog K 3 (.fptr 2 (s.1.map encR) i 0)=some (.int .i64 s.1[i].lo):=by rw [GG ag3 his]; rfl
      have l1:DL Tryz.prog K 3 (.fptr 2 (s.1.map encR) i 1)=some (.int .i64 s.1[i].hi):=by rw [GG ag3 his]; rfl
      have c1:decide (a[i] < s.1[i].lo)=false:=by rw [decide_eq_false_iff_not]; omega
      have c2:decide (a[i] > s.1[i].hi)=false:=by rw [decide_eq_false_iff_not]; omega
      simp -implicitDefEqProofs only [BC,CB,A8,BR,BJ,A7,EK,FI,DX,AZ,BA,BL,BX,CG,EM,AC,AQ,AO,BD,AX,AL,AA,AY,AU,BG,BM,BH,BB,CO,DU,BP,BU,BI,CQ,AB,DY,DF,EY,↓reduceIte,jB,jI,jG,jA,jC,enP,QS,GI,GR,RH,f99,f101,f11,EF hi',EF his,la,l0,l1,c1,c2,wrap_succ (show i < 9223372036854775807 by omega)]
      exact ⟨n - 1,by omega,i+1,by omega,by trivial,by trivial,by trivial,by trivial,trivial⟩
     ·simp -implicitDefEqProofs only [D6,EU,MX,FX,↓reduceIte]
    ·rintro F K rfl
     simp -implicitDefEqProofs only [BC,A8,A7,FT,AZ,AC,AQ,AO,BD,AX,BO,BV,BN,jD,jE,↓reduceIte,jA,jC]
     refine (JY G hG K).use ?_
     simp -implicitDefEqProofs only [BK,A7,CU,AZ,BA,AC,AQ,AO,BD,AX,AL,AA,AY,BB,↓reduceIte,jA,jC]
     exact ⟨by trivial,hx.trans hxJ⟩
   ·rintro F K ⟨f2,hxJ⟩
    simp -implicitDefEqProofs only [CJ,D5,CU,f2]
    exact ⟨trivial,hx.trans hxJ⟩
  ·rintro F K ⟨f2,hxJ⟩
   simp -implicitDefEqProofs only [CJ,D5,CU,f2]
   exact ⟨trivial,hx.trans hxJ⟩
 ·rintro F K ⟨f2,hxK⟩
  simp -implicitDefEqProofs only [CJ,D5,CU,f2]
  exact ⟨trivial,hx.trans hxK⟩
end
end Go.Proofs.YtokehnfjjmpanaaGreatDoor.Bd
