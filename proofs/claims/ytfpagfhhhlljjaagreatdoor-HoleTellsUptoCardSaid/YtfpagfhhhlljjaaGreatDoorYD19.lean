/- Part 19 of the proof (Sy, O21, O22, O23, O24); no condition. -/
import Derived.Shelf.Spec.SlicesGrow
import Derived.Test.YtfpagfhhhlljjaaGreatDoorYD18
set_option linter.unusedVariables false
namespace Go.Proofs.YtfpagfhhhlljjaaGreatDoor.Sm
open List renaming getElem_of_mem→qL,getElem?_set→zG,length_set→qW

theorem GSt.refl (E:Env)(h:Hp):GSt E h h:=fun g _ S=>⟨g,Gh.le.refl g,S⟩
theorem GSt.trans {E:Env}{a b c:Hp}(h1:GSt E a b)(h2:GSt E b c):GSt E a c:=fun g w S =>
 let ⟨g1,l1,S1⟩:=h1 g w S; let ⟨g2,l2,S2⟩:=h2 g1 w S1; ⟨g2,l1.trans l2,S2⟩
theorem GSt.kill (E:Env)(h:Hp)(b:Nat):GSt E h (h.set b .dead):=fun g _ S=>⟨g,Gh.le.refl g,S.kill b⟩
theorem GSt.frz {E:Env}{h:Hp}{b k i j o off len k':Nat}{xs ys:List (List AV)}{row:List AV}(hb:h[b]? = some (.live k xs))(hi:xs[i]? = some row)(hj:row[j]? = some (.own o off len))(ho:h[o]? = some (.live k' ys))
  (hne:o≠b) (hle:off+len≤ys.length) (hfz:MI ((ys.drop off).take len)=true) :
  GSt E h ((h.set o .dead).set b (.live k (xs.set i (row.set j (.sl .any k' ((ys.drop off).take len)))))):=by
 intro g w S
 obtain⟨lo,co,eo,p1,p2,p3,p4,p5,p6,p7,p8⟩:=S.live o k' ys ho
 have S1:=S.kill o
 have u:=NU S ho (by simp) p1
 have S2:=S1.freeze p4 p3 u
 have hg:g.le (g.freeze lo.cb (.cells co eo (0,0))):=Gh.freeze_le p3
 have hM:(g.freeze lo.cb (.cells co eo (0,0))).M lo.cb=some (.cells co eo (0,0)):=by simp [Gh.freeze]
 refine⟨_,hg,?_⟩
 generalize g.freeze lo.cb (.cells co eo (0,0))=g' at S2 hg hM ⊢
 obtain⟨l,c,e,q1,q2,q3,q4,q5,q6,q7,q8⟩:=S.live b k xs hb
 have hb2:(h.set o .dead)[b]? = some (.live k xs):=by rw[List.getElem?_set_ne hne]; exact hb
 obtain⟨l',c',e',r1,r2,r3,r4,r5,r6,r7,r8⟩:=S2.live b k xs hb2
 have hl:l=l':=by have:=hg.μ _ _ q1; rw[r1] at this; cases this; rfl
 subst hl
 have hc:c=c':=by rw[q4] at r4; cases r4; rfl
 subst hc
 simp only[MI,List.all_eq_true] at hfz
 have key : ∀ cv,Rep g (.own o off len) cv→Rep g' (.sl .any k' ((ys.drop off).take len)) cv:=by
  intro cv hr
  have:=AEG (φ:=id) S ho p1 p4 hM hle hr (fun row hrow v hv=>by
   obtain⟨i,hi,rfl⟩:=qL hrow
   obtain⟨j',hj',rfl⟩:=qL hv
   refine⟨?_,fun cv hcv=>(AV.frozen_rep (hfz _ hrow _ hv) hcv).mono hg.M⟩
   have:=hfz _ hrow _ hv
   revert this
   generalize (((ys.drop off).take len)[i])[j']=y
   intro this
   cases y <;> simp_all [AV.frozen,AV.leaf])
  have hid:((ys.drop off).take len).map (·.map id)=(ys.drop off).take len:=by
   have:(fun x:List AV=>x.map id)=id:=by funext x; simp
   rw[this,List.map_id]
  rw[hid] at this
  exact .fro this
 have S3:=S2.kill b
 have u2:=NU S2 hb2 (by simp) r1
 have:=S3.revive (xs:=xs.set i (row.set j (.sl .any k' ((ys.drop off).take len)))) r1 r4 r5 r3 u2 ?_
 ·rw[List.set_set,r2] at this; exact this
 rw[r2]
 have hrw : ∀ (i':Nat) (row':List AV),(xs.set i (row.set j (.sl .any k' ((ys.drop off).take len))))[i']? = some row'→(i'=i∧row'=row.set j (.sl .any k' ((ys.drop off).take len)))∨(i'≠i∧xs[i']? = some row'):=by
  intro i' row' h'
  rw[zG] at h'
  split at h'
  ·rename_i e1
   split at h' <;> simp at h'
   exact .inl ⟨e1.symm,h'.symm⟩
  ·rename_i e1; exact .inr ⟨fun q=>e1 q.symm,h'⟩
 refine⟨by rw[qW,r5]; exact r6,?_,?_⟩
 ·intro i' row' h'
  rcases hrw i' row' h' with⟨rfl,rfl⟩ | ⟨_,h2⟩
  ·refine⟨by rw[qW]; exact(r7 _ _ hi).1,fun j' v hv => ?_⟩
   rw[zG] at hv
   split at hv
   ·split at hv <;> simp at hv
    subst hv; rfl
   ·exact(r7 _ _ hi).2 j' v hv
  ·exact r7 _ _ h2
 ·intro i' j' row' v h' hv
  rcases hrw i' row' h' with⟨rfl,rfl⟩ | ⟨_,h2⟩
  ·rw[zG] at hv
   split at hv
   ·rename_i e1
    split at hv <;> simp at hv
    subst hv; subst e1
    obtain⟨cv,s1,s2⟩:=q8 _ _ _ _ hi hj
    exact⟨cv,s1,key cv s2⟩
   ·exact r8 _ _ _ _ hi hv
  ·exact r8 _ _ _ _ h2 hv
end Go.Proofs.YtfpagfhhhlljjaaGreatDoor.Sm
set_option linter.unusedSimpArgs false
set_option maxRecDepth 8000
namespace Go.Proofs.YtfpagfhhhlljjaaGreatDoor.Ho
open Sm Bins Cov Go.RowKit
open Bool renaming not_false→jC,or_false→jQ,or_true→wK
open List renaming length_map→jH,map_cons→jD,map_nil→jE,length_cons→zX,drop_zero→zU,contains_cons→jR,contains_nil→jJ,append_nil→jF,take_zero→qB,length_take→zJ,take_of_length_le→jW,length_nil→qM
open Nat renaming le_refl→jL,le_of_ble_eq_true→jI,reduceEqDiff→jB,reduceAdd→jM,zero_add→jG,reduceBEq→jO
open Option renaming getD_some→jA,map_some→yA,getD_none→jT
theorem knP (E:Env)(g:Gh):(E.know g).P=E.P:=rfl
theorem knG (E:Env)(g:Gh):(E.know g).G=E.G:=rfl
def AHY (m:SM):SM:=match m with | .nil => .nil | _ => .full
theorem A8P {P:Program}{t e:TypeId}{k:Nat}(hu:P.underlying t=some (.slice e))(hs:szO P e=some k){h:Hp}{m:SM}{xs:List (List AV)}{l u:Nat}(h1:l≤u)(h2:u≤xs.length) :
  KL P h t (.sl m k xs) (some (.int .i64 (l:Int))) (some (.int .i64 (u:Int))) (some (.int .i64 (u:Int)))=some (.sl (AHY m) k ((xs.drop l).take (u - l))):=by
 have b1:JM (some (.int .i64 (u:Int))) (some xs.length)=some u:=by simp [JM]
 have b2:JM (some (.int .i64 (l:Int))) (some 0)=some l:=by simp [JM]
 have b3:JM (some (.int .i64 (u:Int))) none=some u:=by simp [JM]
 simp only[KL,hu,b1,b2,b3,hs,true_and]
 rw[if_pos ⟨h1,jL _,h2,rfl⟩]
 cases m <;> simp [AHY]
def part (L:List Rng)(k:Nat):List Rng:=(L.drop (16 * k)).take 16
def parts (L:List Rng):Nat:=(L.length+15) / 16
set_option maxHeartbeats 1000000 in
theorem APQ (G:Nat→AV)(L:List Rng)(m:SM)(hl:L.length≤1048576)(b2 b3:Nat)(I:Nat→Hp→Prop)(hI : ∀ k h,I k h→h[b2]? = some (.live 1 [[.sl m 2 (L.map encR)]])∧h[b3]? = some (.live 1 [[.int .i64 16]])) :
  Iter (En G) 142 [.ptr b2 0 0,.ptr b3 0 0] (parts L) (fun k => [.sl (AHY m) 2 ((part L k).map encR)]) I:=by
 intro l g0 hY h h0
 refine MJ (H:=Hint.none) (enM G) Tryz.func142 rfl (by kernel_rfl) (by kernel_rfl) (Nat.le_of_ble_eq_true (by kernel_rfl)) ?_
 show awp _ _ _ _ _ (EM _ [] _)
 simp -implicitDefEqProofs only[vQ,BD,enP,knP,knG]
 refine DL (fun n F H => ∃ k,n+k=parts L∧F 0 = .fn (.yield l) [] []∧F 1 = .ptr b2 0 0∧F 2 = .ptr b3 0 0∧F 4 = .int .i64 ((16 * k:Nat):Int)∧I k H) (parts L)
  ⟨0,by simp,by simp -implicitDefEqProofs only[vQ,↓reduceIte,jB],by simp -implicitDefEqProofs only[vQ,↓reduceIte,jB],by simp -implicitDefEqProofs only[vQ,↓reduceIte,jB],by simp -implicitDefEqProofs only[AA,↓reduceIte] <;> rfl,h0⟩ ?_
 rintro n F H ⟨k,hk,f0,f1,f2,f4,hIk⟩
 obtain⟨g2,g3⟩:=hI k H hIk
 have l2:D8 Tryz.prog H 53 (.ptr b2 0 0)=some (.sl m 2 (L.map encR)):=by rw[DY SV g2 (row := [.sl m 2 (L.map encR)]) rfl]; rfl
 have l3:D8 Tryz.prog H 3 (.ptr b3 0 0)=some (.int .i64 16):=by rw[DY ag3 g3 (row := [.int .i64 16]) rfl]; rfl
 have hp:parts L=(L.length+15) / 16:=rfl
 simp -implicitDefEqProofs only[vQ,BD,↓reduceIte,jB,enP,PN,knP,knG,f1,f4,l2,jH]
 refine CU (fun hc => ?_) (fun hc => ?_)
 ·have hk':16 * k < L.length:=by have:=of_decide_eq_true hc; omega
  have hkn:k < parts L:=by omega
  have hs1:KL Tryz.prog H 53 (.sl m 2 (L.map encR)) (some (.int .i64 ((16 * k:Nat):Int))) none none=some (.sl m 2 ((L.drop (16 * k)).map encR)):=by
   rw[AQ1 AGJ UJ (by simp; omega),List.map_drop]
  have hw1:IntKind.i64.wrap (((16 * k:Nat):Int)+((min 16 (L.length - 16 * k):Nat):Int))=((16 * k+min 16 (L.length - 16 * k):Nat):Int):=by rw[wrap_i64 (by omega) (by omega)]; omega
  have hw2:IntKind.i64.wrap (((16 * k:Nat):Int)+16)=((16 * (k+1):Nat):Int):=by rw[wrap_i64 (by omega) (by omega)]; omega
  have hs2:KL Tryz.prog H 53 (.sl m 2 (L.map encR)) (some (.int .i64 ((16 * k:Nat):Int))) (some (.int .i64 ((16 * k+min 16 (L.length - 16 * k):Nat):Int))) (some (.int .i64 ((16 * k+min 16 (L.length - 16 * k):Nat):Int)))=some (.sl (AHY m) 2 ((part L k).map encR)):=by
   rw[A8P AGJ UJ (by omega) (by simp; omega),← List.map_drop,← List.map_take]
   have e:(L.drop (16 * k)).take (16 * k+min 16 (L.length - 16 * k) - 16 * k)=part L k:=by
    unfold part
    rw[List.take_eq_take_iff,List.length_drop]
    omega
   rw[e]
  simp -implicitDefEqProofs only[vQ,knP,knG]
  refine EY (by kernel_rfl) ?_
  simp -implicitDefEqProofs only[vQ,yA,Option.map_none,AZF,BD,TE,AQM,AI6,↓reduceIte,jB,jM,enP,PN,knP,knG,f1,f2,f4,l2,l3,hs1,jH,List.length_drop]
  have hm16:min (16:Int) ((L.length - 16 * k:Nat):Int)=((min 16 (L.length - 16 * k):Nat):Int):=by omega
  simp -implicitDefEqProofs only[vQ,BD,A1N,↓reduceIte,jB,knP,knG,hm16,f0,f1,f2,f4,l2,hw1,hs2]
  refine(hY k H hkn hIk).mono ?_
  rintro v h' ⟨rfl,hI'⟩
  obtain⟨g2',g3'⟩:=hI (k+1) h' hI'
  have l3':D8 Tryz.prog h' 3 (.ptr b3 0 0)=some (.int .i64 16):=by rw[DY ag3 g3' (row := [.int .i64 16]) rfl]; rfl
  simp -implicitDefEqProofs only[vQ,BD,↓reduceIte,jB,Bool.not_true,enP,knP,knG,f2,f4,l3',hw2]
  exact⟨n - 1,by omega,k+1,by omega,by first | exact True.intro | exact f0,by first | exact True.intro | exact f1,by first | exact True.intro | exact f2,by first | exact True.intro | exact rfl,hI'⟩
 ·have hk' : ¬ 16 * k < L.length:=by have:=of_decide_eq_false hc; omega
  have:k=parts L:=by omega
  subst this
  simp -implicitDefEqProofs only[vQ,AFJ,↓reduceIte,knP,knG]
  exact hIk
theorem APP (G:Nat→AV)(s:AV)(hs:JW s=some [s])(h:Hp):ACalls (En G) 100 [s,.int .i64 16] h fun v h'=>v = .fn (.func 142) [] [.ptr h.length 0 0,.ptr (h.length+1) 0 0]∧h'=h++[.live 1 [[s]]]++[.live 1 [[.int .i64 16]]]:=by
 refine acN Tryz.func100 rfl ?_
 show awp _ _ _ _ _ (EM _ [.tmp 4] _)
 have hb:O7 h s=some (.ptr h.length 0 0,h++[.live 1 [[s]]]):=by simp [O7,hs]
 have l3:D8 Tryz.prog (h++[ABlk.live 1 [[s]]]++[ABlk.live 1 [[.int .i64 16]]]) 3 (.ptr (h++[ABlk.live 1 [[s]]]).length 0 0)=some (.int .i64 16):=by rw[DY ag3 (CZ _ _) (row := [.int .i64 16]) rfl]; rfl
 have d16:decide ((16:Int) < 1)=false:=rfl
 simp -implicitDefEqProofs only[vQ,ASH,BD,ANJ,I5,↓reduceIte,jB,enP,hb,l3,d16]
 exact⟨by simp,by first | exact True.intro | exact rfl⟩
def cEs (l:List Rng):List Ex:=l.flatMap fun r => [cE r.lo,cE r.hi]
def insL (e:Ex)(l:List Rng):List Ex:=e :: cEs l
theorem AFV (a:Rng)(l:List Rng):cEs (a :: l)=cE a.lo :: cE a.hi :: cEs l:=rfl
theorem AL6 : ∀ l:List Rng,(A0V l).map A6M=cEs l
 | []=>rfl
 | a :: l=>by rw[ATU,AFV,jD,jD,AL6 l]; rfl
theorem AJD (e:Ex)(l:List Rng):NW e l = .mk 23 0 ⟨#[]⟩ .any (insL e l):=by
 unfold NW A2Q insL
 rw[jD,AL6]; rfl
theorem AYC {l:List Rng}{k:Nat}(hk:k < l.length):cEs (l.take (k+1))=cEs (l.take k)++[cE l[k].lo,cE l[k].hi]:=by
 unfold cEs
 rw[List.take_succ_eq_append_getElem hk,List.flatMap_append]; rfl
theorem ASG : ∀ l:List Rng,(cEs l).length=2 * l.length
 | []=>rfl
 | a :: l=>by rw[AFV,zX,zX,ASG l,zX]; omega
def nodes (e:Ex)(L:List Rng)(k:Nat):List Ex:=(List.range k).map fun i=>NW e (part L i)
theorem LP (e:Ex)(L:List Rng)(k:Nat):(nodes e L k).length=k:=by simp [nodes]
theorem AEJ (e:Ex)(L:List Rng)(k:Nat):nodes e L (k+1)=nodes e L k++[NW e (part L k)]:=by simp [nodes,List.range_succ]
theorem ATG (e:Ex)(L:List Rng)(k i:Nat)(h:i < (nodes e L k).length):(nodes e L k)[i]=NW e (part L i):=by simp [nodes]
def WE (e:Ex)(L:List Rng):Nat→Ex
 | 0=>NW e (part L 0)
 | k+1=>orE (WE e L k) (NW e (part L (k+1)))
def Q4 (e:Ex)(L:List Rng):Ex:=if L = [] then cE 0 else AJC (cpE e) L
theorem parts_eq (L:List Rng):parts L=(L.length+15) / 16:=rfl
theorem ALQ (L:List Rng)(i:Nat):(L.drop (16 * i)).take (min L.length (16 * i+16) - 16 * i)=part L i:=by
 unfold part
 rw[List.take_eq_take_iff,List.length_drop]
 omega
theorem AHO (e:Ex)(L:List Rng) : ∀ (n k:Nat),L.length≤16 * (k+1)+n→k < parts L→AWM e L n (16 * (k+1)) (WE e L k)=WE e L (parts L - 1)
 | 0,k,h,hk=>by
   have hp:=parts_eq L
   have:parts L - 1=k:=by omega
   rw[this]; rfl
 | n+1,k,h,hk=>by
   have hp:=parts_eq L
   show(if 16 * (k+1) < L.length then _ else _)=_
   by_cases hc:16 * (k+1) < L.length
   ·rw[if_pos hc,ALQ]
    exact AHO e L n (k+1) (by omega) (by omega)
   ·rw[if_neg hc]
    have:parts L - 1=k:=by omega
    rw[this]
theorem AL7 (e:Ex)(L:List Rng)(h:L≠[]):AJC e L=WE e L (parts L - 1):=by
 have hl:0 < L.length:=List.length_pos_iff.2 h
 have hp:=parts_eq L
 unfold AJC
 have:=AHO e L L.length 0 (by omega) (by omega)
 have h0:NW e (L.take (min L.length 16))=WE e L 0:=by
  show _=NW e (part L 0)
  have:=ALQ L 0
  simp only[Nat.mul_zero,jG,Nat.sub_zero,zU] at this
  rw[← this]
 rw[h0]; exact this
theorem ACH (e:Ex)(L:List Rng)(h:L≠[]):Q4 e L=WE (cpE e) L (parts L - 1):=by
 unfold Q4; rw[if_neg h,AL7 _ _ h]
theorem A3D (F:Fr)(p:Nat)(ps:List Nat)(v:AV)(vs:List AV):AIP F (p :: ps) (v :: vs)=AIP (upd F p v) ps vs:=rfl
theorem A3C (F:Fr)(vs:List AV):AIP F [] vs=F:=by cases vs <;> rfl
theorem A9M (h:Hp):KN Tryz.prog h 46=some (.ptr h.length 0 0,h++[.live 1 [[.sl .nil 0 []]]]):=KD (row := [.sl .nil 0 []]) (by kernel_rfl)
abbrev NZ:List AV := [.int .i64 0,.int .i64 0,.str ⟨#[]⟩,.sl .nil 0 []]
structure Ic (h hb H:Hp) (e:Ex) (L:List Rng) (m:SM) (b4 b5 c2 c3 k:Nat) (v:AV):Prop where
 ge:H[h.length]? = some (.live 4 [DX e])
 g4:H[b4]? = some (.live 4 [NZ])
 g5:H[b5]? = some (.live 1 [[v]])
 g2:H[c2]? = some (.live 1 [[.sl m 2 (L.map encR)]])
 g3:H[c3]? = some (.live 1 [[.int .i64 16]])
 ho:outG 4 DX hb (nodes (cpE e) L k) v H
 hx:ext h H
 hy:hb.length≤H.length
structure In (hb H1 H:Hp) (e:Ex) (l:List Rng) (b7:Nat) (v:AV):Prop where
 g7:H[b7]? = some (.live 4 [[.int .i64 23,.int .i64 0,.str ⟨#[]⟩,v]])
 ho:outG 4 DX H1 (insL e l) v H
 hx:ext H1 H
 ne : ∀ b,isB v b→b≠b7
theorem AZ8 {α:Type}{k:Nat}{f:α→List AV}{h H:Hp}{ys:List α}{v:AV}(ho:outG k f h ys v H):outG k id h (ys.map f) v H:=by
 rcases ho with⟨rfl,rfl⟩ | ⟨hne,o,h2,rfl,h3⟩
 ·exact .inl ⟨rfl,rfl⟩
 ·exact .inr ⟨by simpa using hne,o,h2,by rw[jH],by rw[List.map_id]; exact h3⟩
theorem A21 (h:Hp):FM Tryz.prog false h 46 1 [(0,.agg NZ)]=some (.sl .full 4 [NZ],h):=by kernel_rfl
theorem A7W:V7 (Value.agg #[.int .i64 0,.int .i64 0,.string ⟨#[]⟩,.slice none 0 0]) = .agg NZ:=rfl
theorem AF9 (l:List Ex):MI (l.map DX)=true:=by
 unfold MI
 rw[List.all_eq_true]
 intro row hr
 obtain⟨x,_,rfl⟩:=List.mem_map.1 hr
 rw[JJ]; rfl
theorem AWC {α:Type}{k:Nat}{f:α→List AV}{h H H':Hp}{ys:List α}{v:AV}(ho:outG k f h ys v H)(hx:Sm.ext H H'):outG k f h ys v H':=by
 obtain⟨x,rfl⟩:=hx; exact ho.app x
theorem Ic.ext {h hb H H':Hp}{e:Ex}{L:List Rng}{m:SM}{b4 b5 c2 c3 k:Nat}{v:AV}(I:Ic h hb H e L m b4 b5 c2 c3 k v)(hx:Sm.ext H H'):Ic h hb H' e L m b4 b5 c2 c3 k v :=
 ⟨FD hx I.ge,FD hx I.g4,FD hx I.g5,FD hx I.g2,FD hx I.g3,AWC I.ho hx,I.hx.trans hx,Nat.le_trans I.hy hx.le⟩
theorem AW9 (e:Ex)(l:List Rng):DX (NW e l) = [.int .i64 23,.int .i64 0,.str ⟨#[]⟩,.sl .any 4 ((insL e l).map DX)]:=by rw[AJD,JJ]; rfl
section
variable (G:Nat→AV)
set_option maxHeartbeats 8000000 in
theorem inside_prog (e:Ex)(xs:List Rng)(s:SM)(hl:xs.length≤1048576)(hw:wt e≤1048576)(h:Hp):PCall (En G) 65 [.agg (DX e),.sl s 2 (xs.map encR)] h (.agg (DX (Q4 e (normal xs)))):=by
 refine ACalls.pure (R:=fun v H=>Sm.ext h H∧IL h.length H 3 v = .agg (DX (Q4 e (normal xs)))) 3 ?_ (fun v H ⟨a,b⟩=>⟨a,b⟩)
 refine MJ (H:=hint [19,36,43] []) (enM G) Tryz.func65 rfl (by kernel_rfl) (by kernel_rfl) (jI (by kernel_rfl)) ?_
 show awp _ _ _ _ _ (EM _ [.cell 4 48] _)
 have ge:=CX (x:=ABlk.live 1 [[.sl .nil 0 []]]) (CX (x:=ABlk.live 4 [NZ]) (CZ h (ABlk.live 4 [DX e])))
 have g4:=CX (x:=ABlk.live 1 [[.sl .nil 0 []]]) (CZ (h++[ABlk.live 4 [DX e]]) (ABlk.live 4 [NZ]))
 have g5:=CZ (h++[ABlk.live 4 [DX e]]++[ABlk.live 4 [NZ]]) (ABlk.live 1 [[.sl .nil 0 []]])
 have hx:Sm.ext h (h++[ABlk.live 4 [DX e]]++[ABlk.live 4 [NZ]]++[ABlk.live 1 [[.sl .nil 0 []]]]):=(((ext.rfl' h).app _).app _).app _
 have o4:h.length < (h++[ABlk.live 4 [DX e]]).length:=by simp
 have o5:(h++[ABlk.live 4 [DX e]]).length < (h++[ABlk.live 4 [DX e]]++[ABlk.live 4 [NZ]]).length:=by simp
 have hnl:=AEI xs
 simp -implicitDefEqProofs only[vQ,jR,jJ,jO,jQ,BD,↓reduceIte,jB,enP,bxE,AC4,A9M]
 generalize h++[ABlk.live 4 [DX e]]++[ABlk.live 4 [NZ]]++[ABlk.live 1 [[.sl .nil 0 []]]]=H0 at ge g4 g5 hx ⊢
 generalize (h++[ABlk.live 4 [DX e]]++[ABlk.live 4 [NZ]]).length=b5 at g5 o5 ⊢
 generalize (h++[ABlk.live 4 [DX e]]).length=b4 at g4 o4 o5 ⊢
 have l5:=CJ g5
 refine(AI3 G xs s _ (by omega)).use ?_
 generalize normal xs=L at hnl ⊢
 have hL:L.length≤1048576:=by omega
 generalize Bins.nm L=m
 simp -implicitDefEqProofs only[vQ,jR,jJ,jO,jQ,BD,↓reduceIte]
 refine(APP G _ rfl _).mono ?_
 rintro v H ⟨rfl,rfl⟩
 have I0:Ic h (H0++[ABlk.live 1 [[.sl m 2 (L.map encR)]]]++[ABlk.live 1 [[.int .i64 16]]]) (H0++[ABlk.live 1 [[.sl m 2 (L.map encR)]]]++[ABlk.live 1 [[.int .i64 16]]]) e L m b4 b5 H0.length (H0.length+1) 0 (.sl .nil 0 []) :=
  ⟨CX (CX ge),CX (CX g4),CX (CX g5),CX (CZ _ _),by simp,outG.nil _ _ _ _,(hx.app _).app _,jL _⟩
 generalize H0++[ABlk.live 1 [[.sl m 2 (L.map encR)]]]++[ABlk.live 1 [[.int .i64 16]]]=H1 at I0 ⊢
 have k2:b5 < H0.length:=l5
 have k3:H0.length < H0.length+1:=Nat.lt_succ_self _
 generalize H0.length+1=c3 at I0 k3 ⊢
 generalize H0.length=c2 at I0 k2 k3 ⊢
 have l3:=CJ I0.g3
 clear ge g4 g5 hx l5
 simp -implicitDefEqProofs only[vQ]
 refine A4X (by kernel_rfl) (by simp -implicitDefEqProofs only[vQ,↓reduceIte]) (parts L) (fun k => [.sl (AHY m) 2 ((part L k).map encR)]) (fun k H => ∃ v,Ic h H1 H e L m b4 b5 c2 c3 k v) (APQ G L m hL c2 c3 _ (fun k H ⟨v,I⟩=>⟨I.g2,I.g3⟩)) ⟨_,I0⟩ ?_ ?_
 ·clear I0
  rintro k H hk ⟨v,I⟩
  refine⟨rfl,?_⟩
  have hy:=I.hy
  have lb:=ATK I.ge
  have gc0:(H++[ABlk.live 4 [DX (cpE e)]]++[ABlk.live 4 [NZ]])[(H++[ABlk.live 4 [DX (cpE e)]]).length]? = some (ABlk.live 4 [NZ]):=CZ _ _
  have sc0:=AQ0 (cs := [.int .i64 23,.int .i64 0,.str ⟨#[]⟩,.own H.length 0 1]) gc0 rfl rfl rfl
  have N0:In H1 H ((H++[ABlk.live 4 [DX (cpE e)]]++[ABlk.live 4 [NZ]]).set (H++[ABlk.live 4 [DX (cpE e)]]).length (.live 4 [[.int .i64 23,.int .i64 0,.str ⟨#[]⟩,.own H.length 0 1]])) (cpE e) ((part L k).take 0) (H++[ABlk.live 4 [DX (cpE e)]]).length (.own H.length 0 1) :=
   ⟨EG gc0,.inr ⟨by rw[qB]; exact List.cons_ne_nil _ _,H.length,jL _,by rw[qB]; rfl,by rw[qB]; exact CV (CX (CZ _ _)) (by simp)⟩,(((ext.rfl' H).app _).app _).set (by simp) _,fun b hb=>by cases hb; simp⟩
  simp -implicitDefEqProofs only[vQ,jR,jJ,jO,jQ,BD,↓reduceIte,jB,enP,A3D,A3C,lb]
  refine(AM9 G (wt e) e H (jL _) hw).use ?_
  simp -implicitDefEqProofs only[vQ,jR,jJ,jO,jQ,BD,↓reduceIte,jB,enP,PN,jT,A7C,A7O,AC4,sc0,jH]
  generalize ((H++[ABlk.live 4 [DX (cpE e)]]++[ABlk.live 4 [NZ]]).set (H++[ABlk.live 4 [DX (cpE e)]]).length (.live 4 [[.int .i64 23,.int .i64 0,.str ⟨#[]⟩,.own H.length 0 1]]))=H2 at N0 ⊢
  have hb7:H.length < (H++[ABlk.live 4 [DX (cpE e)]]).length:=by simp
  generalize (H++[ABlk.live 4 [DX (cpE e)]]).length=b7 at N0 hb7 ⊢
  generalize AV.own H.length 0 1=u0 at N0
  clear gc0 sc0 lb
  refine GZ 2 (fun F H'=>F 5 = .ptr b5 0 0∧F 7 = .ptr b7 0 0∧∃ u,In H1 H H' (cpE e) (part L k) b7 u) (fun _ _=>False) ?_ ?_ (fun _ _ q=>q.elim)
  ·refine DL (fun n F H' => ∃ j u,n+j=(part L k).length∧F 5 = .ptr b5 0 0∧F 7 = .ptr b7 0 0∧F 21 = .sl (AHY m) 2 ((part L k).map encR)∧F 22 = .int .i64 ((part L k).length:Nat)∧F 23 = .int .i64 (j:Nat)∧In H1 H H' (cpE e) ((part L k).take j) b7 u) (part L k).length
    ⟨0,u0,by simp,by simp -implicitDefEqProofs only[AA,↓reduceIte,jB],by simp -implicitDefEqProofs only[AA,↓reduceIte,jB],by simp -implicitDefEqProofs only[AA,↓reduceIte,jB],by simp -implicitDefEqProofs only[AA,↓reduceIte,jB],by simp -implicitDefEqProofs only[AA,↓reduceIte] <;> rfl,N0⟩ ?_
   clear N0
   rintro n F H' ⟨j,u,hj,f5,f7,f21,f22,f23,N⟩
   simp -implicitDefEqProofs only[vQ,jR,jJ,jO,jQ,BD,↓reduceIte,enP,f22,f23]
   refine CU (fun hc => ?_) (fun hc => ?_)
   ·have hj':j < (part L k).length:=by simpa using hc
    have hpl:(part L k).length≤16:=by unfold part; rw[zJ]; omega
    have N1:In H1 H (H'++[ABlk.live 2 [encR (part L k)[j]]]) (cpE e) ((part L k).take j) b7 u:=⟨CX N.g7,N.ho.app _,N.hx.app _,N.ne⟩
    simp -implicitDefEqProofs only[vQ,jR,jJ,jO,jQ,BD,↓reduceIte,jB,enP,XX,jT,f21,f23,DN hj',FU ANQ UJ AAN hj',AYY,AVR _ _ [.int .i64 0,.int .i64 0] rfl]
    have q0:D8 Tryz.prog (H'++[ABlk.live 2 [encR (part L k)[j]]]) 3 (.ptr H'.length 0 0)=some (.int .i64 (part L k)[j].lo):=by rw[DW ag3,TR]
    have q1:D8 Tryz.prog (H'++[ABlk.live 2 [encR (part L k)[j]]]) 3 (.ptr H'.length 0 1)=some (.int .i64 (part L k)[j].hi):=by rw[DW ag3,SK]
    generalize H'++[ABlk.live 2 [encR (part L k)[j]]]=H3 at N1 q0 q1 ⊢
    have hlen:(insL (cpE e) ((part L k).take j)).length+2≤8388608:=by
     unfold insL
     rw[zX,ASG,zJ]; omega
    obtain⟨v',H4,ha,ho2,hkeep,he2,hl2,hv2⟩:=ABH .full N1.ho AGK N7 AN1 APT (by omega) (ys := [cE (part L k)[j].lo,cE (part L k)[j].hi]) hlen N1.hx
    have ha':GM Tryz.prog true H3 46 46 u (.sl .full 4 [DX (cE (part L k)[j].lo),DX (cE (part L k)[j].hi)])=some (v',H4):=ha
    have hits:insL (cpE e) ((part L k).take j)++[cE (part L k)[j].lo,cE (part L k)[j].hi]=insL (cpE e) ((part L k).take (j+1)):=by
     unfold insL
     rw[AYC hj']; rfl
    rw[hits] at ho2
    have g72:=hkeep _ _ N1.g7 (fun q=>N1.ne _ q rfl)
    have l7:D8 Tryz.prog H3 46 (.ptr b7 0 3)=some u:=by rw[DY VT N1.g7 (row := [.int .i64 23,.int .i64 0,.str ⟨#[]⟩,u]) rfl]; rfl
    have lb7:=CJ N1.g7
    have hst:FP Tryz.prog H4 46 (.ptr b7 0 3) v'=some (H4.set b7 (.live 4 [[.int .i64 23,.int .i64 0,.str ⟨#[]⟩,v']])):=by
     rcases ho2 with⟨e1,_⟩ | ⟨_,o,_,rfl,_⟩
     ·exact absurd e1 (List.cons_ne_nil _ _)
     ·rw[MK (cs := [.own o 0 _]) rfl (by kernel_rfl:szO Tryz.prog 46=some 1) g72 (by simp)]; rfl
    have hv2' : ∀ b,isB v' b→b≠b7:=fun b hb=>by
     rcases hv2 b hb with q | q
     ·exact N1.ne b q
     ·omega
    have N2:In H1 H (H4.set b7 (.live 4 [[.int .i64 23,.int .i64 0,.str ⟨#[]⟩,v']])) (cpE e) ((part L k).take (j+1)) b7 v' :=
     ⟨EG g72,ho2.keep (fun b hb=>by rw[List.getElem?_set_ne (fun q=>hv2' b hb q.symm)]),he2.set (by omega) _,hv2'⟩
    refine EY (by kernel_rfl) ?_
    simp -implicitDefEqProofs only[vQ,jR,jJ,jO,jQ,IP,↓reduceIte,jB,jM,Nat.add_zero,enP,OA,UD,SI,f7,l7,q0,q1]
    refine⟨_,WP G _ _,_,WP G _ _,?_⟩
    try simp -implicitDefEqProofs only[vQ,jR,jJ,jO,jQ,wK,BD,↓reduceIte,jB,jM,enP,OA,jT,f5,f7,f21,f22,f23,AYF,ha',hst,wrap_succ (show j < 9223372036854775807 by omega)]
    exact⟨n - 1,by omega,j+1,v',by omega,by first | exact True.intro | exact f5,by first | exact True.intro | exact f7,by first | exact True.intro | exact f21,by first | exact True.intro | exact f22,by first | exact True.intro | exact rfl,N2⟩
   ·have hj' : ¬ j < (part L k).length:=by simpa using hc
    rw[jW (by omega)] at N
    simp -implicitDefEqProofs only[vQ,↓reduceIte,jB]
    exact⟨by first | exact True.intro | exact f5,by first | exact True.intro | exact f7,u,N⟩
  ·rintro F H' ⟨f5,f7,u,N⟩
   have I2:=I.ext N.hx
   have hpl:(part L k).length≤16:=by unfold part; rw[zJ]; omega
   obtain⟨o,n0,hu,ho1,ho2⟩ : ∃ o n0,u = .own o 0 n0∧H.length≤o∧(n0=(insL (cpE e) (part L k)).length∧H'[o]? = some (.live 4 ((insL (cpE e) (part L k)).map DX))):=by
    rcases N.ho with⟨e1,_⟩ | ⟨_,o,h1,h2,h3⟩
    ·exact absurd e1 (List.cons_ne_nil _ _)
    ·exact⟨o,_,h2,h1,rfl,h3⟩
   subst hu
   obtain⟨rfl,ho2⟩:=ho2
   have hk1:(nodes (cpE e) L k).length < 8388608:=by rw[LP]; unfold parts at hk; omega
   obtain⟨v',H3,ha,ho3,hkeep,hl3,hv3,⟨ob,n1,hv'⟩,hext⟩:=(AZ8 I2.ho).app2 AGK N7 AN1 APT (by omega) (by rw[jH]; exact hk1) I2.hy NZ
   subst hv'
   have hob:ob=H'.length:=hv3 ob rfl
   obtain⟨hn1,hb3⟩:n1=k+1∧H3[ob]? = some (.live 4 ((nodes (cpE e) L k).map DX++[NZ])):=by
    rcases ho3 with⟨e1,_⟩ | ⟨_,o',_,h2,h3⟩
    ·simp at e1
    ·cases h2
     refine⟨by simp [LP],?_⟩
     rw[List.map_id] at h3; exact h3
   subst hn1
   have hlo : ∀ b,isB v b→H1.length≤b∧b < H.length:=fun b hb=>I.ho.lt hb
   have nb : ∀ b x,H'[b]? = some x→b < H1.length∨H.length≤b→H3[b]? = some x:=fun b x hx hb=>hkeep b x hx fun q=>by have:=hlo b q; omega
   have l5:b5 < H1.length:=by omega
   have lo':=CJ ho2
   have l7':=CJ N.g7
   have hle:=N.hx.le
   have hset : ∀ a b:List AV,((nodes (cpE e) L k).map DX++[a]).set k b=(nodes (cpE e) L k).map DX++[b]:=fun a b=>by
    rw[List.set_append_right _ _ (by simp [LP])]; simp [LP]
   have hget : ∀ a:List AV,((nodes (cpE e) L k).map DX++[a])[k]? = some a:=fun a=>by
    rw[List.getElem?_append_right (by simp [LP])]; simp [LP]
   have d5:D8 Tryz.prog H' 46 (.ptr b5 0 0)=some v:=by rw[DY VT I2.g5 (row := [v]) rfl]; rfl
   have d7:D8 Tryz.prog H' 48 (.ptr b7 0 0)=some (.agg [.int .i64 23,.int .i64 0,.str ⟨#[]⟩,.own o 0 (insL (cpE e) (part L k)).length]):=AAA N.g7 rfl
   have dl:L9 Tryz.prog 46 v=some (.int .i64 (k:Nat)):=by rw[I2.ho.len WS,LP]
   have ha':GM Tryz.prog true H' 46 46 v (.sl .full 4 [NZ])=some (.own ob 0 (k+1),H3):=ha
   have di:J3 4 H3 (.own ob 0 (k+1)) (.int .i64 (k:Nat))=some (.ptr ob k 0):=by rw[JR hb3 (Nat.lt_succ_self k),jG]
   have s1:FP Tryz.prog H3 48 (.ptr ob k 0) (.agg [.int .i64 23,.int .i64 0,.str ⟨#[]⟩,.own o 0 (insL (cpE e) (part L k)).length])=some (H3.set ob (.live 4 ((nodes (cpE e) L k).map DX++[[.int .i64 23,.int .i64 0,.str ⟨#[]⟩,.own o 0 (insL (cpE e) (part L k)).length]]))):=by
    rw[JQ (QS rfl) N7 hb3 (hget NZ) (jL 4),hset]; rfl
   have g53:=nb _ _ I2.g5 (.inl l5)
   have s2:FP Tryz.prog (H3.set ob (.live 4 ((nodes (cpE e) L k).map DX++[[.int .i64 23,.int .i64 0,.str ⟨#[]⟩,.own o 0 (insL (cpE e) (part L k)).length]]))) 46 (.ptr b5 0 0) (.own ob 0 (k+1)) =
     some ((H3.set ob (.live 4 ((nodes (cpE e) L k).map DX++[[.int .i64 23,.int .i64 0,.str ⟨#[]⟩,.own o 0 (insL (cpE e) (part L k)).length]]))).set b5 (.live 1 [[.own ob 0 (k+1)]])):=by
    rw[MK (cs := [.own ob 0 (k+1)]) rfl (by kernel_rfl:szO Tryz.prog 46=some 1) (CV g53 (by omega)) (by simp)]; rfl
   have hob1:H1.length≤ob:=by have:=I2.hy; omega
   have hoo:o≠ob:=by omega
   have ob5:ob≠b5:=by omega
   have o5':o≠b5:=by omega
   have lob:=CJ hb3
   have t2:FP Tryz.prog H3 46 (.ptr b5 0 0) (.own ob 0 (k+1))=some (H3.set b5 (.live 1 [[.own ob 0 (k+1)]])):=by
    rw[MK (cs := [.own ob 0 (k+1)]) rfl (by kernel_rfl:szO Tryz.prog 46=some 1) g53 (by simp)]; rfl
   have t1:FP Tryz.prog (H3.set b5 (.live 1 [[.own ob 0 (k+1)]])) 48 (.ptr ob k 0) (.agg [.int .i64 23,.int .i64 0,.str ⟨#[]⟩,.own o 0 (insL (cpE e) (part L k)).length])=some ((H3.set ob (.live 4 ((nodes (cpE e) L k).map DX++[[.int .i64 23,.int .i64 0,.str ⟨#[]⟩,.own o 0 (insL (cpE e) (part L k)).length]]))).set b5 (.live 1 [[.own ob 0 (k+1)]])):=by
    rw[JQ (QS rfl) N7 (CV hb3 ob5) (hget NZ) (jL 4),hset,List.set_comm _ _ ob5]; rfl
   simp -implicitDefEqProofs only[vQ,↓reduceIte]
   refine AF4 [] [0,1,2,3,4,5] 6 7 [] (by kernel_rfl) trivial ?_
   simp only[OZ,List.getElem?_cons_succ,List.getElem?_cons_zero]
   simp -implicitDefEqProofs only[vQ,jR,jJ,jO,jQ,wK,IP,QI,↓reduceIte,jB,jM,enP,AAC,jT,f5,f7,d5,d7,dl,A7W,A21,ha',di,s1,s2,t1,t2]
   rw[and_self_iff]
   clear t1 t2 s1 s2
   generalize hrN : [AV.int .i64 23,.int .i64 0,.str ⟨#[]⟩,.own o 0 (insL (cpE e) (part L k)).length]=rowN at *
   have hb4:(H3.set ob (.live 4 ((nodes (cpE e) L k).map DX++[rowN])))[ob]? = some (.live 4 ((nodes (cpE e) L k).map DX++[rowN])):=EG hb3
   have hbo:((H3.set ob (.live 4 ((nodes (cpE e) L k).map DX++[rowN]))).set b5 (.live 1 [[.own ob 0 (k+1)]]))[ob]? = some (.live 4 ((nodes (cpE e) L k).map DX++[rowN])):=CV hb4 ob5
   have ho5:((H3.set ob (.live 4 ((nodes (cpE e) L k).map DX++[rowN]))).set b5 (.live 1 [[.own ob 0 (k+1)]]))[o]? = some (.live 4 ((insL (cpE e) (part L k)).map DX)):=CV (CV (nb _ _ ho2 (.inr ho1)) hoo) o5'
   have gst:=GSt.frz (E:=En G) hbo (hget rowN) (j:=3) (by rw[← hrN]; rfl) ho5 hoo (by simp) (by rw[zU,jW (by simp)]; exact AF9 _)
   have hr6:((nodes (cpE e) L k).map DX++[rowN]).set k (rowN.set 3 (.sl .any 4 ((((insL (cpE e) (part L k)).map DX).drop 0).take (insL (cpE e) (part L k)).length)))=(nodes (cpE e) L (k+1)).map DX:=by
    rw[hset,AEJ,List.map_append,jD,jE,AW9,← hrN,zU,jW (by simp)]; rfl
   rw[hr6] at gst
   refine⟨_,gst,.own ob 0 (k+1),?_⟩
   have keep : ∀ b x,b < H1.length→b≠b5→H'[b]? = some x→(((((H3.set ob (.live 4 ((nodes (cpE e) L k).map DX++[rowN]))).set b5 (.live 1 [[.own ob 0 (k+1)]])).set o .dead).set ob (.live 4 ((nodes (cpE e) L (k+1)).map DX)))[b]? = some x):=fun b x h1 h2 h3 =>
    CV (CV (CV (CV (nb b x h3 (.inl h1)) (by omega)) h2) (by omega)) (by omega)
   have hex:=hext h (by omega) I2.hx
   refine⟨keep _ _ (by omega) (by omega) I2.ge,keep _ _ (by omega) (by omega) I2.g4,CV (CV (EG (CV g53 (by omega))) (by omega)) (by omega),keep _ _ (by omega) (by omega) I2.g2,keep _ _ (by omega) (by omega) I2.g3,.inr ⟨by rw[AEJ]; simp,ob,hob1,by rw[LP],EG (CV hbo hoo.symm)⟩,(((hex.set (by omega) _).set (by omega) _).set (by omega) _).set (by omega) _,by simp; omega⟩
 ·rintro H ⟨v,I⟩
  have hn:=I.ho.len WS
  rw[LP] at hn
  have d5:D8 Tryz.prog H 46 (.ptr b5 0 0)=some v:=by rw[DY VT I.g5 (row := [v]) rfl]; rfl
  have hpe:=parts_eq L
  rcases Classical.em (L = []) with hL0 | hL0
  ·have hz:(((parts L:Nat):Int) == 0)=true:=by rw[hL0]; rfl
   simp -implicitDefEqProofs only[vQ,jR,jJ,jO,jQ,BD,↓reduceIte,jB,enP,d5,hn,hz]
   refine(WP G 0 H).use ?_
   simp -implicitDefEqProofs only[vQ,jR,jJ,jO,jQ,BD,↓reduceIte,jB,enP,jT,AVQ I.g4 rfl]
   rw[Y7 (b:=b4) (by simp -implicitDefEqProofs only[AA,↓reduceIte,jB]) (ATK (EG I.g4))]
   refine⟨I.hx.set (by omega) _,?_⟩
   rw[show Q4 e L=cE 0 by unfold Q4; rw[if_pos hL0],JJ]
   rfl
  have hlp:0 < L.length:=List.length_pos_iff.2 hL0
  have hp0:0 < parts L:=by omega
  have hz:(((parts L:Nat):Int) == 0)=false:=by simp; omega
  obtain⟨ob,rfl,hob1,hob⟩ : ∃ ob,v = .own ob 0 (parts L)∧H1.length≤ob∧H[ob]? = some (.live 4 ((nodes (cpE e) L (parts L)).map DX)):=by
   rcases I.ho with⟨e1,_⟩ | ⟨_,o,h1,h2,h3⟩
   ·have:=congrArg List.length e1
    rw[LP,qM] at this; omega
   ·exact⟨o,by rw[h2,LP],h1,h3⟩
  have hrow : ∀ i,i < parts L→((nodes (cpE e) L (parts L)).map DX)[i]? = some (DX (NW (cpE e) (part L i))):=fun i hi=>by
   have hi':i < (nodes (cpE e) L (parts L)).length:=by rw[LP]; exact hi
   rw[List.getElem?_map,List.getElem?_eq_getElem hi',ATG]; rfl
  have hld : ∀ (H':Hp) i,H'[ob]? = some (.live 4 ((nodes (cpE e) L (parts L)).map DX))→i < parts L→D8 Tryz.prog H' 48 (.ptr ob i 0)=some (.agg (DX (NW (cpE e) (part L i)))):=fun H' i h' hi=>by
   rw[IJ X4 N7 h' (hrow i hi) (by rw[JE]; exact jL 4),zU,← JE (NW (cpE e) (part L i)),List.take_length]
  have i0:J3 4 H (.own ob 0 (parts L)) (.int .i64 0)=some (.ptr ob 0 0):=JR (n:=0) hob hp0
  have hcut : ∀ H':Hp,H'[ob]? = some (.live 4 ((nodes (cpE e) L (parts L)).map DX))→KL Tryz.prog H' 46 (.own ob 0 (parts L)) (some (.int .i64 1)) none none=some (.own ob 1 (parts L - 1)):=fun H' h'=>ALU (l:=1) AGK N7 h' hp0
  have hobH:=CJ hob
  have s10:=AKT H (NW (cpE e) (part L 0)) NZ rfl
  have g10:(H++[ABlk.live 4 [DX (NW (cpE e) (part L 0))]])[H.length]? = some (ABlk.live 4 [DX (WE (cpE e) L 0)]):=CZ H _
  simp -implicitDefEqProofs only[vQ,jR,jJ,jO,jQ,BD,↓reduceIte,jB,enP,AAC,jT,d5,hn,hz,i0,hld H 0 hob hp0,AC4,s10]
  have I3:=I.ext (Sm.ext.app (Sm.ext.rfl' H) [ABlk.live 4 [DX (NW (cpE e) (part L 0))]])
  have hob3:=CX (x:=ABlk.live 4 [DX (NW (cpE e) (part L 0))]) hob
  have d53:D8 Tryz.prog (H++[ABlk.live 4 [DX (NW (cpE e) (part L 0))]]) 46 (.ptr b5 0 0)=some (.own ob 0 (parts L)):=by rw[DY VT I3.g5 (row := [.own ob 0 (parts L)]) rfl]; rfl
  simp -implicitDefEqProofs only[vQ,yA,Option.map_none,jR,jJ,jO,jQ,BD,TE,↓reduceIte,enP,WS,d53,hcut _ hob3]
  have l3:H.length=H.length:=rfl
  generalize hb10:H.length=b10 at g10 ⊢
  have hx3:=I3.hx
  have g43:=I3.g4
  generalize H++[ABlk.live 4 [DX (NW (cpE e) (part L 0))]]=H3 at g10 hob3 hx3 g43 ⊢
  have hle1:=I.hy
  clear I3 I d5 d53 hn i0 s10
  refine DL (fun n F H' => ∃ k,n+k=parts L - 1∧F 4 = .ptr b4 0 0∧F 10 = .ptr b10 0 0∧F 53 = .own ob 1 (parts L - 1)∧F 54 = .int .i64 ((parts L - 1:Nat):Int)∧F 55 = .int .i64 (k:Nat)∧H'[b10]? = some (.live 4 [DX (WE (cpE e) L k)])∧H'[ob]? = some (.live 4 ((nodes (cpE e) L (parts L)).map DX))∧H'[b4]? = some (.live 4 [NZ])∧Sm.ext h H') (parts L - 1)
   ⟨0,by simp,by simp -implicitDefEqProofs only[AA,↓reduceIte,jB],by simp -implicitDefEqProofs only[AA,↓reduceIte,jB],by simp -implicitDefEqProofs only[AA,↓reduceIte,jB],by simp -implicitDefEqProofs only[AA,↓reduceIte,jB],by simp -implicitDefEqProofs only[AA,↓reduceIte] <;> rfl,g10,hob3,g43,hx3⟩ ?_
  clear g10 hob3 g43 hx3
  rintro n F H' ⟨k,hk,f4,f10,f53,f54,f55,g10,gob,g4,hx⟩
  simp -implicitDefEqProofs only[vQ,jR,jJ,jO,jQ,BD,↓reduceIte,enP,f54,f55]
  refine CU (fun hc => ?_) (fun hc => ?_)
  ·have hk':k < parts L - 1:=by simpa using hc
   have ik:J3 4 H' (.own ob 1 (parts L - 1)) (.int .i64 (k:Nat))=some (.ptr ob (k+1) 0):=by rw[JR gob hk',Nat.add_comm]
   have s12:=AKT H' (NW (cpE e) (part L (k+1))) NZ rfl
   have q10:=CX (x:=ABlk.live 4 [DX (NW (cpE e) (part L (k+1)))]) g10
   have q12:=ATK (CZ H' (ABlk.live 4 [DX (NW (cpE e) (part L (k+1)))]))
   have lb10:=CJ g10
   have s10:FP Tryz.prog (H'++[ABlk.live 4 [DX (NW (cpE e) (part L (k+1)))]]) 48 (.ptr b10 0 0) (.agg [.int .i64 20,.int .i64 0,.str ⟨#[]⟩,.sl .full 4 [DX (WE (cpE e) L k),DX (NW (cpE e) (part L (k+1)))]])=some ((H'++[ABlk.live 4 [DX (NW (cpE e) (part L (k+1)))]]).set b10 (.live 4 [DX (WE (cpE e) L (k+1))])):=by
    have:=AVQ (e:=WE (cpE e) L (k+1)) q10 (JE _)
    change FP _ _ _ _ (.agg (DX (orE (WE (cpE e) L k) (NW (cpE e) (part L (k+1))))))=some (List.set _ _ (ABlk.live 4 [DX (orE (WE (cpE e) L k) (NW (cpE e) (part L (k+1))))])) at this
    show _=some (List.set _ _ (ABlk.live 4 [DX (orE (WE (cpE e) L k) (NW (cpE e) (part L (k+1))))]))
    rw[AZ9] at this ⊢
    exact this
   simp -implicitDefEqProofs only[vQ,jR,jJ,jO,jQ,BD,↓reduceIte,jB,enP,AAC,jT,f10,f53,f55,ik,hld H' (k+1) gob (by omega),AC4,s12,ATK q10,q12,AYF,A7M,s10,wrap_succ (show k < 9223372036854775807 by omega)]
   exact⟨n - 1,by omega,k+1,by omega,by first | exact True.intro | exact f4,by first | exact True.intro | exact f10,by first | exact True.intro | exact f53,by first | exact True.intro | exact f54,by first | exact True.intro | exact rfl,EG q10,CV (CX gob) (by omega),CV (CX g4) (by omega),(hx.app _).set (by omega) _⟩
  ·have hk':k=parts L - 1:=by have : ¬ k < parts L - 1:=by simpa using hc
                              omega
   subst hk'
   simp -implicitDefEqProofs only[vQ,jR,jJ,jO,jQ,BD,↓reduceIte,jB,enP,jT,f4,f10,ATK g10,AVQ g4 rfl]
   rw[Y7 (b:=b4) (by simp -implicitDefEqProofs only[AA,↓reduceIte,jB,f4]) (ATK (EG g4))]
   refine⟨hx.set (by omega) _,?_⟩
   rw[ACH e L hL0,JJ]
   rfl
end
def growR_ren:Go.Shelf.Ren:=⟨fun | 4=>67 | n=>n,fun | 22=>46 | 25=>48 | 3=>3 | 4=>4 | 9=>9 | 20=>20 | 0=>0 | n=>n,fun | n=>n⟩
theorem A2R:Go.Proofs.Lays8.n4 Tryz.prog growR_ren := {
 mixed:=by kernel_rfl,
 f4:=⟨Tryz.f67.name,by decide,Tryz.func67.trans (congrArg some (by kernel_rfl))⟩,
 t0:=Tryz.underlying0,
 a0:=Tryz.isAgg0,
 z0:=Tryz.sizeOf0,
 v0:=Tryz.zeroValue0,
 t3:=Tryz.underlying3,
 a3:=Tryz.isAgg3,
 z3:=Tryz.sizeOf3,
 v3:=Tryz.zeroValue3,
 t4:=Tryz.underlying4,
 a4:=Tryz.isAgg4,
 z4:=Tryz.sizeOf4,
 v4:=Tryz.zeroValue4,
 t9:=Tryz.underlying9,
 a9:=Tryz.isAgg9,
 z9:=Tryz.sizeOf9,
 v9:=Tryz.zeroValue9,
 t20:=Tryz.underlying20,
 a20:=Tryz.isAgg20,
 z20:=Tryz.sizeOf20,
 v20:=Tryz.zeroValue20,
 t22:=Tryz.underlying46,
 a22:=Tryz.isAgg46,
 z22:=Tryz.sizeOf46,
 v22:=Tryz.zeroValue46 }
theorem AZE (z:Array Value)(n:Nat):(Builtin.zeroCells z n).size=n * z.size:=by simp [Builtin.zeroCells]
theorem AT1 (G:Nat→AV)(n:Nat)(hn:n≤1048576)(h:Hp):ACalls (En G) 67 [.sl .nil 0 [],.int .i64 (n:Nat)] h fun v H=>(n=0∧v = .sl .nil 0 []∧H=h)∨(0 < n∧v = .own h.length 0 0∧H=h++[.live 4 []]):=by
 refine⟨cok 67 G (by kernel_rfl),fun g w cargs S ha => ?_⟩
 obtain⟨hsz,hget⟩:=ha
 obtain⟨cv0,cv1,rfl⟩ : ∃ a b,cargs = #[a,b]:=by
  obtain⟨l⟩:=cargs
  match l,hsz with
  | [a,b],_=>exact⟨a,b,rfl⟩
 have r0:=(hget 0 _ cv0 rfl rfl).sl_inv
 obtain rfl:=(hget 1 _ cv1 rfl rfl).int_inv
 have hnil:cv0 = .slice none 0 0:=by
  cases r0 with
  | nil=>rfl
  | empty _ _ _ _ q=>exact absurd rfl q
  | sl _ _ _ _ _ _ _ _ _ _ _ q=>exact absurd rfl q
 subst hnil
 rcases Nat.eq_zero_or_pos n with h0 | h0
 ·subst h0
  refine(Any8.slices_Grow_room A2R none 0 0 0 w (jL _) (by omega) (by omega) (jL _)).mono ?_
  rintro e w' ⟨rfl,rfl⟩
  exact⟨_,_,g,h,rfl,.inl ⟨rfl,rfl,rfl⟩,Gh.le.refl g,S,.fro (.nil 0)⟩
 ·have i0:Tryz.prog.info? 48=some Tryz.t48:=by kernel_rfl
  have hz:Tryz.t48.zero.isSome=true:=by kernel_rfl
  obtain⟨z,hz⟩:=Option.isSome_iff_exists.1 hz
  have hs:Tryz.t48.size=4:=by kernel_rfl
  have hb:Tryz.t48.bytes≤64:=jI (by kernel_rfl)
  have hmul:n * Tryz.t48.bytes≤1048576 * 64:=Nat.mul_le_mul hn hb
  have hzs:z.cells.size=4:=by
   have h1:(Tryz.t48.zero.map fun z=>z.cells.size)=some 4:=by kernel_rfl
   rw[hz] at h1; simpa using h1
  have hc:=Any8.slices_Grow_grow A2R Tryz.t48 z i0 hz (by rw[hs]; omega) none 0 0 n [] w (jL _) (by omega) (by rw[jG]; omega) (by omega) (by simp) (fun _=>rfl) (fun a q=>by cases q)
  refine hc.mono ?_
  rintro e w' ⟨rfl,rfl⟩
  generalize hG:grownCap w (0+n) 0 (growR_ren.t 25)=cap
  have hle:0+n≤cap:=hG ▸ grownCap_ge w _ _ _
  have hgr:Grew w (w.drew.alloc (.cells ((#[]:Array Value)++Builtin.zeroCells z.cells (0+n - 0)++Builtin.zeroCells z.cells (cap - (0+n))) (growR_ren.t 25))) (.cells ((#[]:Array Value)++Builtin.zeroCells z.cells (0+n - 0)++Builtin.zeroCells z.cells (cap - (0+n))) (growR_ren.t 25) (0,0)):=⟨rfl,rfl,rfl,rfl⟩
  have hsize:((#[]:Array Value)++Builtin.zeroCells z.cells (0+n - 0)++Builtin.zeroCells z.cells (cap - (0+n))).size=cap * 4:=by
   simp only[Array.size_append,AZE,hzs,List.size_toArray,qM]; omega
  generalize ((#[]:Array Value)++Builtin.zeroCells z.cells (0+n - 0)++Builtin.zeroCells z.cells (cap - (0+n)))=c at hgr hsize
  obtain⟨S',hle'⟩:=S.new (k:=4) (xs := []) hgr ⟨by simp,fun i row h=>by simp at h,fun i j row v h=>by simp at h⟩
  refine⟨_,_,_,_,rfl,.inr ⟨h0,rfl,rfl⟩,hle',S',?_⟩
  exact Rep.own h.length 0 0 cap ⟨w.heap.size,0,4,c.size⟩ (by simp [Gh.adopt]) (Nat.zero_le _) (by simp only[hsize]; omega)
end Go.Proofs.YtfpagfhhhlljjaaGreatDoor.Ho
