/- Part 5 of the proof (O15, O16, O18, O19, Sy, O21, O22, O23, S1, S2, O25, P2, O32, O26, O27, O28, O29, O30, O24, O31, O33, S3, S4, W4, W5, S7, J1, J2, J3, O34, O35, O36, O42, J4, J5, J6, S5, J7, O37); no condition. -/
import Derived.Shelf.Spec.SlicesGrow
import Derived.Test.YtiihpnicbekebaaGreatDoorCI4
set_option linter.unusedVariables false
set_option linter.unusedSimpArgs false
set_option maxRecDepth 8000
set_option maxHeartbeats 8000000
open Go.Proofs.YtiihpnicbekebaaGreatDoor.Sm.ABlk renaming live→zZ
open Bool renaming and_eq_true→jU,eq_iff_iff→wO,false_eq_true→zY,not_false→jE,or_eq_false_iff→wC,or_eq_true→qJ,or_false→zK
open Go.Proofs.Tryz renaming prog→jA
open Int renaming toNat_natCast→wB
open List renaming all_cons→wQ,all_eq_true→zH,any_eq_false→qU,any_eq_true→qL,append_nil→jQ,contains_cons→jW,contains_nil→jR,drop_eq_nil_of_le→jX,drop_zero→zI,eq_nil_of_length_eq_zero→qO,foldl_cons→qP,getElem?_append_left→qC,getElem?_eq_getElem→jM,getElem?_map→jZ,getElem?_set_ne→zX,getElem?_set→zN,getElem_mem→jH,getElem_of_mem→qZ,length_append→zA,length_cons→zO,length_eq_zero_iff→wJ,length_map→jJ,length_nil→zJ,length_pos_iff→qV,length_set→qX,length_take→jV,length→qK,map_append→qN,map_congr_left→wG,map_cons→jK,map_map→qM,map_nil→jP,mem_append→zV,mem_cons→zM,mem_map→zQ,mem_singleton→wI,range→zL,replicate→zD,take_of_length_le→jI,take_succ_eq_append_getElem→jY,take_zero→qB
open Nat renaming add_mul→qE,add_zero→jT,le_of_ble_eq_true→jC,le_refl→jF,lt_or_ge→zF,reduceAdd→jL,reduceBEq→jS,reduceEqDiff→jB,zero_add→jG,zero_le→qF
open Option renaming getD_none→jO,getD_some→jD
namespace Go.Proofs.YtiihpnicbekebaaGreatDoor.Ho
open Sm Bins Cov Go.RowKit
variable {e:Ex}
theorem ATQ {P:Program}{t e:TypeId}{k:Nat}(hu:P.underlying t=some (.slice e))(hs:szO P e=some k){h:Hp}{m:SM}{xs:List (List AV)}{l u:Nat}(h1:l<=u)(h2:u<=xs.length):
  IX P h t (.sl m k xs) (some (.n (l:Int))) (some (.n (u:Int))) none=some (.sl (wN m u xs.length) k ((xs.drop l).take (u-l))):=by
 have b1:G6 (some (.n (u:Int))) (some xs.length)=some u:=by simp [G6]
 have b2:G6 (some (.n (l:Int))) (some 0)=some l:=by simp [G6]
 simp only[IX,hu,b1,b2,hs,true_and];rw[if_pos ⟨h1,h2⟩];cases m<;>simp [wN]
def orE (a b:Ex):Ex:=.mk 20 0 ⟨#[]⟩ .full [a,b]
def rR (e:Ex)(l:List Rng):Nat->Nat->Ex->Ex
 | 0,_,out=>out
 | f+1,i,out=>if i<l.length then rR e l f (i+16) (orE out (IE e ((l.drop i).take (min l.length (i+16)-i)))) else out
def QP (e:Ex)(l:List Rng):Ex:=rR e l l.length 16 (IE e (l.take (min l.length 16)))
theorem AK5 {l:List Rng}{n i:Nat}{out:Ex}(h:¬i<l.length):rR e l n i out=out:=by
 cases n with
 | zero=>rfl
 | succ n=>show(if i<l.length then _ else out)=out; rw[if_neg h]
theorem bD (h:Hp)(a b:Ex):C9 jA false h 23 2 [(0,.agg (AU a)),(1,.agg (AU b))]=some (.sl .full 4 [AU a,AU b],h):=by
 rw[EW a,EW b];generalize a.args.map AU=xs;generalize b.args.map AU=ys
 kernel_rfl
theorem ASB (xs:List (List AV)):G7 jA 79 [(0,.n 20),(3,.sl .full 4 xs)]=some (.agg [.n 20,.n 0,.str ⟨#[]⟩,.sl .full 4 xs]):=A8
theorem uM (a b:Ex):AU (orE a b)=[.n 20,.n 0,.str ⟨#[]⟩,.sl .full 4 [AU a,AU b]]:=by rw[EW]; rfl
theorem V7 (xs:List Rng):(normal xs).length<=xs.length:=by
 unfold normal Y6;have h1:=Y5 ((xs.filter full).mergeSort fK) [];have h2:=List.length_filter_le full xs;rw[List.length_mergeSort] at h1;simp only[List.length_nil,Nat.zero_add] at h1;omega
theorem AA1 (G:Nat->AV)(xs:List Rng)(m:SM)(h:Hp)(hl:xs.length<=8388608):PCall (En G) 308 [.sl m 2 (xs.map encR)] h (.sl (Bins.nm (normal xs)) 2 ((normal xs).map encR)):=rI (AA2 G xs m h hl)
structure Io (h H:Hp) (e out:Ex) (b4 cb:Nat):Prop where
 ge:H[h.length]?=some (zZ 4 [AU e])
 g4:H[b4]?=some (zZ 4 [[.n 0,.n 0,.str ⟨#[]⟩,.sl .nil 0 []]])
 gc:H[cb]?=some (zZ 4 [AU out])
 o4:h.length<b4
 oc:b4<cb
 hx:ext h H
theorem ND {H:Hp}{b:Nat}(hb:H[b]?=some (zZ 4 [AU e])):BU jA H 79 (.ptr b 0 0)=some (.agg (AU e)):=KE hb (EP e)
theorem PH {H:Hp}{b:Nat}{row:List AV}(hb:H[b]?=some (zZ 4 [row]))(hr:row.length=4):DW jA H 79 (.ptr b 0 0) (.agg (AU e))=some (H.set b (zZ 4 [AU e])):=TW hb hr (EP e) (VA e)
theorem bT (G:Nat->AV)(e:Ex)(xs:List Rng)(s:SM)(hl:xs.length<=1048576)(h:Hp):PCall (En G) 268 [.agg (AU e),.sl s 2 (xs.map encR)] h (.agg (AU (QP e (normal xs)))):=by
 refine ACalls.pure (R:=fun v H=>ext h H∧FN h.length H 3 v=.agg (AU (QP e (normal xs)))) 3 ?_ (fun v H ⟨a,b⟩=>⟨a,b⟩);refine H6 (H:=hint [17,33] []) (enM G) Tryz.func268 rfl (by kernel_rfl) (by kernel_rfl) (Nat.le_of_ble_eq_true (by kernel_rfl)) ?_;show awp _ _ _ _ _ (LU _ [.cell 4 79] _);have ge:=AL (x:=zZ 4 [[.n 0,.n 0,.str ⟨#[]⟩,.sl .nil 0 []]]) (A7 h (zZ 4 [AU e]));have g4:=A7 (h++[zZ 4 [AU e]]) (zZ 4 [[.n 0,.n 0,.str ⟨#[]⟩,.sl .nil 0 []]]);have hx:ext h (h++[zZ 4 [AU e]]++[zZ 4 [[.n 0,.n 0,.str ⟨#[]⟩,.sl .nil 0 []]]]):=((ext.rfl' h).app _).app _;have hb4:h.length<(h++[zZ 4 [AU e]]).length:=BA;refine BB @bxE O3 ?_
 generalize h++[zZ 4 [AU e]]++[zZ 4 [[.n 0,.n 0,.str ⟨#[]⟩,.sl .nil 0 []]]]=H0 at ge g4 hx|-
 generalize (h++[zZ 4 [AU e]]).length=b4 at g4 hb4|-
 have l4:=AC g4;refine(AA1 G xs s H0 U).use ?_;have hnl:=V7 xs
 generalize normal xs=L at hnl|-
 generalize Bins.nm L=sL;have e1:min ((L.length:Nat):Int) 16=((min L.length 16:Nat):Int):=U
 have hs1:∀H:Hp,IX jA H 84 (.sl sL 2 (L.map encR)) none (some (.n ((min L.length 16:Nat):Int))) none=some (.sl (wN sL (min L.length 16) L.length) 2 ((L.take (min L.length 16)).map encR)):=fun H=>by
  have:=AG9 UH J4 (h:=H) (m:=sL) (kk:=.i64) (xs:=L.map encR) (u:=min L.length 16) NU;rw[<-List.map_take,jJ] at this;exact this
 have I0:Io h (H0++[zZ 4 [AU (IE e (L.take (min L.length 16)))]]) e (IE e (L.take (min L.length 16))) b4 H0.length:=⟨AL ge,AL g4,A7 _ _,hb4,l4,hx.app _⟩;have st0:=iB H0 (IE e (L.take (min L.length 16))) [.n 0,.n 0,.str ⟨#[]⟩,.sl .nil 0 []] rfl;refine AO ?_;refine DV A8 ?_;refine MV @iN @iM @sT (ND ge) e1 hs1 ?_;refine⟨_,fun x=>gQ G e (L.take (min L.length 16)) _ (by rw[jV]; omega) _,?_⟩
 try refine BB O3 st0 ?_
 generalize H0++[zZ 4 [AU (IE e (L.take (min L.length 16)))]]=H1 at I0|-
 generalize H0.length=cb at I0|-
 clear st0 ge g4 hx l4
 refine BI (fun n F H=>∃i out,L.length<=i+n∧i<=1048608∧F 2=.ptr h.length 0 0∧F 4=.ptr b4 0 0∧F 5=.sl sL 2 (L.map encR)∧F 6=.ptr cb 0 0∧F 7=.n (i:Nat)∧Io h H e out b4 cb∧QP e L=rR e L n i out) L.length
  ⟨16,_,U,U,AQ,AQ,AQ,AQ,AQ,I0,rfl⟩ ?_
 clear I0;rintro n F H ⟨i,out,hi,hib,f2,f4,f5,f6,f7,I,hr⟩;refine BB f5 f7 ?_;refine D8 ?_ ?_<;>intro hi'
 .obtain⟨n',rfl⟩:∃n',n=n'+1:=⟨n-1,U⟩
  have hr2:QP e L=rR e L n' (i+16) (orE out (IE e ((L.drop i).take (min L.length (i+16)-i)))):=by
   rw[hr];show(if i<L.length then _ else _)=_;rw[if_pos hi']
  have w1:IntKind.i64.wrap (((i:Nat):Int)+16)=((i+16:Nat):Int):=by rw[wrap_i64 U U]; omega
  have e2:min ((L.length:Nat):Int) ((i+16:Nat):Int)=((min L.length (i+16):Nat):Int):=U
  have hs2:∀H:Hp,IX jA H 84 (.sl sL 2 (L.map encR)) (some (.n (i:Nat))) (some (.n ((min L.length (i+16):Nat):Int))) none=some (.sl (wN sL (min L.length (i+16)) L.length) 2 (((L.drop i).take (min L.length (i+16)-i)).map encR)):=fun H=>by
   have:=ATQ UH J4 (h:=H) (m:=sL) (xs:=L.map encR) (l:=i) (u:=min L.length (i+16)) U NU;rw[<-List.map_drop,<-List.map_take,jJ] at this;exact this
  have hml:((L.drop i).take (min L.length (i+16)-i)).length<=1048576:=by rw[jV,List.length_drop]; omega
  generalize (L.drop i).take (min L.length (i+16)-i)=M at hr2 hs2 hml;have oc:=I.oc;have o4:=I.o4;have lcb:=AC I.gc;have gc2:=AL (x:=zZ 4 [AU (IE e M)]) I.gc;have gT:=ND (A7 H (zZ 4 [AU (IE e M)]));have st2:=iB H (IE e M) [.n 0,.n 0,.str ⟨#[]⟩,.sl .nil 0 []] rfl
  have st3:DW jA (H++[zZ 4 [AU (IE e M)]]) 79 (.ptr cb 0 0) (.agg [.n 20,.n 0,.str ⟨#[]⟩,.sl .full 4 [AU out,AU (IE e M)]])=some ((H++[zZ 4 [AU (IE e M)]]).set cb (zZ 4 [AU (orE out (IE e M))])):=by
   have:=PH (e:=orE out (IE e M)) gc2 (EP _)
   rw[uM] at this|-
   exact this
  have I2:Io h ((H++[zZ 4 [AU (IE e M)]]).set cb (zZ 4 [AU (orE out (IE e M))])) e (orE out (IE e M)) b4 cb:=⟨CZ (AL I.ge) U,CZ (AL I.g4) U,CP gc2,o4,oc,(I.hx.app _).set U _⟩;refine AO ?_;refine DV A8 ?_;refine YN @iN @iM @sT f2 f5 f7 (ND I.ge) w1 e2 hs2 ?_;refine⟨_,fun x=>gQ G e M _ hml _,?_⟩
  try refine YN O3 st2 f6 (ND gc2) @gT @bD @ASB st3 f7 w1 ?_
  exact⟨n',U,i+16,_,U,U,AZ,AZ,AZ,AZ,AZ,I2,hr2⟩
 .rw[AK5 hi'] at hr
  have o4:=I.o4;simp -implicitDefEqProofs only[vQ,List.contains_cons,List.contains_nil,Nat.reduceBEq,Bool.or_false,Q7,XB,YI,lA,CV,↓reduceIte,Nat.reduceEqDiff,Option.getD_some,Bool.not_false,enP,Option.getD_none,f4,f6,ND I.gc,PH I.g4 rfl];rw[JO (b:=b4) (EM f4) (ND (CP I.g4))];refine⟨I.hx.set U _,?_⟩;rw[hr,EW];rfl
end Go.Proofs.YtiihpnicbekebaaGreatDoor.Ho
namespace Go.Proofs.YtiihpnicbekebaaGreatDoor.Ho
open Sm Bins Cov Wd Xe Go.RowKit
structure Xs where
 m:SM
 l:List Ex
def AYE (x:Xs):List AV:=[.sl x.m 4 (x.l.map AU)]
end Go.Proofs.YtiihpnicbekebaaGreatDoor.Ho
namespace Go.Proofs.YtiihpnicbekebaaGreatDoor.Ho
open Sm Bins Cov Go.RowKit
variable {H:Hp} {b:Nat} {e:Ex}
section
variable (G:Nat->AV)
theorem AAO (m:Mo)(x:Hl)(hc:x.cross=true)(i:Nat)(hi:i<m.crs.length)(hz:x.idx=(i:Int))(h:Hp):PCall (En G) 94 [.agg (DJ m),.agg (FQ x)] h (.sl m.crs[i].pm 1 (m.crs[i].pts.map qencI)):=by
 refine ACalls.pure0 rfl ?_;refine acT Tryz.func94 4 ?_;have t:=Hb.mk' h m x;refine BB @bxM @bxH ?_
 generalize h++[zZ 2 [DJ m]]++[zZ 3 [FQ x]]=H at t|-
 generalize (h++[zZ 2 [DJ m]]).length=hb at t|-
 have l0:=ALC t.gh;have l1:=oZ t.gh;rw[hc] at l0;rw[hz] at l1;simp -implicitDefEqProofs only[vQ,MZ,NS,CV,↓reduceIte,jB,enP,UN,MM,UO,MB,l0,l1,aU t.gm,CQ hi,CG O6 hi,UD];exact⟨AZ,t.hx⟩
theorem AAN (m:Mo)(x:Hl)(hc:x.cross=false)(h:Hp):PCall (En G) 94 [.agg (DJ m),.agg (FQ x)] h (.sl .full 1 ([x.idx].map qencI)):=by
 refine ACalls.pure0 rfl ?_;refine acT Tryz.func94 4 ?_;have t:=Hb.mk' h m x;refine BB @bxM @bxH ?_
 generalize h++[zZ 2 [DJ m]]++[zZ 3 [FQ x]]=H at t|-
 generalize (h++[zZ 2 [DJ m]]).length=hb at t|-
 have l0:=ALC t.gh;rw[hc] at l0;refine DT l0 (oZ t.gh) AMM ?_;exact⟨AZ,t.hx⟩
end
theorem lx0 (hb:H[b]?=some (zZ 4 [AU e])):BU jA H 3 (.ptr b 0 0)=some (.n e.op):=by rw[BL ag3 hb (row:=AU e) rfl,EW]; rfl
theorem lx1 (hb:H[b]?=some (zZ 4 [AU e])):BU jA H 3 (.ptr b 0 1)=some (.n e.n):=by rw[BL ag3 hb (row:=AU e) rfl,EW]; rfl
theorem lx2 (hb:H[b]?=some (zZ 4 [AU e])):BU jA H 9 (.ptr b 0 2)=some (.str e.name):=by rw[BL ag9 hb (row:=AU e) rfl,EW]; rfl
theorem ARN {a b:Ex}(h:cpE a=cpE b):a.op=b.op∧a.n=b.n∧a.name=b.name∧a.args.map cpE=b.args.map cpE:=by
 rw[TF a,TF b] at h
 injection h with h1 h2 h3 _ h5
 exact⟨h1,h2,h3,h5⟩
theorem AEJ (G:Nat->AV):∀(w:Nat) (a b:Ex) (h:Hp),wt a<=w->wt a<=274877906944->cpE a=cpE b->PCall (En G) 133 [.agg (AU a),.agg (AU b)] h (.bool true):=by
 intro w
 induction w with
 | zero=>intro a b h h1 _ _; have:=LX a; omega
 | succ w ih =>
   intro a b h h1 h2 hcp;obtain⟨p1,p2,p3,p4⟩:=ARN hcp;have hlen:=TR a.args;have hwt:=LX a;have hll:a.args.length=b.args.length:=by have:=congrArg List.length p4; simpa using this
   refine ACalls.pure0 rfl ?_;refine acT Tryz.func133 4 ?_;have ga:=AL (x:=zZ 4 [AU b]) (A7 h (zZ 4 [AU a]));have gb:=A7 (h++[zZ 4 [AU a]]) (zZ 4 [AU b]);have hx:ext h (h++[zZ 4 [AU a]]++[zZ 4 [AU b]]):=((ext.rfl' h).app _).app _;refine BC @bxE ?_
   generalize h++[zZ 4 [AU a]]++[zZ 4 [AU b]]=H at ga gb hx|-
   generalize (h++[zZ 4 [AU a]]).length=bb at gb|-
   simp -implicitDefEqProofs only[vQ,EJ,CV,VD,↓reduceIte,jB,Nat.add_zero,Bool.not_true,enP,AE8,WB,mS,eZ,X8,lx0 ga,lx0 gb,lx1 ga,lx1 gb,lx2 ga,lx2 gb,Rk.ldE' ga,Rk.ldE' gb,List.length_map,p1,p2,p3,hll,bne,beq_self_eq_true];refine BI (fun n F H'=>∃k,n+k=a.args.length∧F 2=.ptr h.length 0 0∧F 3=.ptr bb 0 0∧F 5=.n (k:Nat)∧H'=H) a.args.length ⟨0,BA,AQ,AQ,AQ,rfl⟩ ?_;rintro n F H' ⟨k,hk,f2,f3,f5,rfl⟩;refine DT f2 f5 (Rk.ldE' ga) ?_;refine CE ?_ ?_<;>intro hc
   .have hk':k<a.args.length:=BN hc
    have hkb:k<b.args.length:=U;have hlt:=Rk.wt_arg hk'
    have hce:cpE a.args[k]=cpE b.args[k]:=by
     have e1:(a.args.map cpE)[k]?=(b.args.map cpE)[k]? := by rw[p4]
     rw[jZ,jZ,jM hk',jM hkb] at e1;simpa using e1
    refine AO ?_;refine DV A8 ?_;simp -implicitDefEqProofs only[vQ,AM7,NH,MF,bV,List.map_cons,List.map_nil,lAn,↓reduceIte,jB,Nat.reduceAdd,enP,RN,X8,f2,f3,f5,Rk.ldE' ga,Rk.ldE' gb,CQ hk',CQ hkb,DR O5 JL EP hk',DR O5 JL EP hkb];refine⟨_,ih a.args[k] b.args[k] _ U U hce,?_⟩
    try refine BB f5 (DF k) ?_
    exact⟨n-1,U,k+1,U,AZ,AZ,AZ,AZ⟩
   .refine AO ?_
    exact⟨AZ,hx⟩
end Go.Proofs.YtiihpnicbekebaaGreatDoor.Ho
namespace Go.Proofs.YtiihpnicbekebaaGreatDoor.Sm

theorem GSt.refl (E:Env)(h:Hp):GSt E h h:=fun g _ S=>⟨g,Gh.le.refl g,S⟩
theorem GSt.trans {E:Env}{a b c:Hp}(h1:GSt E a b)(h2:GSt E b c):GSt E a c:=fun g w S =>
 let ⟨g1,l1,S1⟩:=h1 g w S; let ⟨g2,l2,S2⟩:=h2 g1 w S1; ⟨g2,l1.trans l2,S2⟩
theorem GSt.kill (E:Env)(h:Hp)(b:Nat):GSt E h (h.set b .dead):=fun g _ S=>⟨g,Gh.le.refl g,S.kill b⟩
theorem GSt.frz {E:Env}{h:Hp}{b k i j o off len k':Nat}{xs ys:List (List AV)}{row:List AV}(hb:h[b]?=some (zZ k xs))(hi:xs[i]?=some row)(hj:row[j]?=some (.own o off len))(ho:h[o]?=some (zZ k' ys))
  (hne:o≠b) (hle:off+len<=ys.length) (hfz:LC ((ys.drop off).take len)=true) :
  GSt E h ((h.set o .dead).set b (zZ k (xs.set i (row.set j (.sl .any k' ((ys.drop off).take len)))))):=by
 intro g w S;obtain⟨lo,co,eo,p1,p2,p3,p4,p5,p6,p7,p8⟩:=S.live o k' ys ho;have S1:=S.kill o;have u:=MJ S ho BA p1;have S2:=S1.freeze p4 p3 u;have hg:g.le (g.freeze lo.cb (.cells co eo (0,0))):=Gh.freeze_le p3;have hM:(g.freeze lo.cb (.cells co eo (0,0))).M lo.cb=some (.cells co eo (0,0)):=by simp [Gh.freeze]
 refine⟨_,hg,?_⟩
 generalize g.freeze lo.cb (.cells co eo (0,0))=g' at S2 hg hM|-
 obtain⟨l,c,e,q1,q2,q3,q4,q5,q6,q7,q8⟩:=S.live b k xs hb;have hb2:(h.set o .dead)[b]?=some (zZ k xs):=by rw[List.getElem?_set_ne hne]; exact hb
 obtain⟨l',c',e',r1,r2,r3,r4,r5,r6,r7,r8⟩:=S2.live b k xs hb2;have hl:l=l':=by have:=hg.μ _ _ q1; rw[r1] at this; cases this; rfl
 subst hl;have hc:c=c':=by rw[q4] at r4; cases r4; rfl
 subst hc;simp only[LC,List.all_eq_true] at hfz
 have key:∀cv,Rep g (.own o off len) cv->Rep g' (.sl .any k' ((ys.drop off).take len)) cv:=by
  intro cv hr
  have:=aO (φ:=id) S ho p1 p4 hM hle hr (fun row hrow v hv=>by
   obtain⟨i,hi,rfl⟩:=qZ hrow;obtain⟨j',hj',rfl⟩:=qZ hv;refine⟨?_,fun cv hcv=>(AV.frozen_rep (hfz _ hrow _ hv) hcv).mono hg.M⟩;have:=hfz _ hrow _ hv
   revert this
   generalize (((ys.drop off).take len)[i])[j']=y;intro this
   cases y<;>simp_all [AV.frozen,AV.leaf])
  have hid:((ys.drop off).take len).map (·.map id)=(ys.drop off).take len:=by
   have:(fun x:List AV=>x.map id)=id:=by funext x; simp
   rw[this,List.map_id]
  rw[hid] at this;exact .fro this
 have S3:=S2.kill b;have u2:=MJ S2 hb2 BA r1;have:=S3.revive (xs:=xs.set i (row.set j (.sl .any k' ((ys.drop off).take len)))) r1 r4 r5 r3 u2 ?_
 .rw[List.set_set,r2] at this; exact this
 rw[r2]
 have hrw:∀(i':Nat) (row':List AV),(xs.set i (row.set j (.sl .any k' ((ys.drop off).take len))))[i']?=some row'->(i'=i∧row'=row.set j (.sl .any k' ((ys.drop off).take len)))∨(i'≠i∧xs[i']?=some row'):=by
  intro i' row' h';rw[zN] at h';split at h'
  .rename_i e1
   split at h'<;>simp at h';exact .inl ⟨e1.symm,h'.symm⟩
  .rename_i e1; exact .inr ⟨fun q=>e1 q.symm,h'⟩
 refine⟨by rw[qX,r5]; exact r6,?_,?_⟩
 .intro i' row' h'
  rcases hrw i' row' h' with⟨rfl,rfl⟩|⟨_,h2⟩
  .refine⟨by rw[qX]; exact(r7 _ _ hi).1,fun j' v hv=>?_⟩
   rw[zN] at hv;split at hv
   .split at hv<;>simp at hv
    subst hv; rfl
   .exact(r7 _ _ hi).2 j' v hv
  .exact r7 _ _ h2
 .intro i' j' row' v h' hv
  rcases hrw i' row' h' with⟨rfl,rfl⟩|⟨_,h2⟩
  .rw[zN] at hv
   split at hv
   .rename_i e1
    split at hv<;>simp at hv;subst hv; subst e1;obtain⟨cv,s1,s2⟩:=q8 _ _ _ _ hi hj;exact⟨cv,s1,key cv s2⟩
   .exact r8 _ _ _ _ hi hv
  .exact r8 _ _ _ _ h2 hv
end Go.Proofs.YtiihpnicbekebaaGreatDoor.Sm
namespace Go.Proofs.YtiihpnicbekebaaGreatDoor.Ho
open Sm Bins Cov Go.RowKit
variable {k:Nat} {H h:Hp} {v:AV}
theorem knP (E:Env)(g:Gh):(E.know g).P=E.P:=rfl
theorem knG (E:Env)(g:Gh):(E.know g).G=E.G:=rfl
def sI (m:SM):SM:=match m with|.nil=>.nil|_=>.full
theorem A6L {P:Program}{t e:TypeId}(hu:P.underlying t=some (.slice e))(hs:szO P e=some k){m:SM}{xs:List (List AV)}{l u:Nat}(h1:l<=u)(h2:u<=xs.length):
  IX P h t (.sl m k xs) (some (.n (l:Int))) (some (.n (u:Int))) (some (.n (u:Int)))=some (.sl (sI m) k ((xs.drop l).take (u-l))):=by
 have b1:G6 (some (.n (u:Int))) (some xs.length)=some u:=by simp [G6]
 have b2:G6 (some (.n (l:Int))) (some 0)=some l:=by simp [G6]
 have b3:G6 (some (.n (u:Int))) none=some u:=by simp [G6]
 simp only[IX,hu,b1,b2,b3,hs,true_and];rw[if_pos ⟨h1,jF _,h2,rfl⟩];cases m<;>simp [sI]
def part (L:List Rng)(k:Nat):List Rng:=(L.drop (16*k)).take 16
def parts (L:List Rng):Nat:=(L.length+15)/16
theorem AF6 (G:Nat->AV)(L:List Rng)(m:SM)(hl:L.length<=1048576)(b2 b3:Nat)(I:Nat->Hp->Prop)(hI:∀k h,I k h->h[b2]?=some (zZ 1 [[.sl m 2 (L.map encR)]])∧h[b3]?=some (zZ 1 [[.n 16]])):
  Iter (En G) 292 [.ptr b2 0 0,.ptr b3 0 0] (parts L) (fun k=>[.sl (sI m) 2 ((part L k).map encR)]) I:=by
 intro l g0 hY h h0;refine H6 (H:=Hint.none) (enM G) Tryz.func292 rfl (by kernel_rfl) (by kernel_rfl) (jC (by kernel_rfl)) ?_;show awp _ _ _ _ _ (LU _ [] _);refine BB @knP @knG ?_
 refine BI (fun n F H=>∃k,n+k=parts L∧F 0=.fn (.yield l) [] []∧F 1=.ptr b2 0 0∧F 2=.ptr b3 0 0∧F 4=.n ((16*k:Nat):Int)∧I k H) (parts L)
  ⟨0,BA,AQ,AQ,AQ,AQ,h0⟩ ?_
 rintro n F H ⟨k,hk,f0,f1,f2,f4,hIk⟩;obtain⟨g2,g3⟩:=hI k H hIk;have l2:BU jA H 84 (.ptr b2 0 0)=some (.sl m 2 (L.map encR)):=by rw[BL QI g2 (row:=[.sl m 2 (L.map encR)]) rfl]; rfl
 have l3:BU jA H 3 (.ptr b3 0 0)=some (.n 16):=by rw[BL ag3 g3 (row:=[.n 16]) rfl]; rfl
 have hp:parts L=(L.length+15)/16:=rfl;refine I7 @knP @knG f1 f4 l2 ?_;refine D8 ?_ ?_<;>intro hk'
 .have hkn:k<parts L:=U
  have hs1:IX jA H 84 (.sl m 2 (L.map encR)) (some (.n ((16*k:Nat):Int))) none none=some (.sl m 2 ((L.drop (16*k)).map encR)):=by
   rw[uA UH J4 NU,List.map_drop]
  have hw1:IntKind.i64.wrap (((16*k:Nat):Int)+((min 16 (L.length-16*k):Nat):Int))=((16*k+min 16 (L.length-16*k):Nat):Int):=by rw[wrap_i64 U U]; omega
  have hw2:IntKind.i64.wrap (((16*k:Nat):Int)+16)=((16*(k+1):Nat):Int):=by rw[wrap_i64 U U]; omega
  have hs2:IX jA H 84 (.sl m 2 (L.map encR)) (some (.n ((16*k:Nat):Int))) (some (.n ((16*k+min 16 (L.length-16*k):Nat):Int))) (some (.n ((16*k+min 16 (L.length-16*k):Nat):Int)))=some (.sl (sI m) 2 ((part L k).map encR)):=by
   rw[A6L UH J4 U NU,<-List.map_drop,<-List.map_take]
   have e:(L.drop (16*k)).take (16*k+min 16 (L.length-16*k)-16*k)=part L k:=by
    unfold part;rw[List.take_eq_take_iff,List.length_drop];omega
   rw[e]
  refine BB @knP @knG ?_;refine DV A8 ?_;simp -implicitDefEqProofs only[vQ,Option.map_some,Option.map_none,KH,iM,IY,CV,iO,ANC,AE4,↓reduceIte,jB,jL,enP,XR,knP,knG,f1,f2,f4,l2,l3,hs1,jJ,List.length_drop];have hm16:min (16:Int) ((L.length-16*k:Nat):Int)=((min 16 (L.length-16*k):Nat):Int):=U;simp -implicitDefEqProofs only[vQ,CV,AWK,↓reduceIte,jB,knP,knG,hm16,f0,f1,f2,f4,l2,hw1,hs2];refine(hY k H hkn hIk).mono ?_;rintro v h' ⟨rfl,hI'⟩;obtain⟨g2',g3'⟩:=hI (k+1) h' hI';have l3':BU jA h' 3 (.ptr b3 0 0)=some (.n 16):=by rw[BL ag3 g3' (row:=[.n 16]) rfl]; rfl
  refine MV @knP @knG f2 f4 l3' hw2 ?_;exact⟨n-1,U,k+1,U,AZ,AZ,AZ,AZ,hI'⟩
 .have:k=parts L:=U
  subst this;refine DT @mW @knP @knG ?_;exact hIk
theorem AF5 (G:Nat->AV)(s:AV)(hs:IL s=some [s])(h:Hp):ACalls (En G) 244 [s,.n 16] h fun v h'=>v=.fn (.func 292) [] [.ptr h.length 0 0,.ptr (h.length+1) 0 0]∧h'=h++[zZ 1 [[s]]]++[zZ 1 [[.n 16]]]:=by
 refine acT Tryz.func244 4 ?_;have hb:MI h s=some (.ptr h.length 0 0,h++[zZ 1 [[s]]]):=by simp [MI,hs]
 have l3:BU jA (h++[zZ 1 [[s]]]++[zZ 1 [[.n 16]]]) 3 (.ptr (h++[zZ 1 [[s]]]).length 0 0)=some (.n 16):=by rw[BL ag3 (A7 _ _) (row:=[.n 16]) rfl]; rfl
 have d16:decide ((16:Int)<1)=false:=rfl;refine I7 @AWP @ASH hb l3 d16 ?_;exact⟨BA,AZ⟩
def cEs (l:List Rng):List Ex:=l.flatMap fun r=>[cE r.lo,cE r.hi]
def insL (e:Ex)(l:List Rng):List Ex:=e::cEs l
theorem YF (a:Rng)(l:List Rng):cEs (a::l)=cE a.lo::cE a.hi::cEs l:=rfl
theorem ABK:∀l:List Rng,(ABM l).map AU2=cEs l
 | []=>rfl
 | a::l=>by rw[sC,YF,jK,jK,ABK l]; rfl
theorem TZ (e:Ex)(l:List Rng):IE e l=.mk 23 0 ⟨#[]⟩ .any (insL e l):=by
 unfold IE Z4 insL;rw[jK,ABK]; rfl
theorem AC5 {l:List Rng}(hk:k<l.length):cEs (l.take (k+1))=cEs (l.take k)++[cE l[k].lo,cE l[k].hi]:=by
 unfold cEs;rw[List.take_succ_eq_append_getElem hk,List.flatMap_append]; rfl
theorem kD:∀l:List Rng,(cEs l).length=2*l.length
 | []=>rfl
 | a::l=>by rw[YF,zO,zO,kD l,zO]; omega
def nodes (e:Ex)(L:List Rng)(k:Nat):List Ex:=(List.range k).map fun i=>IE e (part L i)
theorem KX (e:Ex)(L:List Rng)(k:Nat):(nodes e L k).length=k:=by simp [nodes]
theorem lM (e:Ex)(L:List Rng)(k:Nat):nodes e L (k+1)=nodes e L k++[IE e (part L k)]:=by simp [nodes,List.range_succ]
theorem AK2 (e:Ex)(L:List Rng)(k i:Nat)(h:i<(nodes e L k).length):(nodes e L k)[i]=IE e (part L i):=by simp [nodes]
def NW (e:Ex)(L:List Rng):Nat->Ex
 | 0=>IE e (part L 0)
 | k+1=>orE (NW e L k) (IE e (part L (k+1)))
def QO (e:Ex)(L:List Rng):Ex:=if L=[] then cE 0 else QP (cpE e) L
theorem parts_eq (L:List Rng):parts L=(L.length+15)/16:=rfl
theorem AAP (L:List Rng)(i:Nat):(L.drop (16*i)).take (min L.length (16*i+16)-16*i)=part L i:=by
 unfold part;rw[List.take_eq_take_iff,List.length_drop];omega
theorem rQ (e:Ex)(L:List Rng):∀(n k:Nat),L.length<=16*(k+1)+n->k<parts L->rR e L n (16*(k+1)) (NW e L k)=NW e L (parts L-1)
 | 0,k,h,hk=>by
   have hp:=parts_eq L;have:parts L-1=k:=U;rw[this]; rfl
 | n+1,k,h,hk=>by
   have hp:=parts_eq L;show(if 16*(k+1)<L.length then _ else _)=_;by_cases hc:16*(k+1)<L.length
   .rw[if_pos hc,AAP]
    exact rQ e L n (k+1) U U
   .rw[if_neg hc]
    have:parts L-1=k:=U;rw[this]
theorem XX (e:Ex)(L:List Rng)(h:L≠[]):QP e L=NW e L (parts L-1):=by
 have hl:0<L.length:=qV.2 h;have hp:=parts_eq L;unfold QP;have:=rQ e L L.length 0 U U
 have h0:IE e (L.take (min L.length 16))=NW e L 0:=by
  show _=IE e (part L 0);have:=AAP L 0;simp only[Nat.mul_zero,jG,Nat.sub_zero,zI] at this;rw[<-this]
 rw[h0]; exact this
theorem XW (e:Ex)(L:List Rng)(h:L≠[]):QO e L=NW (cpE e) L (parts L-1):=by
 unfold QO; rw[if_neg h,XX _ _ h]
theorem AY4 (F:Fr)(p:Nat)(ps:List Nat)(v:AV)(vs:List AV):tQ F (p::ps) (v::vs)=tQ (upd F p v) ps vs:=rfl
theorem AY3 (F:Fr)(vs:List AV):tQ F [] vs=F:=by cases vs<;>rfl
theorem A7L (h:Hp):GM jA h 23=some (.ptr h.length 0 0,h++[zZ 1 [[.sl .nil 0 []]]]):=FV (row:=[.sl .nil 0 []]) A8
abbrev FK:List AV:=[.n 0,.n 0,.str ⟨#[]⟩,.sl .nil 0 []]
structure Ic (h hb H:Hp) (e:Ex) (L:List Rng) (m:SM) (b4 b5 c2 c3 k:Nat) (v:AV):Prop where
 ge:H[h.length]?=some (zZ 4 [AU e])
 g4:H[b4]?=some (zZ 4 [FK])
 g5:H[b5]?=some (zZ 1 [[v]])
 g2:H[c2]?=some (zZ 1 [[.sl m 2 (L.map encR)]])
 g3:H[c3]?=some (zZ 1 [[.n 16]])
 ho:outG 4 AU hb (nodes (cpE e) L k) v H
 hx:ext h H
 hy:hb.length<=H.length
structure In (hb H1 H:Hp) (e:Ex) (l:List Rng) (b7:Nat) (v:AV):Prop where
 g7:H[b7]?=some (zZ 4 [[.n 23,.n 0,.str ⟨#[]⟩,v]])
 ho:outG 4 AU H1 (insL e l) v H
 hx:ext H1 H
 ne:∀b,isB v b->b≠b7
theorem AUB {α:Type}{f:α->List AV}{ys:List α}(ho:outG k f h ys v H):outG k id h (ys.map f) v H:=by
 rcases ho with⟨rfl,rfl⟩|⟨hne,o,h2,rfl,h3⟩
 .exact .inl ⟨rfl,rfl⟩
 .exact .inr ⟨BN hne,o,h2,by rw[jJ],by rw[List.map_id]; exact h3⟩
theorem AYM (h:Hp):C9 jA false h 23 1 [(0,.agg FK)]=some (.sl .full 4 [FK],h):=A8
theorem A45:UU (Value.agg #[.int .i64 0,.int .i64 0,.string ⟨#[]⟩,.slice none 0 0])=.agg FK:=rfl
theorem PU (l:List Ex):LC (l.map AU)=true:=by
 unfold LC;rw[List.all_eq_true];intro row hr;obtain⟨x,_,rfl⟩:=List.mem_map.1 hr;rw[EW]; rfl
theorem outG_ext {α:Type}{f:α->List AV}{H':Hp}{ys:List α}(ho:outG k f h ys v H)(hx:Sm.ext H H'):outG k f h ys v H':=by
 obtain⟨x,rfl⟩:=hx; exact ho.app x
theorem Ic.ext {hb H':Hp}{e:Ex}{L:List Rng}{m:SM}{b4 b5 c2 c3:Nat}(I:Ic h hb H e L m b4 b5 c2 c3 k v)(hx:Sm.ext H H'):Ic h hb H' e L m b4 b5 c2 c3 k v :=
 ⟨ED hx I.ge,ED hx I.g4,ED hx I.g5,ED hx I.g2,ED hx I.g3,outG_ext I.ho hx,I.hx.trans hx,Nat.le_trans I.hy hx.le⟩
theorem ABQ (e:Ex)(l:List Rng):AU (IE e l)=[.n 23,.n 0,.str ⟨#[]⟩,.sl .any 4 ((insL e l).map AU)]:=by rw[TZ,EW]; rfl
section
variable (G:Nat->AV)
theorem inside_prog (e:Ex)(xs:List Rng)(s:SM)(hl:xs.length<=1048576)(hw:wt e<=1048576)(h:Hp):PCall (En G) 168 [.agg (AU e),.sl s 2 (xs.map encR)] h (.agg (AU (QO e (normal xs)))):=by
 refine ACalls.pure (R:=fun v H=>Sm.ext h H∧FN h.length H 3 v=.agg (AU (QO e (normal xs)))) 3 ?_ (fun v H ⟨a,b⟩=>⟨a,b⟩);refine H6 (H:=hint [19,36,43] []) (enM G) Tryz.func168 rfl (by kernel_rfl) (by kernel_rfl) (jC (by kernel_rfl)) ?_;show awp _ _ _ _ _ (LU _ [.cell 4 79] _);have ge:=AL (x:=zZ 1 [[.sl .nil 0 []]]) (AL (x:=zZ 4 [FK]) (A7 h (zZ 4 [AU e])));have g4:=AL (x:=zZ 1 [[.sl .nil 0 []]]) (A7 (h++[zZ 4 [AU e]]) (zZ 4 [FK]));have g5:=A7 (h++[zZ 4 [AU e]]++[zZ 4 [FK]]) (zZ 1 [[.sl .nil 0 []]]);have hx:Sm.ext h (h++[zZ 4 [AU e]]++[zZ 4 [FK]]++[zZ 1 [[.sl .nil 0 []]]]):=(((ext.rfl' h).app _).app _).app _;have o4:h.length<(h++[zZ 4 [AU e]]).length:=BA;have o5:(h++[zZ 4 [AU e]]).length<(h++[zZ 4 [AU e]]++[zZ 4 [FK]]).length:=BA;have hnl:=V7 xs;refine DT @bxE O3 A7L ?_
 generalize h++[zZ 4 [AU e]]++[zZ 4 [FK]]++[zZ 1 [[.sl .nil 0 []]]]=H0 at ge g4 g5 hx|-
 generalize (h++[zZ 4 [AU e]]++[zZ 4 [FK]]).length=b5 at g5 o5|-
 generalize (h++[zZ 4 [AU e]]).length=b4 at g4 o4 o5|-
 have l5:=AC g5;refine(uP G xs s _ U).use ?_
 generalize normal xs=L at hnl|-
 have hL:L.length<=1048576:=U;generalize Bins.nm L=m;refine AO ?_;refine(AF5 G _ rfl _).mono ?_;rintro v H ⟨rfl,rfl⟩
 have I0:Ic h (H0++[zZ 1 [[.sl m 2 (L.map encR)]]]++[zZ 1 [[.n 16]]]) (H0++[zZ 1 [[.sl m 2 (L.map encR)]]]++[zZ 1 [[.n 16]]]) e L m b4 b5 H0.length (H0.length+1) 0 (.sl .nil 0 []) :=
  ⟨AL (AL ge),AL (AL g4),AL (AL g5),AL (A7 _ _),BA,outG.nil _ _ _ _,(hx.app _).app _,jF _⟩
 generalize H0++[zZ 1 [[.sl m 2 (L.map encR)]]]++[zZ 1 [[.n 16]]]=H1 at I0|-
 have k2:b5<H0.length:=l5;have k3:H0.length<H0.length+1:=Nat.lt_succ_self _
 generalize H0.length+1=c3 at I0 k3|-
 generalize H0.length=c2 at I0 k2 k3|-
 have l3:=AC I0.g3;clear ge g4 g5 hx l5;refine AO ?_;refine A1E A8 AQ (parts L) (fun k=>[.sl (sI m) 2 ((part L k).map encR)]) (fun k H=>∃v,Ic h H1 H e L m b4 b5 c2 c3 k v) (AF6 G L m hL c2 c3 _ (fun k H ⟨v,I⟩=>⟨I.g2,I.g3⟩)) ⟨_,I0⟩ ?_ ?_
 .clear I0
  rintro k H hk ⟨v,I⟩;refine⟨rfl,?_⟩;have hy:=I.hy;have lb:=ND I.ge;have gc0:(H++[zZ 4 [AU (cpE e)]]++[zZ 4 [FK]])[(H++[zZ 4 [AU (cpE e)]]).length]?=some (zZ 4 [FK]):=A7 _ _;have sc0:=TW (cs:=[.n 23,.n 0,.str ⟨#[]⟩,.own H.length 0 1]) gc0 rfl rfl rfl
  have N0:In H1 H ((H++[zZ 4 [AU (cpE e)]]++[zZ 4 [FK]]).set (H++[zZ 4 [AU (cpE e)]]).length (zZ 4 [[.n 23,.n 0,.str ⟨#[]⟩,.own H.length 0 1]])) (cpE e) ((part L k).take 0) (H++[zZ 4 [AU (cpE e)]]).length (.own H.length 0 1) :=
   ⟨CP gc0,.inr ⟨by rw[qB]; exact List.cons_ne_nil _ _,H.length,jF _,by rw[qB]; rfl,by rw[qB]; exact CZ (AL (A7 _ _)) BA⟩,(((ext.rfl' H).app _).app _).set BA _,fun b hb=>by cases hb; simp⟩
  refine DT @AY4 @AY3 lb ?_;refine(ACW G (wt e) e H (jF _) hw).use ?_;refine E8 @AYN @ASC O3 sc0 ?_
  generalize ((H++[zZ 4 [AU (cpE e)]]++[zZ 4 [FK]]).set (H++[zZ 4 [AU (cpE e)]]).length (zZ 4 [[.n 23,.n 0,.str ⟨#[]⟩,.own H.length 0 1]]))=H2 at N0|-
  have hb7:H.length<(H++[zZ 4 [AU (cpE e)]]).length:=BA
  generalize (H++[zZ 4 [AU (cpE e)]]).length=b7 at N0 hb7|-
  generalize AV.own H.length 0 1=u0 at N0;clear gc0 sc0 lb;refine ET 2 (fun F H'=>F 5=.ptr b5 0 0∧F 7=.ptr b7 0 0∧∃u,In H1 H H' (cpE e) (part L k) b7 u) (fun _ _=>False) ?_ ?_ (fun _ _ q=>q.elim)
  .refine BI (fun n F H'=>∃j u,n+j=(part L k).length∧F 5=.ptr b5 0 0∧F 7=.ptr b7 0 0∧F 21=.sl (sI m) 2 ((part L k).map encR)∧F 22=.n ((part L k).length:Nat)∧F 23=.n (j:Nat)∧In H1 H H' (cpE e) ((part L k).take j) b7 u) (part L k).length
    ⟨0,u0,BA,AQ,AQ,AQ,AQ,AQ,N0⟩ ?_
   clear N0;rintro n F H' ⟨j,u,hj,f5,f7,f21,f22,f23,N⟩;refine BB f22 f23 ?_;refine D8 ?_ ?_<;>intro hj'
   .have hpl:(part L k).length<=16:=by unfold part; rw[jV]; omega
    have N1:In H1 H (H'++[zZ 2 [encR (part L k)[j]]]) (cpE e) ((part L k).take j) b7 u:=⟨AL N.g7,N.ho.app _,N.hx.app _,N.ne⟩;simp -implicitDefEqProofs only[vQ,jW,jR,jS,zK,CV,↓reduceIte,jB,enP,TQ,jO,f21,f23,CQ hj',DR YL J4 dL hj',AGJ,AEA _ _ [.n 0,.n 0] rfl];have q0:BU jA (H'++[zZ 2 [encR (part L k)[j]]]) 3 (.ptr H'.length 0 0)=some (.n (part L k)[j].lo):=by rw[EE ag3,TC]
    have q1:BU jA (H'++[zZ 2 [encR (part L k)[j]]]) 3 (.ptr H'.length 0 1)=some (.n (part L k)[j].hi):=by rw[EE ag3,Q3]
    generalize H'++[zZ 2 [encR (part L k)[j]]]=H3 at N1 q0 q1|-
    have hlen:(insL (cpE e) ((part L k).take j)).length+2<=8388608:=by
     unfold insL;rw[zO,kD,jV]; omega
    obtain⟨v',H4,ha,ho2,hkeep,he2,hl2,hv2⟩:=QE .full N1.ho SV JL ZG YG U (ys:=[cE (part L k)[j].lo,cE (part L k)[j].hi]) hlen N1.hx;have ha':EG jA true H3 23 23 u (.sl .full 4 [AU (cE (part L k)[j].lo),AU (cE (part L k)[j].hi)])=some (v',H4):=ha
    have hits:insL (cpE e) ((part L k).take j)++[cE (part L k)[j].lo,cE (part L k)[j].hi]=insL (cpE e) ((part L k).take (j+1)):=by
     unfold insL;rw[AC5 hj']; rfl
    rw[hits] at ho2;have g72:=hkeep _ _ N1.g7 (fun q=>N1.ne _ q rfl);have l7:BU jA H3 23 (.ptr b7 0 3)=some u:=by rw[BL MO N1.g7 (row:=[.n 23,.n 0,.str ⟨#[]⟩,u]) rfl]; rfl
    have lb7:=AC N1.g7
    have hst:DW jA H4 23 (.ptr b7 0 3) v'=some (H4.set b7 (zZ 4 [[.n 23,.n 0,.str ⟨#[]⟩,v']])):=by
     rcases ho2 with⟨e1,_⟩|⟨_,o,_,rfl,_⟩
     .exact absurd e1 (List.cons_ne_nil _ _)
     .rw[I9 (cs:=[.own o 0 _]) rfl (A8:szO jA 23=some 1) g72 BA]; rfl
    have hv2':∀b,isB v' b->b≠b7:=fun b hb=>by
     rcases hv2 b hb with q|q
     .exact N1.ne b q
     .omega
    have N2:In H1 H (H4.set b7 (zZ 4 [[.n 23,.n 0,.str ⟨#[]⟩,v']])) (cpE e) ((part L k).take (j+1)) b7 v' :=
     ⟨CP g72,ho2.keep (fun b hb=>by rw[List.getElem?_set_ne (fun q=>hv2' b hb q.symm)]),he2.set U _,hv2'⟩
    refine DV A8 ?_;refine E8 f7 l7 q0 q1 ?_;refine⟨_,XO G _ _,_,XO G _ _,?_⟩
    try refine aB f5 f7 f21 f22 f23 @bD ha' hst (DF j) ?_
    exact⟨n-1,U,j+1,v',U,AZ,AZ,AZ,AZ,AZ,N2⟩
   .rw[jI U] at N
    refine AO ?_;exact⟨AZ,AZ,u,N⟩
  .rintro F H' ⟨f5,f7,u,N⟩
   have I2:=I.ext N.hx;have hpl:(part L k).length<=16:=by unfold part; rw[jV]; omega
   obtain⟨o,n0,hu,ho1,ho2⟩:∃o n0,u=.own o 0 n0∧H.length<=o∧(n0=(insL (cpE e) (part L k)).length∧H'[o]?=some (zZ 4 ((insL (cpE e) (part L k)).map AU))):=by
    rcases N.ho with⟨e1,_⟩|⟨_,o,h1,h2,h3⟩
    .exact absurd e1 (List.cons_ne_nil _ _)
    .exact⟨o,_,h2,h1,rfl,h3⟩
   subst hu;obtain⟨rfl,ho2⟩:=ho2;have hk1:(nodes (cpE e) L k).length<8388608:=by rw[KX]; unfold parts at hk; omega
   obtain⟨v',H3,ha,ho3,hkeep,hl3,hv3,⟨ob,n1,hv'⟩,hext⟩:=(AUB I2.ho).app2 SV JL ZG YG U (by rw[jJ]; exact hk1) I2.hy FK;subst hv';have hob:ob=H'.length:=hv3 ob rfl
   obtain⟨hn1,hb3⟩:n1=k+1∧H3[ob]?=some (zZ 4 ((nodes (cpE e) L k).map AU++[FK])):=by
    rcases ho3 with⟨e1,_⟩|⟨_,o',_,h2,h3⟩
    .simp at e1
    .cases h2
     refine⟨by simp [KX],?_⟩;rw[List.map_id] at h3; exact h3
   subst hn1;have hlo:∀b,isB v b->H1.length<=b∧b<H.length:=fun b hb=>I.ho.lt hb
   have nb:∀b x,H'[b]?=some x->b<H1.length∨H.length<=b->H3[b]?=some x:=fun b x hx hb=>hkeep b x hx fun q=>by have:=hlo b q; omega
   have l5:b5<H1.length:=U;have lo':=AC ho2;have l7':=AC N.g7;have hle:=N.hx.le
   have hset:∀a b:List AV,((nodes (cpE e) L k).map AU++[a]).set k b=(nodes (cpE e) L k).map AU++[b]:=fun a b=>by
    rw[List.set_append_right _ _ (by simp [KX])]; simp [KX]
   have hget:∀a:List AV,((nodes (cpE e) L k).map AU++[a])[k]?=some a:=fun a=>by
    rw[List.getElem?_append_right (by simp [KX])]; simp [KX]
   have d5:BU jA H' 23 (.ptr b5 0 0)=some v:=by rw[BL MO I2.g5 (row:=[v]) rfl]; rfl
   have d7:BU jA H' 79 (.ptr b7 0 0)=some (.agg [.n 23,.n 0,.str ⟨#[]⟩,.own o 0 (insL (cpE e) (part L k)).length]):=KE N.g7 rfl;have dl:JR jA 23 v=some (.n (k:Nat)):=by rw[I2.ho.len AE8,KX]
   have ha':EG jA true H' 23 23 v (.sl .full 4 [FK])=some (.own ob 0 (k+1),H3):=ha;have di:JJ 4 H3 (.own ob 0 (k+1)) (.n (k:Nat))=some (.ptr ob k 0):=by rw[H8 hb3 (Nat.lt_succ_self k),jG]
   have s1:DW jA H3 79 (.ptr ob k 0) (.agg [.n 23,.n 0,.str ⟨#[]⟩,.own o 0 (insL (cpE e) (part L k)).length])=some (H3.set ob (zZ 4 ((nodes (cpE e) L k).map AU++[[.n 23,.n 0,.str ⟨#[]⟩,.own o 0 (insL (cpE e) (part L k)).length]]))):=by
    rw[IC (O7 rfl) JL hb3 (hget FK) (jF 4),hset]; rfl
   have g53:=nb _ _ I2.g5 (.inl l5)
   have s2:DW jA (H3.set ob (zZ 4 ((nodes (cpE e) L k).map AU++[[.n 23,.n 0,.str ⟨#[]⟩,.own o 0 (insL (cpE e) (part L k)).length]]))) 23 (.ptr b5 0 0) (.own ob 0 (k+1)) =
     some ((H3.set ob (zZ 4 ((nodes (cpE e) L k).map AU++[[.n 23,.n 0,.str ⟨#[]⟩,.own o 0 (insL (cpE e) (part L k)).length]]))).set b5 (zZ 1 [[.own ob 0 (k+1)]])):=by
    rw[I9 (cs:=[.own ob 0 (k+1)]) rfl (A8:szO jA 23=some 1) (CZ g53 U) BA]; rfl
   have hob1:H1.length<=ob:=by have:=I2.hy; omega
   have hoo:o≠ob:=U;have ob5:ob≠b5:=U;have o5':o≠b5:=U;have lob:=AC hb3
   have t2:DW jA H3 23 (.ptr b5 0 0) (.own ob 0 (k+1))=some (H3.set b5 (zZ 1 [[.own ob 0 (k+1)]])):=by
    rw[I9 (cs:=[.own ob 0 (k+1)]) rfl (A8:szO jA 23=some 1) g53 BA]; rfl
   have t1:DW jA (H3.set b5 (zZ 1 [[.own ob 0 (k+1)]])) 79 (.ptr ob k 0) (.agg [.int .i64 23,.int .i64 0,.str ⟨#[]⟩,.own o 0 (insL (cpE e) (part L k)).length])=some ((H3.set ob (zZ 4 ((nodes (cpE e) L k).map AU++[[.int .i64 23,.int .i64 0,.str ⟨#[]⟩,.own o 0 (insL (cpE e) (part L k)).length]]))).set b5 (zZ 1 [[.own ob 0 (k+1)]])):=by
    rw[IC (O7 rfl) JL (CZ hb3 ob5) (hget FK) (jF 4),hset,List.set_comm _ _ ob5]; rfl
   refine AO ?_;refine ADI [] [0,1,2,3,4,5] 6 7 [] A8 trivial ?_;simp only[MR,List.getElem?_cons_succ,List.getElem?_cons_zero];simp -implicitDefEqProofs only[vQ,jW,jR,jS,zK,Bool.or_true,MN,JD,NG,IY,ABA,I8,↓reduceIte,jB,jL,enP,RN,jO,f5,f7,d5,d7,dl,A45,AYM,ha',di,s1,s2,t1,t2];rw[and_self_iff];clear t1 t2 s1 s2;generalize hrN : [AV.int .i64 23,.n 0,.str ⟨#[]⟩,.own o 0 (insL (cpE e) (part L k)).length]=rowN at *;have hb4:(H3.set ob (zZ 4 ((nodes (cpE e) L k).map AU++[rowN])))[ob]?=some (zZ 4 ((nodes (cpE e) L k).map AU++[rowN])):=CP hb3;have hbo:((H3.set ob (zZ 4 ((nodes (cpE e) L k).map AU++[rowN]))).set b5 (zZ 1 [[.own ob 0 (k+1)]]))[ob]?=some (zZ 4 ((nodes (cpE e) L k).map AU++[rowN])):=CZ hb4 ob5;have ho5:((H3.set ob (zZ 4 ((nodes (cpE e) L k).map AU++[rowN]))).set b5 (zZ 1 [[.own ob 0 (k+1)]]))[o]?=some (zZ 4 ((insL (cpE e) (part L k)).map AU)):=CZ (CZ (nb _ _ ho2 (.inr ho1)) hoo) o5';have gst:=GSt.frz (E:=En G) hbo (hget rowN) (j:=3) (by rw[<-hrN]; rfl) ho5 hoo BA (by rw[zI,jI BA]; exact PU _)
   have hr6:((nodes (cpE e) L k).map AU++[rowN]).set k (rowN.set 3 (.sl .any 4 ((((insL (cpE e) (part L k)).map AU).drop 0).take (insL (cpE e) (part L k)).length)))=(nodes (cpE e) L (k+1)).map AU:=by
    rw[hset,lM,List.map_append,jK,jP,ABQ,<-hrN,zI,jI BA]; rfl
   rw[hr6] at gst;refine⟨_,gst,.own ob 0 (k+1),?_⟩
   have keep:∀b x,b<H1.length->b≠b5->H'[b]?=some x->(((((H3.set ob (zZ 4 ((nodes (cpE e) L k).map AU++[rowN]))).set b5 (zZ 1 [[.own ob 0 (k+1)]])).set o .dead).set ob (zZ 4 ((nodes (cpE e) L (k+1)).map AU)))[b]?=some x):=fun b x h1 h2 h3 =>
    CZ (CZ (CZ (CZ (nb b x h3 (.inl h1)) U) h2) U) U
   have hex:=hext h U I2.hx;refine⟨keep _ _ U U I2.ge,keep _ _ U U I2.g4,CZ (CZ (CP (CZ g53 U)) U) U,keep _ _ U U I2.g2,keep _ _ U U I2.g3,.inr ⟨by rw[lM]; simp,ob,hob1,by rw[KX],CP (CZ hbo hoo.symm)⟩,(((hex.set U _).set U _).set U _).set U _,by simp; omega⟩
 .rintro H ⟨v,I⟩
  have hn:=I.ho.len AE8;rw[KX] at hn;have d5:BU jA H 23 (.ptr b5 0 0)=some v:=by rw[BL MO I.g5 (row:=[v]) rfl]; rfl
  have hpe:=parts_eq L;rcases Classical.em (L=[]) with hL0|hL0
  .have hz:(((parts L:Nat):Int)==0)=true:=by rw[hL0]; rfl
   refine DT d5 hn hz ?_;refine(XO G 0 H).use ?_;simp -implicitDefEqProofs only[vQ,jW,jR,jS,zK,MZ,CV,↓reduceIte,jB,enP,jO,PH I.g4 rfl];rw[JO (b:=b4) AQ (ND (CP I.g4))];refine⟨I.hx.set U _,?_⟩;rw[show QO e L=cE 0 by unfold QO; rw[if_pos hL0],EW];rfl
  have hlp:0<L.length:=qV.2 hL0;have hp0:0<parts L:=U;have hz:(((parts L:Nat):Int)==0)=false:=by simp; omega
  obtain⟨ob,rfl,hob1,hob⟩:∃ob,v=.own ob 0 (parts L)∧H1.length<=ob∧H[ob]?=some (zZ 4 ((nodes (cpE e) L (parts L)).map AU)):=by
   rcases I.ho with⟨e1,_⟩|⟨_,o,h1,h2,h3⟩
   .have:=congrArg List.length e1
    rw[KX,List.length_nil] at this; omega
   .exact⟨o,by rw[h2,KX],h1,h3⟩
  have hrow:∀i,i<parts L->((nodes (cpE e) L (parts L)).map AU)[i]?=some (AU (IE (cpE e) (part L i))):=fun i hi=>by
   have hi':i<(nodes (cpE e) L (parts L)).length:=by rw[KX]; exact hi
   rw[List.getElem?_map,List.getElem?_eq_getElem hi',AK2]; rfl
  have hld:∀(H':Hp) i,H'[ob]?=some (zZ 4 ((nodes (cpE e) L (parts L)).map AU))->i<parts L->BU jA H' 79 (.ptr ob i 0)=some (.agg (AU (IE (cpE e) (part L i)))):=fun H' i h' hi=>by
   rw[EH O5 JL h' (hrow i hi) (by rw[EP]; exact jF 4),zI,<-EP (IE (cpE e) (part L i)),List.take_length]
  have i0:JJ 4 H (.own ob 0 (parts L)) (.n 0)=some (.ptr ob 0 0):=H8 (n:=0) hob hp0;have hcut:∀H':Hp,H'[ob]?=some (zZ 4 ((nodes (cpE e) L (parts L)).map AU))->IX jA H' 23 (.own ob 0 (parts L)) (some (.n 1)) none none=some (.own ob 1 (parts L-1)):=fun H' h'=>AAT (l:=1) SV JL h' hp0
  have hobH:=AC hob;have s10:=iB H (IE (cpE e) (part L 0)) FK rfl;have g10:(H++[zZ 4 [AU (IE (cpE e) (part L 0))]])[H.length]?=some (zZ 4 [AU (NW (cpE e) L 0)]):=A7 H _;refine P7 d5 hn hz i0 (hld H 0 hob hp0) O3 s10 ?_;have I3:=I.ext (Sm.ext.app (Sm.ext.rfl' H) [zZ 4 [AU (IE (cpE e) (part L 0))]]);have hob3:=AL (x:=zZ 4 [AU (IE (cpE e) (part L 0))]) hob;have d53:BU jA (H++[zZ 4 [AU (IE (cpE e) (part L 0))]]) 23 (.ptr b5 0 0)=some (.own ob 0 (parts L)):=by rw[BL MO I3.g5 (row:=[.own ob 0 (parts L)]) rfl]; rfl
  refine BB d53 (hcut _ hob3) ?_;have l3:H.length=H.length:=rfl
  generalize hb10:H.length=b10 at g10|-
  have hx3:=I3.hx;have g43:=I3.g4
  generalize H++[zZ 4 [AU (IE (cpE e) (part L 0))]]=H3 at g10 hob3 hx3 g43|-
  have hle1:=I.hy;clear I3 I d5 d53 hn i0 s10
  refine BI (fun n F H'=>∃k,n+k=parts L-1∧F 4=.ptr b4 0 0∧F 10=.ptr b10 0 0∧F 53=.own ob 1 (parts L-1)∧F 54=.n ((parts L-1:Nat):Int)∧F 55=.n (k:Nat)∧H'[b10]?=some (zZ 4 [AU (NW (cpE e) L k)])∧H'[ob]?=some (zZ 4 ((nodes (cpE e) L (parts L)).map AU))∧H'[b4]?=some (zZ 4 [FK])∧Sm.ext h H') (parts L-1)
   ⟨0,BA,AQ,AQ,AQ,AQ,AQ,g10,hob3,g43,hx3⟩ ?_
  clear g10 hob3 g43 hx3;rintro n F H' ⟨k,hk,f4,f10,f53,f54,f55,g10,gob,g4,hx⟩;refine BB f54 f55 ?_;refine CE ?_ ?_<;>intro hc
  .have hk':k<parts L-1:=BN hc
   have ik:JJ 4 H' (.own ob 1 (parts L-1)) (.n (k:Nat))=some (.ptr ob (k+1) 0):=by rw[H8 gob hk',Nat.add_comm]
   have s12:=iB H' (IE (cpE e) (part L (k+1))) FK rfl;have q10:=AL (x:=zZ 4 [AU (IE (cpE e) (part L (k+1)))]) g10;have q12:=ND (A7 H' (zZ 4 [AU (IE (cpE e) (part L (k+1)))]));have lb10:=AC g10
   have s10:DW jA (H'++[zZ 4 [AU (IE (cpE e) (part L (k+1)))]]) 79 (.ptr b10 0 0) (.agg [.n 20,.n 0,.str ⟨#[]⟩,.sl .full 4 [AU (NW (cpE e) L k),AU (IE (cpE e) (part L (k+1)))]])=some ((H'++[zZ 4 [AU (IE (cpE e) (part L (k+1)))]]).set b10 (zZ 4 [AU (NW (cpE e) L (k+1))])):=by
    have:=PH (e:=NW (cpE e) L (k+1)) q10 (EP _);change DW _ _ _ _ (.agg (AU (orE (NW (cpE e) L k) (IE (cpE e) (part L (k+1))))))=some (List.set _ _ (zZ 4 [AU (orE (NW (cpE e) L k) (IE (cpE e) (part L (k+1))))])) at this;show _=some (List.set _ _ (zZ 4 [AU (orE (NW (cpE e) L k) (IE (cpE e) (part L (k+1))))]))
    rw[uM] at this|-
    exact this
   simp -implicitDefEqProofs only[vQ,jW,jR,jS,zK,CV,LD,↓reduceIte,jB,enP,RN,jO,f10,f53,f55,ik,hld H' (k+1) gob U,O3,s12,ND q10,q12,bD,ASB,s10,DF k];exact⟨n-1,U,k+1,U,AZ,AZ,AZ,AZ,AZ,CP q10,CZ (AL gob) U,CZ (AL g4) U,(hx.app _).set U _⟩
  .have hk':k=parts L-1:=by have:¬k<parts L-1:=BN hc
                            omega
   subst hk';simp -implicitDefEqProofs only[vQ,jW,jR,jS,zK,Q7,XB,YI,lA,CV,↓reduceIte,jB,enP,jO,f4,f10,ND g10,PH g4 rfl];rw[JO (b:=b4) (EM f4) (ND (CP g4))];refine⟨hx.set U _,?_⟩;rw[XW e L hL0,EW];rfl
end
end Go.Proofs.YtiihpnicbekebaaGreatDoor.Ho
namespace Go.Proofs.YtiihpnicbekebaaGreatDoor.Bd.Cl
open Sm Bins Cov Xe Wd Bl Ho Go.RowKit
variable {ws:List Wg} {k:Nat}
def JW (n:ByteArray):Ex:=.mk 2 0 n .nil []
def OG (n:ByteArray):List AV:=[.n 2,.n 0,.str n,.sl .nil 0 []]
theorem xZ (n:ByteArray):CvRow (OG n) (AU (JW n)):=by
 rw[EW];exact CvRow.cons rfl (Cv.refl _) (CvRow.cons rfl (Cv.refl _) (CvRow.cons rfl (Cv.refl _) (CvRow.cons rfl (Cv.nil 0 4) CvRow.nil)))
abbrev Iv:=Sum ByteArray Ex
def sB:Iv->List AV
 | .inl n=>OG n
 | .inr e=>AU e
def AU1:Iv->Ex
 | .inl n=>JW n
 | .inr e=>e
theorem APZ:∀x:Iv,CvRow (sB x) (AU (AU1 x))
 | .inl n=>xZ n
 | .inr e=>CvRow.refl fun v hv=>by
   have:=VA e;rw[List.all_eq_true] at this;exact this v hv
theorem A3O:Frz sB:=fun n h d x=>by
 cases x with
 | inl k=>exact⟨rfl,rfl⟩
 | inr e=>exact Ho.frzEx n h d e
def ivL (n:ByteArray)(l:List Rng):List Iv:=.inl n::(cEs l).map .inr
theorem AZ9 (n:ByteArray)(l:List Rng):(ivL n l).map AU1=insL (JW n) l:=by
 unfold ivL insL;rw[List.map_cons,qM];show JW n::(cEs l).map (AU1 ∘ .inr)=_;rw[show(AU1 ∘ Sum.inr:Ex->Ex)=id from rfl,List.map_id]
def ivW (n:ByteArray)(l:List Rng):List AV:=[.n 23,.n 0,.str ⟨#[]⟩,.sl .any 4 ((ivL n l).map sB)]
theorem AZ8 (n:ByteArray)(l:List Rng):CvR (.agg (ivW n l)) (.agg (AU (IE (JW n) l))):=by
 rw[ABQ,<-AZ9,qM];exact CvR.agg (CvRL.cons (CvR.refl _) (CvRL.cons (CvR.refl _) (CvRL.cons (CvR.refl _) (CvRL.cons (CvR.sl (Cv.map fun x _=>APZ x)) CvRL.nil))))
theorem AWV (n:ByteArray):G7 jA 79 [(0,.n 2),(2,.str n)]=some (.agg (OG n)):=A8
theorem A7A (h:Hp)(n:ByteArray):C9 jA true h 23 1 [(0,.agg (OG n))]=some (.own h.length 0 1,h++[zZ 4 [OG n]]):=A8
section
variable (G:Nat->AV)
theorem XN (n:Int)(h:Hp):PCall (En G) 257 [.n n] h (.agg (AU (cE n))):=by
 refine PCall.res ?_ (nO n);refine XJ 3 (fun n H=>rfl) ?_;refine acL Tryz.func257 [.cell 2 79] ?_;have g2:=A7 h (zZ 4 [FK]);have s2:=TW (cs:=WV 1 n) g2 rfl rfl rfl;refine BB O3 @ADE ?_;rw[show([AV.int .i64 0,.n 0,.str ⟨#[]⟩,.sl .nil 0 []]:List AV)=FK from rfl];refine BC s2 ?_;rw[JO (b:=h.length) AQ (KE (CP g2) rfl)];exact⟨rfl,((ext.rfl' h).app _).set (jF _) _⟩
theorem gM (nm:ByteArray)(l:List Rng)(s:SM)(hl:l.length<=1048576)(h:Hp):PCall (En G) 258 [.str nm,.sl s 2 (l.map encR)] h (.agg (AU (IE (JW nm) l))):=by
 refine PCall.res (r:=.agg (ivW nm l)) ?_ (AZ8 nm l);refine ACalls.pure (R:=fun v H=>Sm.ext h H∧FN h.length H 4 v=.agg (ivW nm l)) 4 ?_ (fun v H ⟨a,b⟩=>⟨a,b⟩);refine H6 (H:=hint [10,25] []) (enM G) Tryz.func258 rfl (by kernel_rfl) (by kernel_rfl) (jC (by kernel_rfl)) ?_;show awp _ _ _ _ _ (LU _ [.cell 4 79] _);have g4:=AL (x:=zZ 4 [OG nm]) (A7 h (zZ 4 [FK]));have g5:=A7 (h++[zZ 4 [FK]]) (zZ 4 [OG nm]);have hx:Sm.ext h (h++[zZ 4 [FK]]++[zZ 4 [OG nm]]):=((ext.rfl' h).app _).app _
 have ho:outG 4 sB (h++[zZ 4 [FK]]) (ivL nm (l.take 0)) (.own (h++[zZ 4 [FK]]).length 0 1) (h++[zZ 4 [FK]]++[zZ 4 [OG nm]]) :=
  .inr ⟨List.cons_ne_nil _ _,_,jF _,by rw[qB]; rfl,by rw[qB]; exact g5⟩
 have hlh:h.length<(h++[zZ 4 [FK]]).length:=BA;have hxx:Sm.ext (h++[zZ 4 [FK]]) (h++[zZ 4 [FK]]++[zZ 4 [OG nm]]):=(ext.rfl' _).app _;refine BB O3 @AWV ?_;rw[show([AV.int .i64 0,.n 0,.str ⟨#[]⟩,.sl .nil 0 []]:List AV)=FK from rfl];refine BC @A7A ?_
 generalize h++[zZ 4 [FK]]++[zZ 4 [OG nm]]=H1 at g4 hx ho hxx|-
 generalize AV.own (h++[zZ 4 [FK]]).length 0 1=u0 at ho
 generalize h++[zZ 4 [FK]]=H0 at ho hlh hxx|-
 clear g5;refine ET 0 (fun F H=>∃u,F 4=.ptr h.length 0 0∧F 5=u∧H[h.length]?=some (zZ 4 [FK])∧Sm.ext h H∧outG 4 sB H0 (ivL nm l) u H) (fun _ _=>False) ?_ ?_ (fun _ _ q=>q.elim)
 .refine BI (fun n F H=>∃i u,n+i=l.length∧F 4=.ptr h.length 0 0∧F 5=u∧F 11=.sl s 2 (l.map encR)∧F 12=.n (l.length:Nat)∧F 13=.n (i:Nat)∧H[h.length]?=some (zZ 4 [FK])∧Sm.ext h H∧Sm.ext H0 H∧outG 4 sB H0 (ivL nm (l.take i)) u H) l.length
   ⟨0,u0,BA,AQ,AQ,AQ,AQ,AQ,g4,hx,hxx,ho⟩ ?_
  clear g4 hx hxx ho;rintro n F H ⟨i,u,hi,f4,f5,f11,f12,f13,g4,hx,hxx,ho⟩;refine BB f12 f13 ?_;refine D8 ?_ ?_<;>intro hi'
  .simp -implicitDefEqProofs only[vQ,List.contains_cons,List.contains_nil,Nat.reduceBEq,Bool.or_false,CV,↓reduceIte,Nat.reduceEqDiff,Option.getD_some,Bool.not_false,enP,TQ,Option.getD_none,f11,f13,CQ hi',DR YL J4 dL hi',AGJ,AEA _ _ [.n 0,.n 0] rfl]
   have q0:BU jA (H++[zZ 2 [encR l[i]]]) 3 (.ptr H.length 0 0)=some (.n l[i].lo):=by rw[EE ag3,TC]
   have q1:BU jA (H++[zZ 2 [encR l[i]]]) 3 (.ptr H.length 0 1)=some (.n l[i].hi):=by rw[EE ag3,Q3]
   have g4:=AL (x:=zZ 2 [encR l[i]]) g4;have hx:=hx.app [zZ 2 [encR l[i]]];have hxx:=hxx.app [zZ 2 [encR l[i]]];have ho:=ho.app [zZ 2 [encR l[i]]]
   generalize H++[zZ 2 [encR l[i]]]=H3 at g4 hx hxx ho q0 q1|-
   have hlen:(ivL nm (l.take i)).length+2<=8388608:=by
    unfold ivL;rw[zO,jJ,kD,List.length_take]; omega
   obtain⟨v',H4,ha,ho2,hkeep,he2,hl2,hv2⟩:=QE .full ho SV JL ZG YG U (ys:=[.inr (cE l[i].lo),.inr (cE l[i].hi)]) hlen hxx;have ha':EG jA true H3 23 23 u (.sl .full 4 [AU (cE l[i].lo),AU (cE l[i].hi)])=some (v',H4):=ha
   have hits:ivL nm (l.take i)++[.inr (cE l[i].lo),.inr (cE l[i].hi)]=ivL nm (l.take (i+1)):=by
    unfold ivL;rw[AC5 hi',qN]; rfl
   rw[hits] at ho2;have nlo:∀b,isB u b->H0.length<=b:=fun b hb=>(ho.lt hb).1
   have g42:=hkeep _ _ g4 (fun q=>by have:=nlo _ q; omega);have hx4:Sm.ext h H4:=AQX (fun k y q=>hkeep _ _ (ED hx q) (fun q'=>by have:=nlo _ q'; have:=AC q; omega)) (by have:=hx.le; omega);refine DV A8 ?_;refine BB q0 q1 ?_;refine⟨_,XN G _ _,_,XN G _ _,?_⟩
   try refine MV f4 f5 @bD ha' f13 (DF i) ?_
   exact⟨n-1,U,i+1,v',U,AZ,AZ,AZ,AZ,AZ,g42,hx4,he2,ho2⟩
  .rw[List.take_of_length_le U] at ho
   refine AO ?_;exact⟨u,AZ,AZ,g4,hx,ho⟩
 .rintro F H ⟨u,f4,f5,g4,hx,ho⟩
  have hlf:=ho.leaf;have hlf4:([.n 23,.n 0,.str ⟨#[]⟩,u]:List AV).all AV.leaf=true:=by simp [hlf]; exact⟨rfl,rfl,rfl⟩
  have bd:G7 jA 79 [(0,.n 23),(3,u)]=some (.agg [.n 23,.n 0,.str ⟨#[]⟩,u]):=by
   rcases ho with⟨e1,_⟩|⟨_,o,_,rfl,_⟩
   .exact absurd e1 (List.cons_ne_nil _ _)
   .exact ASC _ _
  refine E8 f4 f5 bd (TW g4 rfl rfl hlf4) ?_;rw[JO (b:=h.length) (EM f4) (KE (CP g4) rfl)];refine⟨hx.set (jF _) _,?_⟩;have ho4:=ho.setB (b:=h.length) hlh (zZ 4 [[.n 23,.n 0,.str ⟨#[]⟩,u]]);have hz:=KP A3O ho4 h.length 1 U;show AV.agg [.n 23,.n 0,.str ⟨#[]⟩,FN h.length _ 3 u]=.agg (ivW nm l);rw[hz]; rfl
end
def ZL (n:Int)(w:Wg):Bool:=decide (w.lo<=n)&&decide (n<=w.hi)
def RH (n:Int):List Wg->Bool
 | []=>false
 | w::ws=>if ZL n w=true then decide (w.w>0) else RH n ws
theorem AHJ {n:Int}:∀ {ws:List Wg} {k:Nat} (hk:k<ws.length),(∀(j:Nat) (hj:j<k),ZL n (ws[j]'U)=false)->ZL n ws[k]=true->RH n ws=decide (ws[k].w>0)
 | [],k,hk,_,_=>by simp at hk
 | w::ws,0,_,_,h=>by
   have h:ZL n w=true:=h;unfold RH; rw[if_pos h]; rfl
 | w::ws,k+1,hk,hb,h=>by
   have h0:=hb 0 U;simp only[List.getElem_cons_zero] at h0;unfold RH;rw[if_neg (by rw[h0]; decide)];exact AHJ (BN hk) (fun j hj=>by have:=hb (j+1) U; simpa using this) (BN h)
theorem AHI {n:Int}:∀ {ws:List Wg},(∀w∈ws,ZL n w=false)->RH n ws=false
 | [],_=>rfl
 | w::ws,h=>by unfold RH; rw[if_neg (by rw[h w BA]; decide)]; exact AHI fun x hx=>h x (by simp [hx])
def ZO (out:List Rng)(n:Int):List Rng:=match out.getLast? with
 | some r=>if r.hi=n-1 then out.dropLast++[⟨r.lo,n⟩] else out++[⟨n,n⟩]
 | none=>[⟨n,n⟩]
def RS (l:List Int):List Rng:=l.foldl ZO []
theorem kZ (l:List Int)(n:Int):RS (l++[n])=ZO (RS l) n:=by unfold RS; rw[List.foldl_append]; rfl
def TN (ws:List Wg):Nat->List Int
 | 0=>[]
 | k+1=>TN ws k++(if RH (k:Int) ws=true then [(k:Int)] else [])
theorem lI (ws:List Wg):∀k,(TN ws k).length<=k
 | 0=>jF 0
 | k+1=>by
   have:=lI ws k;simp only[TN,zA];split<;>simp<;>omega
def runs (ws:List Wg)(k:Nat):List Rng:=RS (TN ws k)
def ADC (ws:List Wg)(k:Nat):Bool:=match k with
 | 0=>false
 | k+1=>RH (k:Int) ws
theorem YW (ws:List Wg)(k:Nat):runs ws (k+1)=if RH (k:Int) ws=true then ZO (runs ws k) k else runs ws k:=by
 unfold runs;simp only[TN];split
 .rw[kZ]
 .rw[lAn]
theorem eJ (ws:List Wg):∀k,(ADC ws k=true->∃r,(runs ws k).getLast?=some r∧r.hi=(k:Int)-1)∧(ADC ws k=false->∀r,(runs ws k).getLast?=some r->r.hi<(k:Int)-1)
 | 0=>⟨(fun h=>by cases h),fun _ r h=>by cases h⟩
 | k+1=>by
   obtain⟨i1,i2⟩:=eJ ws k;rw[YW];constructor
   .intro h
    have h:RH (k:Int) ws=true:=h;rw[if_pos h];unfold ZO
    cases hg:(runs ws k).getLast? with
    | none=>exact⟨⟨k,k⟩,rfl,by show(k:Int)=_; omega⟩
    | some r =>
      simp only;split
      .simp_all
      .simp_all
   .intro h r hr
    have h:RH (k:Int) ws=false:=h;rw[if_neg (by rw[h]; decide)] at hr
    cases hb:ADC ws k with
    | true=>obtain⟨r',e1,e2⟩:=i1 hb; rw[e1] at hr; cases hr; omega
    | false=>have:=i2 hb r hr; omega
theorem AHG (hp:RH (k:Int) ws=true)(hb:ADC ws k=true):∃r,(runs ws k).getLast?=some r∧runs ws (k+1)=(runs ws k).dropLast++[⟨r.lo,k⟩]:=by
 obtain⟨r,e1,e2⟩:=(eJ ws k).1 hb;refine⟨r,e1,?_⟩;rw[YW,if_pos hp];unfold ZO;rw[e1];simp only;rw[if_pos e2]
theorem yW (hp:RH (k:Int) ws=true)(hb:ADC ws k=false):runs ws (k+1)=runs ws k++[⟨k,k⟩]:=by
 rw[YW,if_pos hp];unfold ZO
 cases hg:(runs ws k).getLast? with
 | none=>rw[List.getLast?_eq_none_iff.1 hg]; rfl
 | some r =>
   have:=(eJ ws k).2 hb r hg;simp only;rw[if_neg U]
theorem AHE (hp:RH (k:Int) ws=false):runs ws (k+1)=runs ws k:=by rw[YW,if_neg (by rw[hp]; decide)]
theorem AHF (ws:List Wg):∀k,∀r∈runs ws k,0<=r.lo∧r.lo<=r.hi∧r.hi<(k:Int)
 | 0,r,h=>by cases h
 | k+1,r,h=>by
   have ih:=AHF ws k
   cases hp:RH (k:Int) ws with
   | false=>rw[AHE hp] at h; have:=ih r h; omega
   | true =>
     cases hb:ADC ws k with
     | false =>
       rw[yW hp hb] at h;rcases zV.1 h with h|h
       .have:=ih r h; omega
       .grind
     | true =>
       obtain⟨r0,e1,e2⟩:=AHG hp hb;rw[e2] at h;rcases zV.1 h with h|h
       .have:=ih r (List.dropLast_subset _ h); omega
       .grind
def AGA (ws:List Wg):List Int:=0::ws.flatMap fun w=>[w.lo,w.hi+1]
theorem AR9 (ws:List Wg):(AGA ws).length=1+2*ws.length:=by
 unfold AGA
 have:∀l:List Wg,(l.flatMap fun w=>[w.lo,w.hi+1]).length=2*l.length:=fun l=>by
  induction l with
  | nil=>rfl
  | cons a l ih=>rw[List.flatMap_cons,zA,ih]; simp; omega
 rw[zO,this]; omega
theorem rH {n m:Int}:∀ {ws:List Wg},(∀w∈ws,ZL n w=ZL m w)->RH n ws=RH m ws
 | [],_=>rfl
 | w::ws,h=>by
   unfold RH;rw[h w BA,rH fun x hx=>h x (by simp [hx])]
theorem AWU (hp:RH (k:Int) ws=true)(hb:ADC ws k=false):(k:Int)∈AGA ws:=by
 cases k with
 | zero=>simp [AGA]
 | succ k =>
   have hb:RH (k:Int) ws=false:=hb;apply Classical.byContradiction;intro hn
   have:RH ((k+1:Nat):Int) ws=RH (k:Int) ws:=rH fun w hw=>by
    unfold ZL;have h1:((k+1:Nat):Int)≠w.lo:=fun e=>hn (by unfold AGA; rw[zM,List.mem_flatMap]; exact .inr ⟨w,hw,by rw[e]; simp⟩)
    have h2:((k+1:Nat):Int)≠w.hi+1:=fun e=>hn (by unfold AGA; rw[zM,List.mem_flatMap]; exact .inr ⟨w,hw,by rw[e]; simp⟩)
    have e1:decide (w.lo<=((k+1:Nat):Int))=decide (w.lo<=(k:Int)):=by rw[decide_eq_decide]; omega
    have e2:decide (((k+1:Nat):Int)<=w.hi)=decide ((k:Int)<=w.hi):=by rw[decide_eq_decide]; omega
    rw[e1,e2]
   rw[this,hb] at hp; cases hp
theorem AA4 {α:Type} [DecidableEq α]:∀ {l m:List α},l.Nodup->(∀x∈l,x∈m)->l.length<=m.length
 | [],m,_,_=>Nat.zero_le _
 | a::l,m,h,hs=>by
   have ha:a∈m:=hs a BA;rw[List.nodup_cons] at h;have ih:=AA4 (m:=m.erase a) h.2 fun x hx=>(List.mem_erase_of_ne (fun e=>h.1 (by rw[<-e]; exact hx))).2 (hs x (by simp [hx]))
   rw[List.length_erase_of_mem ha] at ih;have:=List.length_pos_of_mem ha;simp; omega
theorem kT (ws:List Wg):∀k,((runs ws k).map Rng.lo).Nodup∧∀x∈(runs ws k).map Rng.lo,x∈AGA ws∧x<(k:Int)
 | 0=>⟨List.nodup_nil,fun x h=>by cases h⟩
 | k+1=>by
   obtain⟨i1,i2⟩:=kT ws k
   cases hp:RH (k:Int) ws with
   | false=>rw[AHE hp]; exact⟨i1,fun x hx=>⟨(i2 x hx).1,by have:=(i2 x hx).2; omega⟩⟩
   | true =>
     cases hb:ADC ws k with
     | false =>
       rw[yW hp hb,qN];refine⟨List.nodup_append.2 ⟨i1,BA,fun a ha b hbm=>?_⟩,fun x hx=>?_⟩
       .grind
       .rcases zV.1 hx with h|h
        .grind
        .have e:x=(k:Int):=BN h
         rw[e]; exact⟨AWU hp hb,U⟩
     | true =>
       obtain⟨r,e1,e2⟩:=AHG hp hb
       have hm:(runs ws k).dropLast++[r]=runs ws k:=by
        obtain⟨hne,hl⟩:∃h:runs ws k≠[],(runs ws k).getLast h=r:=by
         cases hq:runs ws k with
         | nil=>rw[hq] at e1; cases e1
         | cons a l=>rw[hq] at e1; exact⟨BA,by rw[List.getLast?_eq_some_getLast BA] at e1; exact Option.some.inj e1⟩
        rw[<-hl]; exact List.dropLast_concat_getLast hne
       have e3:(runs ws (k+1)).map Rng.lo=(runs ws k).map Rng.lo:=by grind
       rw[e3];exact⟨i1,fun x hx=>⟨(i2 x hx).1,by have:=(i2 x hx).2; omega⟩⟩
theorem AOO (ws:List Wg)(k:Nat):(runs ws k).length<=1+2*ws.length:=by
 have h:=AA4 (kT ws k).1 fun x hx=>((kT ws k).2 x hx).1
 rw[jJ,AR9] at h; exact h
def oN (nm:ByteArray)(R:List Rng):Ex:=if R=[] then cE 0 else NW (JW nm) R (parts R-1)
def yE (p:Pr)(d:Ds):Ex:=match p.vars[d.var.toNat]? with
 | some v=>oN v.name (runs d.ws (2^v.width.toNat))
 | none=>cE 0
def XA (p:Pr):List Ex:=p.dists.map (yE p)
end Go.Proofs.YtiihpnicbekebaaGreatDoor.Bd.Cl
namespace Go.Proofs.YtiihpnicbekebaaGreatDoor.Ho
open Sm Bins Cov Go.RowKit
variable {a b:List (List Ex)}
theorem APE {α β:Type}(l:List α)(f:α->β):Cov.nm (l.map f)=Cov.nm l:=by cases l<;>rfl
theorem bB (op n:Int)(name:ByteArray)(m:SM)(args:List Ex):cpE (.mk op n name m args)=.mk op n name (Cov.nm args) (args.map cpE):=by
 rw[TF];show Ex.mk op n name (Cov.nm (args.map cpE)) (args.map cpE)=_;rw[APE]
theorem AV8 (e:Ex):cpE (cpE e)=cpE e:=by
 induction e using Ex.induct with|h e ih=>?_
 rw[TF e,bB];simp only[APE];rw[qM];congr 1;exact wG fun x hx=>ih x hx
theorem ARP (e:Ex)(l:List Rng):(insL (cpE e) l).map cpE=(insL e l).map cpE:=by
 unfold insL;rw[jK,jK,AV8]
theorem ACT (e:Ex)(l:List Rng):cpE (IE (cpE e) l)=cpE (IE e l):=by
 rw[TZ,TZ,bB,bB,ARP];rfl
theorem AV7 {a b c d:Ex}(h1:cpE a=cpE c)(h2:cpE b=cpE d):cpE (orE a b)=cpE (orE c d):=by
 unfold orE;rw[bB,bB,jK,jK,jK,jK,h1,h2];rfl
theorem ACS (e:Ex)(L:List Rng):∀k,cpE (NW (cpE e) L k)=cpE (NW e L k)
 | 0=>ACT e _
 | k+1=>AV7 (ACS e L k) (ACT e _)
theorem nJ {e:Ex}{L:List Rng}(h:L≠[]):cpE (QO e L)=cpE (QP e L):=by
 rw[XW e L h,XX e L h,ACS]
def EI (e:Ex)(l:List Rng):Ex:=QO e (normal l)
def F7 (e:Ex)(l:List Rng):Ex:=QP e (normal l)
def notE (e:Ex):Ex:=.mk 4 0 ⟨#[]⟩ .full [e]
def J7 (b:Bin):List Rs:=if b.ranges.l=[] then b.steps else [b.ranges]
def AK4 (x:Option Ex)(c:List (List Ex)):List (List Ex):=match x with
 | none=>c
 | some y=>c.set (c.length-1) (c[c.length-1]?.getD []++[notE y])
def badO (ins:Ex->List Rng->Ex)(p:Pt):Option Ex:=if KA p.bins=[] then none else some (ins p.ex (KA p.bins))
def WQ (ins:Ex->List Rng->Ex)(p:Pt)(b:Bin):List (List Ex):=AK4 (badO ins p) ((J7 b).map fun s=>[ins p.ex s.l])
def OX (cs:List (List (List Ex))):Nat:=cs.foldl (fun n c=>max n c.length) 0
def V3 (n t:Nat)(c:List (List Ex)):List Ex:=if n-c.length<=t then c[t-(n-c.length)]?.getD [] else []
def rowA (n:Nat)(cs:List (List (List Ex)))(t:Nat):List Ex:=cs.flatMap (V3 n t)
def NE (cs:List (List (List Ex))):List (List Ex):=(List.range (OX cs)).map (rowA (OX cs) cs)
theorem AH1:∀(cs:List (List (List Ex))) (a:Nat),a<=cs.foldl (fun n c=>max n c.length) a∧∀c∈cs,c.length<=cs.foldl (fun n c=>max n c.length) a
 | [],a=>⟨Nat.le_refl _,fun c hc=>by cases hc⟩
 | x::cs,a=>by
   obtain⟨h1,h2⟩:=AH1 cs (max a x.length);rw[qP];refine⟨U,fun c hc=>?_⟩;rcases List.mem_cons.1 hc with rfl|hc
   .omega
   .exact h2 c hc
theorem lS {cs:List (List (List Ex))}{c:List (List Ex)}(h:c∈cs):c.length<=OX cs:=(AH1 cs 0).2 c h
theorem V9:∀(cs:List (List (List Ex))) (a b:Nat),a<=b->(∀c∈cs,c.length<=b)->cs.foldl (fun n c=>max n c.length) a<=b
 | [],_,_,h,_=>h
 | x::cs,a,b,h,h2=>by
   rw[qP];exact V9 cs _ b (by have:=h2 x BA; omega) fun c hc=>h2 c (by simp [hc])
theorem rW (cs:List (List (List Ex)))(k:Nat)(hk:k<cs.length):OX (cs.take (k+1))=max (OX (cs.take k)) cs[k].length:=by
 unfold OX;rw[List.take_succ_eq_append_getElem hk,List.foldl_append]; rfl
def eqC (a b:List (List Ex)):Prop:=a.map (·.map cpE)=b.map (·.map cpE)
theorem dK (h:eqC a b):a.length=b.length:=by have:=congrArg List.length h; simpa using this
theorem vW (h:eqC a b)(i:Nat):(a[i]?.getD []).map cpE=(b[i]?.getD []).map cpE:=by
 have e1:(a.map (·.map cpE))[i]?=(b.map (·.map cpE))[i]? := by rw[show a.map (·.map cpE)=b.map (·.map cpE) from h]
 rw[jZ,jZ] at e1
 cases ha:a[i]? <;> cases hb:b[i]? <;> rw[ha,hb] at e1<;>simp at e1|-
 exact e1
theorem AA7 (x:Option Ex)(c:List (List Ex)):(AK4 x c).length=c.length:=by cases x<;>simp [AK4]
theorem AVY {x y:Option Ex}(h:eqC a b)(hx:x.map cpE=y.map cpE):eqC (AK4 x a) (AK4 y b):=by
 cases x with
 | none=>cases y with
   | none=>exact h
   | some y=>cases hx
 | some x=>cases y with
   | none=>cases hx
   | some y =>
     have hxy:cpE x=cpE y:=BN hx;have hl:=dK h;show(a.set (a.length-1) _).map _=(b.set (b.length-1) _).map _;rw[List.map_set,List.map_set,show a.map (·.map cpE)=b.map (·.map cpE) from h,hl,qN,qN,vW h]
     have:cpE (notE x)=cpE (notE y):=by
      unfold notE;rw[bB,bB,jK,jK,hxy];rfl
     rw[jK,jK,this]
theorem AQ1 {p:Pt}{b:Bin}(hs:∀s∈J7 b,normal s.l≠[])(hb:KA p.bins≠[]->normal (KA p.bins)≠[]):eqC (WQ EI p b) (WQ F7 p b):=by
 unfold WQ;refine AVY ?_ ?_
 .show List.map _ (List.map _ _)=List.map _ (List.map _ _)
  rw[qM,qM];refine wG fun s hs'=>?_
  show [cpE (EI p.ex s.l)]=[cpE (F7 p.ex s.l)];unfold EI F7;rw[nJ (hs s hs')]
 .unfold badO
  split
  .rfl
  .rename_i h
   show some (cpE _)=some (cpE _);unfold EI F7;rw[nJ (hb h)]
theorem ATW (h:eqC a b)(n t:Nat):(V3 n t a).map cpE=(V3 n t b).map cpE:=by
 unfold V3;rw[dK h];split
 .exact vW h _
 .rfl
theorem AL1 {us vs:List (List (List Ex))}(h:us.length=vs.length)(hc:∀i (h1:i<us.length) (h2:i<vs.length),eqC us[i] vs[i]):eqC (NE us) (NE vs):=by
 have gen:∀(us vs:List (List (List Ex))),us.length=vs.length->(∀i (h1:i<us.length) (h2:i<vs.length),eqC us[i] vs[i])->(∀a,us.foldl (fun n c=>max n c.length) a=vs.foldl (fun n c=>max n c.length) a)∧∀n t,(us.flatMap (V3 n t)).map cpE=(vs.flatMap (V3 n t)).map cpE:=by
  intro us
  induction us with
  | nil=>intro vs h _; cases vs with
    | nil=>exact⟨fun _=>rfl,fun _ _=>rfl⟩
    | cons y ys=>simp at h
  | cons x xs ih =>
    intro vs h hc
    cases vs with
    | nil=>simp at h
    | cons y ys =>
      obtain⟨i1,i2⟩:=ih ys (BN h) fun i h1 h2=>hc (i+1) (BN h1) (BN h2)
      have h0:eqC x y:=hc 0 BA BA;refine⟨fun a=>?_,fun n t=>?_⟩
      .rw[qP,qP,dK h0,i1]
      .rw[List.flatMap_cons,List.flatMap_cons,qN,qN,i2,ATW h0]
 obtain⟨g1,g2⟩:=gen us vs h hc;have hl:OX us=OX vs:=g1 0;show(List.map _ _).map _=(List.map _ _).map _;rw[hl,qM,qM];exact wG fun t _=>g2 _ _
end Go.Proofs.YtiihpnicbekebaaGreatDoor.Ho
namespace Go.Proofs.YtiihpnicbekebaaGreatDoor.Bins
open Sm
variable {xs:List Rng}
def inI (r:Rng):Prop:=(-9223372036854775808<=r.lo∧r.lo<=9223372036854775807)∧-9223372036854775808<=r.hi∧r.hi<=9223372036854775807
structure Inv (ps out:List Rng):Prop where
 f:∀r∈out,full r=true∧inI r
 pw:out.Pairwise (fun a b=>a.lo<=b.lo)
 gap:∀(i:Nat) (a b:Rng),out[i]?=some a->out[i+1]?=some b->glue a b=false
 ins:∀v,inside out v=inside ps v
 low:∀r∈out,∃p∈ps,r.lo=p.lo
theorem OI (xs ys:List Rng)(v:Int):inside (xs++ys) v=(inside xs v||inside ys v):=by simp [inside]
theorem AFK {t r:Rng}(ht:full t=true∧inI t)(hr:full r=true∧inI r)(hlo:t.lo<=r.lo)(hg:glue t r=true)(v:Int):
  (decide (t.lo<=v)&&decide (v<=max t.hi r.hi))=((decide (t.lo<=v)&&decide (v<=t.hi))||(decide (r.lo<=v)&&decide (v<=r.hi))):=by
 obtain⟨h1,⟨h2,h3⟩,h4,h5⟩:=ht;obtain⟨k1,⟨k2,k3⟩,k4,k5⟩:=hr;simp only[full,decide_eq_true_eq] at h1 k1
 have hg':r.lo<=t.hi+1:=by
  simp only[glue,qJ,decide_eq_true_eq] at hg;rcases hg with hg|hg
  .omega
  .rcases (U : -9223372036854775808<r.lo∨r.lo<=-9223372036854775808) with h|h
   .rw[wrap_i64 U U] at hg; omega
   .omega
 rw[wO];simp only[jU,qJ,decide_eq_true_eq];omega
theorem Inv.step {ps out:List Rng}(h:Inv ps out){r:Rng}(hr:full r=true∧inI r)(hlo:∀p∈ps,p.lo<=r.lo):Inv (ps++[r]) (join out r):=by
 have hall:∀x∈out,x.lo<=r.lo:=fun x hx=>by obtain⟨p,hp,e⟩:=h.low x hx; have:=hlo p hp; omega
 have hone:∀v,inside [r] v=(decide (r.lo<=v)&&decide (v<=r.hi)):=fun v=>by simp [inside]
 have plain:(∀t,out.getLast?=some t->glue t r=false)->Inv (ps++[r]) (out++[r]):=by
  intro hng;refine⟨?_,?_,?_,?_,?_⟩
  .intro x hx
   rw[zV] at hx;rcases hx with hx|hx
   .exact h.f x hx
   .simp at hx; subst hx; exact hr
  .rw[List.pairwise_append]
   exact⟨h.pw,BA,fun a ha b hb=>by simp at hb; subst hb; exact hall a ha⟩
  .intro i a b ha hb
   rcases zF (i+1) out.length with h1|h1
   .rw[qC U] at ha hb
    exact h.gap i a b ha hb
   .grind
  .intro v; rw[OI,OI,h.ins]
  .intro x hx
   rw[zV] at hx;rcases hx with hx|hx
   .obtain⟨p,hp,e⟩:=h.low x hx; exact⟨p,by simp [hp],e⟩
   .simp_all
 unfold join
 cases hl:out.getLast? with
 | none=>exact plain (fun t ht=>by rw[hl] at ht; cases ht)
 | some t =>
   obtain⟨ini,rfl⟩:∃ini,out=ini++[t]:=by
    obtain⟨ini,hi⟩:=List.getLast?_eq_some_iff.1 hl;exact⟨ini,hi⟩
   cases hg:glue t r with
   | false=>simp only[hg,Bool.false_eq_true,if_false]; exact plain (fun t' ht'=>by rw[hl] at ht'; cases ht'; exact hg)
   | true =>
     simp only[hg,if_true,List.dropLast_concat];have ht:=h.f t BA;have htl:=hall t BA
     have hft:full ⟨t.lo,max t.hi r.hi⟩=true:=by
      have h1:=ht.1
      simp only[full,decide_eq_true_eq] at h1|-
      omega
     refine⟨?_,?_,?_,?_,?_⟩
     .intro x hx
      rw[zV] at hx;rcases hx with hx|hx
      .exact h.f x (by simp [hx])
      .simp at hx; subst hx
       refine⟨hft,?_⟩;obtain⟨_,⟨h2,h3⟩,h4,h5⟩:=ht;obtain⟨_,⟨k2,k3⟩,k4,k5⟩:=hr;exact⟨⟨h2,h3⟩,by show _<=max t.hi r.hi; omega,by show max t.hi r.hi<=_; omega⟩
     .have hp:=h.pw
      rw[List.pairwise_append] at hp|-
      exact⟨hp.1,BA,fun a ha b hb=>by simp at hb; subst hb; exact hp.2.2 a ha t BA⟩
     .intro i a b ha hb
      rcases zF (i+1) ini.length with h1|h1
      .rw[qC U] at ha hb
       exact h.gap i a b (by rw[qC U]; exact ha) (by rw[qC U]; exact hb)
      .have h2:i+1=ini.length:=by
        have:=AC hb;simp at this; omega
       rw[List.getElem?_append_right h1,h2] at hb;rw[qC U] at ha;simp at hb; subst hb;have:=h.gap i a t (by rw[qC U]; exact ha) (by rw[List.getElem?_append_right h1,h2]; simp)
       unfold glue at this|-
       exact this
     .intro v
      rw[OI,OI,<-h.ins,OI,hone,Bool.or_assoc];congr 1;have:=AFK ht hr htl hg v;simp only[inside,List.any_cons,List.any_nil,Bool.or_false];exact this
     .intro x hx
      rw[zV] at hx;rcases hx with hx|hx
      .obtain⟨p,hp,e⟩:=h.low x (by simp [hx]); exact⟨p,by simp [hp],e⟩
      .simp at hx; subst hx
       obtain⟨p,hp,e⟩:=h.low t BA;exact⟨p,by simp [hp],e⟩
theorem Inv.fold:∀(xs ps out:List Rng),Inv ps out->(ps++xs).Pairwise (fun a b=>a.lo<=b.lo)->(∀r∈xs,full r=true∧inI r)->Inv (ps++xs) (xs.foldl join out)
 | [],ps,out,h,_,_=>BN h
 | x::xs,ps,out,h,hp,hf=>by
   have e:ps++x::xs=(ps++[x])++xs:=BA
   rw[e] at hp|-
   have hp1:=(List.pairwise_append.1 hp).1;exact Inv.fold xs (ps++[x]) (join out x) (h.step (hf x BA) fun p hp2=>(List.pairwise_append.1 hp1).2.2 p hp2 x BA) hp (fun r hr=>hf r (by simp [hr]))
theorem AEZ (hx:∀r∈xs,inI r):Inv ((xs.filter full).mergeSort fK) (normal xs):=by
 have hs:((xs.filter full).mergeSort fK).Pairwise (fun a b=>a.lo<=b.lo):=by
  have:=List.pairwise_mergeSort (le:=fK) (fun a b c h1 h2=>by simp [fK] at *; omega) (fun a b=>by simp [fK]; omega) (xs.filter full);exact this.imp fun {a b} h=>by simpa [fK] using h
 have:=Inv.fold ((xs.filter full).mergeSort fK) [] [] ⟨BA,.nil,BA,fun _=>rfl,BA⟩ (BN hs) (fun r hr=>by
  rw[List.mem_mergeSort,List.mem_filter] at hr
  exact⟨hr.2,hx r hr.1⟩)
 unfold normal Y6;simpa using this
theorem ABN {ys:List Rng}(h:xs.Perm ys)(v:Int):inside xs v=inside ys v:=by
 unfold inside;rw[wO,qL,qL];exact⟨fun⟨r,h1,h2⟩=>⟨r,h.mem_iff.1 h1,h2⟩,fun⟨r,h1,h2⟩=>⟨r,h.mem_iff.2 h1,h2⟩⟩
theorem ABO (xs:List Rng)(v:Int):inside (xs.filter full) v=inside xs v:=by
 unfold inside;rw[wO,qL,qL];constructor
 .grind
 .rintro⟨r,h1,h2⟩
  refine⟨r,List.mem_filter.2 ⟨h1,?_⟩,h2⟩;simp only[jU,decide_eq_true_eq] at h2;simp only[full,decide_eq_true_eq];omega
theorem oV (hx:∀r∈xs,inI r)(v:Int):inside (normal xs) v=inside xs v:=by
 rw[(AEZ hx).ins,ABN (List.mergeSort_perm _ _),ABO]
end Go.Proofs.YtiihpnicbekebaaGreatDoor.Bins
namespace Go.Proofs.YtiihpnicbekebaaGreatDoor.Ho
open Sm Bins Cov Go.RowKit
variable {b:Bin} {p:Pt} {X:List Ex} {N n ob t:Nat} {H h:Hp} {v:Nat->AV} {c:List (List Ex)} {e:Ex}
theorem AEF (b:Bin):sets b=J7 b:=by
 unfold sets J7
 cases h:b.ranges.l with
 | nil=>rfl
 | cons x xs=>rw[if_pos BA,if_neg BA]
structure VB (b:Bin):Prop where
 one:b.steps=[]∨b.ranges.l=[]
 ne:J7 b≠[]
 few:(J7 b).length<=8
 k0:0<=b.kind
 k2:b.kind<=2
 sk:b.kind≠0->b.steps=[]
 each:∀s∈J7 b,s.l≠[]∧s.l.length<=64∧∀r∈s.l,0<=r.lo∧r.lo<=r.hi∧r.hi<=65535
theorem A1X (h:II b=0):VB b:=by
 unfold II at h;split at h
 case isFalse=>cases h
 split at h
 case isTrue=>cases h
 rename_i h1 h2;split at h
 case isTrue=>cases h
 rename_i h3;split at h
 case isTrue=>cases h
 rename_i h4;split at h
 case isTrue=>cases h
 rename_i h5;have h2':JP b=false:=BN h2;unfold JP at h2';simp only[wC,decide_eq_false_iff_not,Bool.and_eq_false_iff] at h2';obtain⟨⟨⟨⟨⟨q1,q2⟩,q3⟩,q4⟩,q5⟩,q6⟩:=h2'
 have hst:∀s∈b.steps,s.l≠[]:=fun s hs e=>by
  have:b.steps.any (fun l=>decide (l.l.length=0))=true:=qL.2 ⟨s,hs,by rw[e]; rfl⟩;exact h3 this
 have h64:∀s∈sets b,s.l.length<=64:=fun s hs=>by
  rcases Nat.lt_or_ge 64 s.l.length with q|q
  .simp_all
  .exact q
 have hbad:∀s∈sets b,∀r∈s.l,bad r=false:=fun s hs r hr=>by
  cases hb:bad r with
  | false=>rfl
  | true=>exact absurd (qL.2 ⟨s,hs,qL.2 ⟨r,hr,hb⟩⟩) h5
 have hone:b.steps=[]∨b.ranges.l=[]:=by
  rcases Classical.em (b.steps=[]) with q|q
  .exact .inl q
  .refine .inr ?_
   have l1:0<b.steps.length:=qV.2 q;rcases Classical.em (b.ranges.l=[]) with r|r
   .exact r
   .simp_all
 have hne:b.steps≠[]∨b.ranges.l≠[]:=by grind
 rw[AEF] at h64 hbad;refine⟨hone,?_,?_,U,U,fun hk=>?_,fun s hs=>⟨?_,h64 s hs,fun r hr=>?_⟩⟩
 .unfold J7
  split
  .simp_all
  .exact List.cons_ne_nil _ _
 .unfold J7
  split
  .simp at q6; omega
  .simp
 .simp_all
 .unfold J7 at hs
  split at hs
  .exact hst s hs
  .simp_all
 .have:=hbad s hs r hr
  unfold bad at this;simp only[wC,decide_eq_false_iff_not] at this;omega
structure VP (p:Pt):Prop where
 n1:1<=p.bins.length
 n64:p.bins.length<=64
 ex:exE p.ex=0
 bins:∀b∈p.bins,VB b
theorem A1W (h:GL p=0):VP p:=by
 obtain⟨h1,h2⟩:=gK h;unfold GL at h;split at h
 .cases h
 split at h
 .rename_i q; exact absurd h q
 rename_i q1;split at h
 .cases h
 split at h
 .cases h
 split at h
 .rename_i q; exact absurd h q
 rename_i q2;exact⟨h1,h2,BN q1,fun b hb=>A1X (X5 _ (BN q2) b hb)⟩
theorem kI {m:Mo}(h:F8 m=0):∀p∈m.pts,VP p:=by
 unfold F8 at h;split at h
 .cases h
 split at h
 .rename_i q; exact absurd h q
 rename_i q;exact fun p hp=>A1W (X5 _ (BN q) p hp)
theorem nU {n:Nat}:∀ {l:List Bin},(∀b∈l,b.kind≠0->b.ranges.l.length<=n)->(KA l).length<=n*l.length
 | [],_=>by simp [KA]
 | b::l,h=>by
   have ih:=nU (l:=l) fun b hb=>h b (by simp [hb])
   show((if b.kind≠0 then b.ranges.l else [])++KA l).length<=n*(l.length+1);rw[zA,Nat.mul_add];by_cases hk:b.kind≠0
   .grind
   .rw[if_neg hk,zJ]; omega
theorem VB.ranges {b:Bin}(v:VB b)(hk:b.kind≠0):J7 b=[b.ranges]:=by
 rcases Classical.em (b.ranges.l=[]) with q|q
 .have h1:=setsB_nil' q
  have h2:=v.ne;rw[h1,v.sk hk] at h2; exact absurd rfl h2
 .unfold J7; rw[if_neg q]
 where setsB_nil' {b:Bin} (h:b.ranges.l=[]):J7 b=b.steps:=by unfold J7; rw[if_pos h]
theorem VP.badLen (v:VP p):(KA p.bins).length<=4096:=by
 have:=nU (n:=64) (l:=p.bins) fun b hb hk=>((v.bins b hb).each b.ranges (by rw[(v.bins b hb).ranges hk]; simp)).2.1
 have:=v.n64;omega
theorem ADF {r:Rng}:∀ {l:List Bin},r∈KA l->∃b∈l,b.kind≠0∧r∈b.ranges.l
 | b::l,h=>by
   rcases List.mem_append.1 (show r∈(if b.kind≠0 then b.ranges.l else [])++KA l from h) with h|h
   .simp_all
   .obtain⟨b',h1,h2⟩:=ADF h; exact⟨b',by simp [h1],h2⟩
theorem VP.badOk (v:VP p):∀r∈KA p.bins,0<=r.lo∧r.lo<=r.hi∧r.hi<=65535:=fun r hr=>by
 obtain⟨b,hb,hk,hr⟩:=ADF hr;exact((v.bins b hb).each b.ranges (by rw[(v.bins b hb).ranges hk]; simp)).2.2 r hr
theorem AA0 {xs:List Rng}(h:∀r∈xs,0<=r.lo∧r.lo<=r.hi∧r.hi<=65535)(v:Int):inside (normal xs) v=inside xs v:=oV (fun r hr=>by have:=h r hr; unfold inI; omega) v
theorem rN {xs:List Rng}(h:∀r∈xs,0<=r.lo∧r.lo<=r.hi∧r.hi<=65535)(hx:xs≠[]):normal xs≠[]:=by
 intro e
 cases xs with
 | nil=>exact hx rfl
 | cons r rs =>
   have h1:=AA0 h r.lo;rw[e] at h1;have h2:inside (r::rs) r.lo=true:=qL.2 ⟨r,BA,by have:=h r BA; simp; omega⟩;rw[h2] at h1; cases h1
def bA (l:List Ex):List AV:=AYE ⟨.any,l⟩
def rowF (x:Ex):List AV:=[.sl .full 4 [AU x]]
def JU (X:List Ex):Ex:=X[X.length-1]?.getD (cE 0)
def XC (X:List Ex):Option Ex->List (List AV)
 | none=>X.map rowF
 | some y=>(X.map rowF).set (X.length-1) [.sl .any 4 [AU (JU X),AU (notE y)]]
theorem rC (X:List Ex)(y:Option Ex):(XC X y).length=X.length:=by cases y<;>simp [XC]
theorem AHH (x:Ex):CvRow (rowF x) (bA [x]):=CvRow.cons rfl (Cv.any BA 4 _) CvRow.nil
theorem AAB (X:List Ex)(y:Option Ex):Cv (.sl .any 1 (XC X y)) (.sl .any 1 ((AK4 y (X.map fun x=>[x])).map bA)):=by
 refine Cv.rows (by rw[jJ,AA7,jJ,rC]) fun i r r' h1 h2=>?_
 cases y with
 | none =>
   change ((X.map fun x=>[x]).map bA)[i]?=some r' at h2;change (X.map rowF)[i]?=some r at h1;rw[qM,jZ] at h2;rw[jZ] at h1
   cases hx:X[i]? with
   | none=>rw[hx] at h1; cases h1
   | some x =>
     rw[hx] at h1 h2;cases h1; cases h2;exact AHH x
 | some y =>
   change (((X.map fun x=>[x]).set ((X.map fun x=>[x]).length-1) ((X.map fun x=>[x])[(X.map fun x=>[x]).length-1]?.getD []++[notE y])).map bA)[i]?=some r' at h2;change ((X.map rowF).set (X.length-1) [.sl .any 4 [AU (JU X),AU (notE y)]])[i]?=some r at h1;have hi:i<X.length:=by have:=AC h1; simpa using this
   rw[zN] at h1;rw[jZ,zN] at h2;by_cases e:X.length-1=i
   .have hl:(X.map fun x=>[x])[X.length-1]?.getD []=[JU X]:=by
     unfold JU;rw[jZ,jM U]; rfl
    rw[if_pos e,if_pos (by simpa using U)] at h1;rw[jJ,if_pos e,if_pos U,hl] at h2;cases h1; cases h2;exact CvRow.cons rfl (Cv.refl _) CvRow.nil
   .rw[if_neg e] at h1
    rw[jJ,if_neg e,jZ] at h2;rw[jZ,jM hi] at h1;rw[jM hi] at h2;cases h1; cases h2;exact AHH _
theorem rY (h:X≠[]):X[X.length-1]?=some (JU X):=by
 have:0<X.length:=qV.2 h;unfold JU;rw[jM U]; rfl
theorem iV:Frz rowF:=fun _ _ _ _=>⟨rfl,rfl⟩
theorem ALP {n:Nat}{H:Hp}{ob nb:Nat}{X:List Ex}{y:Ex}(h1:n<=ob)(h2:n<=nb)(_:X≠[])(g:H[ob]?=some (zZ 1 ((X.map rowF).set (X.length-1) [.own nb 0 2])))
  (gn:H[nb]?=some (zZ 4 [AU (JU X),AU (notE y)])):FN n H 4 (.own ob 0 X.length)=.sl .any 1 (XC X (some y)):=by
 have e2:FN n H 3 (.own nb 0 2)=.sl .any 4 [AU (JU X),AU (notE y)]:=frz_own (f:=AU) (xs:=[JU X,notE y]) (d:=1) frzEx h2 gn;rw[Cov.frzF_own n H 3 ob 0 X.length 1 _ U g,zI,jI BA,List.map_set,jK,jP,e2,frz_rows iV n H 2 X];rw[if_pos]
 .rfl
 refine⟨BA,?_⟩;rw[zH];intro row hr;rcases List.mem_or_eq_of_mem_set hr with hr|rfl
 .obtain⟨x,_,rfl⟩:=zQ.1 hr; rfl
 .rfl
theorem ALQ {y:Ex}(h1:n<=ob)(g:H[ob]?=some (zZ 1 (XC X (some y)))):FN n H 4 (.own ob 0 X.length)=.sl .any 1 (XC X (some y)):=by
 have hl:=rC X (some y)
 have hm:(XC X (some y)).map (·.map (FN n H 3))=XC X (some y):=by
  show((X.map rowF).set (X.length-1) _).map _=_;rw[List.map_set,frz_rows iV n H 2 X]; rfl
 rw[Cov.frzF_own n H 3 ob 0 X.length 1 _ U g,zI,jI U,hm];rw[if_pos];refine⟨U,?_⟩;rw[zH];intro row hr;rcases List.mem_or_eq_of_mem_set hr with hr|rfl
 .obtain⟨x,_,rfl⟩:=zQ.1 hr; rfl
 .rfl
structure BdB (p:Pt) (b:Bin):Prop where
 hs:J7 b≠[]
 hl:(J7 b).length<=1048576
 hr:∀s∈J7 b,s.l.length<=1048576
 hb:(KA p.bins).length<=1048576
 hn:p.bins.length<=1048576
 hw:wt p.ex<=1048576
theorem A7C (h:Hp)(m:SM)(xs:List (List AV)):C9 jA false h 85 1 [(0,.sl m 2 xs)]=some (.sl .full 1 [[.sl m 2 xs]],h):=A8
theorem ARY (h:Hp)(a b:Int)(s:ByteArray)(m:SM)(xs:List (List AV)):C9 jA false h 23 1 [(0,.agg [.n a,.n b,.str s,.sl m 4 xs])]=some (.sl .full 4 [[.n a,.n b,.str s,.sl m 4 xs]],h):=A8
theorem dU (h:Hp)(e:Ex):C9 jA false h 23 1 [(0,.agg (AU e))]=some (.sl .full 4 [AU e],h):=by
 rw[EW]; exact ARY h _ _ _ _ _
theorem AJF (h:Hp)(m:SM)(xs:List (List AV)):C9 jA false h 100 1 [(0,.sl m 4 xs)]=some (.sl .full 1 [[.sl m 4 xs]],h):=A8
theorem AYQ (xs:List (List AV)):G7 jA 79 [(0,.n 4),(3,.sl .full 4 xs)]=some (.agg [.n 4,.n 0,.str ⟨#[]⟩,.sl .full 4 xs]):=A8
theorem AAZ (e:Ex):AU (notE e)=[.n 4,.n 0,.str ⟨#[]⟩,.sl .full 4 [AU e]]:=by rw[EW]; rfl
theorem AH2 {b:Nat}{x:Bin}(hb:H[b]?=some (zZ 4 [IP x])):BU jA H 85 (.ptr b 0 3)=some (.sl x.sm 1 (x.steps.map encS)):=by
 rw[BL WH hb (row:=IP x) rfl,VC]
theorem A28 {b:Nat}(hb:H[b]?=some (zZ 6 [FY p])):BU jA H 82 (.ptr b 0 0)=some (.agg (FY p)):=by
 rw[EH fS ZI hb rfl (by rw[IW]; exact jF 6),zI,<-IW p,List.take_length]
theorem UZ (h:b.ranges.l=[]):J7 b=b.steps:=by unfold J7; rw[if_pos h]
theorem aI (h:b.ranges.l≠[]):J7 b=[b.ranges]:=by unfold J7; rw[if_neg h]
section
variable (G:Nat->AV)
theorem nL (p:Pt)(k:Nat)(hk:k<p.bins.length)(B:BdB p p.bins[k])(h:Hp):PCall (En G) 93 [.agg (FY p),.n (k:Nat)] h (.sl .any 1 ((WQ EI p p.bins[k]).map bA)):=by
 have hcv:=AAB ((J7 p.bins[k]).map fun s=>EI p.ex s.l) (badO EI p);have hcl:(((J7 p.bins[k]).map fun s=>EI p.ex s.l).map fun x=>[x])=(J7 p.bins[k]).map fun s=>[EI p.ex s.l]:=by rw[qM]; rfl
 rw[hcl] at hcv;refine PCall.res ?_ (CvR.sl hcv);clear hcv hcl;refine ACalls.pure (R:=fun v H=>Sm.ext h H∧FN h.length H 4 v=.sl .any 1 (XC ((J7 p.bins[k]).map fun s=>EI p.ex s.l) (badO EI p))) 4 ?_ (fun v H ⟨a,b⟩=>⟨a,b⟩);have hb1:=B.hs; have hb2:=B.hl; have hb3:=B.hr; have hb4:=B.hb; have hb5:=B.hn; have hb6:=B.hw;refine H6 (H:=hint [61] []) (enM G) Tryz.func93 rfl (by kernel_rfl) (by kernel_rfl) (jC (by kernel_rfl)) ?_;show awp _ _ _ _ _ (LU _ [.tmp 4] _);have gp:=AL (x:=zZ 4 [IP p.bins[k]]) (A7 h (zZ 6 [FY p]));have gb:=A7 (h++[zZ 6 [FY p]]) (zZ 4 [IP p.bins[k]]);have hx:Sm.ext h (h++[zZ 6 [FY p]]++[zZ 4 [IP p.bins[k]]]):=((ext.rfl' h).app _).app _;simp -implicitDefEqProofs only[vQ,jW,jR,jS,zK,CV,YJ,SS,↓reduceIte,jB,enP,XV,KI,mR,jO,AWL,ALB (A7 h (zZ 6 [FY p])),CQ hk,DR nY cB LJ hk,al79,st79 _ _ [.str ⟨#[]⟩,.n 0,.sl .nil 0 [],.sl .nil 0 []] rfl]
 generalize h++[zZ 6 [FY p]]++[zZ 4 [IP p.bins[k]]]=H0 at gp gb hx|-
 generalize (h++[zZ 6 [FY p]]).length=b5 at gb|-
 generalize p.bins[k]=b at gb hb1 hb2 hb3|-
 refine BB (AH2 gb) (AH3 gb) ?_;refine TJ (fun F H=>∃s,F 2=.ptr h.length 0 0∧F 6=.sl s 1 ((J7 b).map encS)∧H=H0) (fun _ _=>False) (fun hc=>?_) (fun hc=>?_) ?_ (fun _ _ q=>q.elim)
 .have hne:b.ranges.l≠[]:=by
   intro q;rw[q] at hc; exact absurd hc D5
  refine BB (AH3 gb) A7C ?_;exact⟨_,AZ,by rw[aI hne]; exact rfl,AZ⟩
 .have he:b.ranges.l=[]:=by
   have:=of_decide_eq_false hc;exact wJ.1 U
  refine AO ?_;exact⟨_,AZ,by rw[UZ he],AZ⟩
 rintro F H ⟨s,f2,f6,rfl⟩
 generalize J7 b=S at f6 hb1 hb2 hb3|-
 refine BC f6 ?_;refine ET 0 (fun F H'=>∃v,F 2=.ptr h.length 0 0∧F 7=v∧Sm.ext H H'∧outG 1 rowF H (S.map fun s=>EI p.ex s.l) v H') (fun _ _=>False) ?_ ?_ (fun _ _ q=>q.elim)
 .refine BI (fun n F H'=>∃i v,n+i=S.length∧F 2=.ptr h.length 0 0∧F 7=v∧F 26=.sl s 1 (S.map encS)∧F 27=.n (S.length:Nat)∧F 28=.n (i:Nat)∧Sm.ext H H'∧outG 1 rowF H ((S.take i).map fun s=>EI p.ex s.l) v H') S.length
   ⟨0,.sl .nil 0 [],BA,Q8 f2,FI,Q8 f6,FI,FI,ext.rfl' _,by rw[qB]; exact outG.nil _ _ _ _⟩ ?_
  clear f2 f6;rintro n F H' ⟨i,v,hi,f2,f7,f26,f27,f28,hxH,ho⟩;refine BB f27 f28 ?_;refine D8 ?_ ?_<;>intro hi'
  .have gp':=ED hxH gp
   have hlen:((S.take i).map fun s=>EI p.ex s.l).length<8388608:=by rw[jJ,jV]; omega
   obtain⟨v',H2,ha,ho2,_,he2,_,_⟩:=ho.append (P:=jA) kL kO pT nP U hlen hxH (EI p.ex S[i].l);have ha':EG jA true H' 100 100 v (.sl .full 1 [[.sl .full 4 [AU (EI p.ex S[i].l)]]])=some (v',H2):=ha
   have hst:(S.take (i+1)).map (fun s=>EI p.ex s.l)=(S.take i).map (fun s=>EI p.ex s.l)++[EI p.ex S[i].l]:=by
    rw[jY hi',qN]; rfl
   simp -implicitDefEqProofs only[vQ,jW,jR,jS,zK,CV,↓reduceIte,jB,enP,aX,pA,f2,f7,f26,f28,CQ hi',CG QI hi',gU,ABG gp'];have hin:PCall (En G) 168 [.agg (AU p.ex),.sl S[i].m 2 (S[i].l.map encR)] H' (.agg (AU (EI p.ex S[i].l))):=inside_prog G p.ex S[i].l S[i].m (hb3 _ (jH hi')) hb6 H';refine hin.use ?_;refine MV f7 f28 @dU @AJF ha' (DF i) ?_;exact⟨n-1,U,i+1,v',U,AZ,AZ,AZ,AZ,AZ,he2,by rw[hst]; exact ho2⟩
  .rw[jI U] at ho
   refine AO ?_;exact⟨v,AZ,AZ,hxH,ho⟩
 rintro F H' ⟨v,f2,f7,hxH,ho⟩;clear f6;have gp':=ED hxH gp;refine BB f2 (A28 gp') ?_;refine(ASE G p hb5 hb4 H').uu ?_;have hSl:0<S.length:=qV.2 hb1
 obtain⟨ob,rfl,hob1,hob⟩:∃ob,v=.own ob 0 S.length∧H.length<=ob∧H'[ob]?=some (zZ 1 ((S.map fun s=>EI p.ex s.l).map rowF)):=by
  rcases ho with⟨e1,_⟩|⟨_,o,h1,h2,h3⟩
  .exact absurd (BN e1) hb1
  .exact⟨o,by rw[h2,jJ],h1,h3⟩
 have hXl:(S.map fun s=>EI p.ex s.l).length=S.length:=BA;have hX0:(S.map fun s=>EI p.ex s.l)≠[]:=BN hb1;have hhx:=hx.trans hxH;have hl0:=hx.le
 generalize (S.map fun s=>EI p.ex s.l)=X at hob hXl hX0|-
 refine CE ?_ ?_<;>intro hc
 .have hbad:KA p.bins≠[]:=by
   intro q;rw[q] at hc; exact absurd hc D5
  have hbo:badO EI p=some (EI p.ex (KA p.bins)):=by unfold badO; rw[if_neg hbad]
  rw[hbo];have hw1:IntKind.i64.wrap (((S.length:Nat):Int)-1)=((S.length-1:Nat):Int):=by rw[wrap_i64 U U]; omega
  have hin:PCall (En G) 168 [.agg (AU p.ex),.sl (Cov.nm (KA p.bins)) 2 ((KA p.bins).map encR)] H' (.agg (AU (EI p.ex (KA p.bins)))):=inside_prog G p.ex (KA p.bins) (Cov.nm (KA p.bins)) hb4 hb6 H'
  generalize EI p.ex (KA p.bins)=y at hin|-
  have hlast:(X.map rowF)[S.length-1]?=some (rowF (JU X)):=by
   rw[jZ,<-hXl,rY hX0]; rfl
  have i1:JJ 1 H' (.own ob 0 S.length) (.n ((S.length-1:Nat):Int))=some (.ptr ob (S.length-1) 0):=by rw[H8 hob U,jG]
  have d1:BU jA H' 23 (.ptr ob (S.length-1) 0)=some (.sl .full 4 [AU (JU X)]):=by rw[BL MO hob hlast]; rfl
  have ha:EG jA true H' 23 23 (.sl .full 4 [AU (JU X)]) (.sl .full 4 [FK])=some (.own H'.length 0 2,H'++[zZ 4 ([AU (JU X)]++[FK])]) :=
   dZ SV JL ZG YG (G5 H' .full 4 [FK]) BA (IV BA U)
  have gN:=A7 H' (zZ 4 ([AU (JU X)]++[FK]));have gO:=AL (x:=zZ 4 ([AU (JU X)]++[FK])) hob;have lob:=AC hob;have i2:JJ 4 (H'++[zZ 4 ([AU (JU X)]++[FK])]) (.own H'.length 0 2) (.n ((1:Nat):Int))=some (.ptr H'.length 1 0):=H8 (n:=1) gN D5;have i3:JJ 1 (H'++[zZ 4 ([AU (JU X)]++[FK])]) (.own ob 0 S.length) (.n ((S.length-1:Nat):Int))=some (.ptr ob (S.length-1) 0):=by rw[H8 gO U,jG]
  have hHx:=hhx.app [zZ 4 ([AU (JU X)]++[FK])];generalize H'++[zZ 4 ([AU (JU X)]++[FK])]=H2 at gN gO i2 i3 ha hHx;generalize hnb:H'.length=nb at gN i2 ha lob
  have hsN:∀Hq:Hp,Hq[nb]?=some (zZ 4 ([AU (JU X)]++[FK]))->DW jA Hq 79 (.ptr nb 1 0) (.agg [.n 4,.n 0,.str ⟨#[]⟩,.sl .full 4 [AU y]])=some (Hq.set nb (zZ 4 [AU (JU X),AU (notE y)])):=fun Hq hq=>by
   rw[IC (i:=1) (O7 rfl) JL hq rfl (jF 4),AAZ]; rfl
  have hsO:∀Hq:Hp,Hq[ob]?=some (zZ 1 (X.map rowF))->DW jA Hq 23 (.ptr ob (S.length-1) 0) (.own nb 0 2)=some (Hq.set ob (zZ 1 ((X.map rowF).set (X.length-1) [.own nb 0 2]))):=fun Hq hq=>by
   rw[IC (cs:=[.own nb 0 2]) rfl kO hq hlast (by exact jF 1),hXl]; rfl
  have q1:=hsN H2 gN;have q2:=hsO (H2.set nb (zZ 4 [AU (JU X),AU (notE y)])) (CZ gO U);have q3:=hsO H2 gO;have q4:=hsN (H2.set ob (zZ 1 ((X.map rowF).set (X.length-1) [.own nb 0 2]))) (CZ gN U);rw[List.set_comm _ _ (U:ob≠nb)] at q4;clear hsN hsO;have gF1:((H2.set nb (zZ 4 [AU (JU X),AU (notE y)])).set ob (zZ 1 ((X.map rowF).set (X.length-1) [.own nb 0 2])))[ob]?=some (zZ 1 ((X.map rowF).set (X.length-1) [.own nb 0 2])):=CP (CZ gO U);have gF2:((H2.set nb (zZ 4 [AU (JU X),AU (notE y)])).set ob (zZ 1 ((X.map rowF).set (X.length-1) [.own nb 0 2])))[nb]?=some (zZ 4 [AU (JU X),AU (notE y)]):=CZ (CP gN) U;have hF:=(hHx.set (U:h.length<=nb) (zZ 4 [AU (JU X),AU (notE y)])).set (U:h.length<=ob) (zZ 1 ((X.map rowF).set (X.length-1) [.own nb 0 2]));have hfz:=ALP (n:=h.length) (y:=y) U U hX0 gF1 gF2;refine DT f7 @WM.2 hw1 ?_;refine ADI [] [0,1,2,3,4,5,6,7,8,9,10,11,12,13,15] 14 16 [] A8 trivial ?_;simp only[MR,List.getElem?_cons_succ,List.getElem?_cons_zero];refine I7 f2 f7 i1 d1 (ABG gp') ?_;refine⟨_,hin,?_⟩
  try simp -implicitDefEqProofs only[vQ,jW,jR,jS,zK,MN,VO,JD,NG,IY,CV,LD,I8,↓reduceIte,jB,jL,enP,RN,AE8,sA,jO,dU,AYQ,A45,AYM,ha,i2,i3,zO,zJ,q1,q2,q3,q4]
  rw[f7,<-hXl,hfz];exact⟨⟨hF,rfl⟩,hF,rfl⟩
 .have hbad:KA p.bins=[]:=by
   have:=of_decide_eq_false hc;exact wJ.1 U
  have hbo:badO EI p=none:=by unfold badO; rw[if_pos hbad]
  rw[hbo];refine BC f7 ?_;refine⟨hhx,?_⟩;have:=frz_own (d:=2) iV (n:=h.length) (U:h.length<=ob) hob;rw[hXl] at this;exact this
end
section
variable (G:Nat->AV)
theorem AWR (p:Pt)(k:Nat)(hk:k<p.bins.length)(B:BdB p p.bins[k])(hval:p.bins[k].steps=[]∨p.bins[k].ranges.l=[])(h:Hp):PCall (En G) 201 [.agg (FY p),.n (k:Nat)] h (.sl .any 1 ((WQ F7 p p.bins[k]).map bA)):=by
 have hcv:=AAB ((J7 p.bins[k]).map fun s=>F7 p.ex s.l) (badO F7 p);have hcl:(((J7 p.bins[k]).map fun s=>F7 p.ex s.l).map fun x=>[x])=(J7 p.bins[k]).map fun s=>[F7 p.ex s.l]:=by rw[qM]; rfl
 rw[hcl] at hcv;refine PCall.res ?_ (CvR.sl hcv);clear hcv hcl;refine ACalls.pure (R:=fun v H=>Sm.ext h H∧FN h.length H 4 v=.sl .any 1 (XC ((J7 p.bins[k]).map fun s=>F7 p.ex s.l) (badO F7 p))) 4 ?_ (fun v H ⟨a,b⟩=>⟨a,b⟩);have hb1:=B.hs; have hb2:=B.hl; have hb3:=B.hr; have hb4:=B.hb; have hb5:=B.hn; have hb6:=B.hw;refine H6 (H:=hint [33,66] []) (enM G) Tryz.func201 rfl (by kernel_rfl) (by kernel_rfl) (jC (by kernel_rfl)) ?_;show awp _ _ _ _ _ (LU _ [.tmp 4] _);have gp:=AL (x:=zZ 4 [IP p.bins[k]]) (A7 h (zZ 6 [FY p]));have gb:=A7 (h++[zZ 6 [FY p]]) (zZ 4 [IP p.bins[k]]);have hx:Sm.ext h (h++[zZ 6 [FY p]]++[zZ 4 [IP p.bins[k]]]):=((ext.rfl' h).app _).app _;simp -implicitDefEqProofs only[vQ,jW,jR,jS,zK,CV,YJ,SS,↓reduceIte,jB,enP,XV,KI,jO,AWL,ALB (A7 h (zZ 6 [FY p])),CQ hk,DR nY cB LJ hk,al79,st79 _ _ [.str ⟨#[]⟩,.n 0,.sl .nil 0 [],.sl .nil 0 []] rfl]
 generalize h++[zZ 6 [FY p]]++[zZ 4 [IP p.bins[k]]]=H0 at gp gb hx|-
 generalize (h++[zZ 6 [FY p]]).length=b6 at gb|-
 generalize p.bins[k]=b at gb hb1 hb2 hb3 hval|-
 have hst:b.steps.length<=1048576:=by
  rcases hval with q|q
  .rw[q]; simp
  .rw[UZ q] at hb2; exact hb2
 have hsr:∀s∈b.steps,s.l.length<=1048576:=by
  rcases hval with q|q
  .rw[q]; intro s hs; cases hs
  .rw[UZ q] at hb3; exact hb3
 refine ET 0 (fun F H'=>∃v,F 2=.ptr h.length 0 0∧F 6=.ptr b6 0 0∧F 5=v∧Sm.ext H0 H'∧outG 1 rowF H0 (b.steps.map fun s=>F7 p.ex s.l) v H') (fun _ _=>False) ?_ ?_ (fun _ _ q=>q.elim)
 .refine BI (fun n F H'=>∃i v,n+i=b.steps.length∧F 2=.ptr h.length 0 0∧F 6=.ptr b6 0 0∧F 5=v∧F 7=.n (i:Nat)∧Sm.ext H0 H'∧outG 1 rowF H0 ((b.steps.take i).map fun s=>F7 p.ex s.l) v H') b.steps.length
   ⟨0,.sl .nil 0 [],BA,FI,FI,FI,FI,ext.rfl' _,by rw[qB]; exact outG.nil _ _ _ _⟩ ?_
  rintro n F H' ⟨i,v,hi,f2,f6,f5,f7,hxH,ho⟩;have gb':=ED hxH gb;refine DT f6 f7 (AH2 gb') ?_;refine D8 ?_ ?_<;>intro hi'
  .have gp':=ED hxH gp
   have hlen:((b.steps.take i).map fun s=>F7 p.ex s.l).length<8388608:=by rw[jJ,jV]; omega
   obtain⟨v',H2,ha,ho2,_,he2,_,_⟩:=ho.append (P:=jA) kL kO pT nP U hlen hxH (F7 p.ex b.steps[i].l);have ha':EG jA true H' 100 100 v (.sl .full 1 [[.sl .full 4 [AU (F7 p.ex b.steps[i].l)]]])=some (v',H2):=ha
   have hst:(b.steps.take (i+1)).map (fun s=>F7 p.ex s.l)=(b.steps.take i).map (fun s=>F7 p.ex s.l)++[F7 p.ex b.steps[i].l]:=by
    rw[jY hi',qN]; rfl
   have hin:PCall (En G) 268 [.agg (AU p.ex),.sl b.steps[i].m 2 (b.steps[i].l.map encR)] H' (.agg (AU (F7 p.ex b.steps[i].l))):=bT G p.ex b.steps[i].l b.steps[i].m (hsr _ (jH hi')) H';refine AO ?_;refine DV A8 ?_;simp -implicitDefEqProofs only[vQ,jW,jR,jS,zK,JD,NH,MF,↓reduceIte,jB,jL,enP,aX,pA,mR,f2,f5,f6,f7,CQ hi',CG QI hi',gU,ABG gp',AH2 gb'];refine⟨_,hin,?_⟩
   try simp -implicitDefEqProofs only[vQ,jW,jR,jS,zK,KH,JD,IY,CV,I8,↓reduceIte,jB,jL,enP,f7,dU,AJF,ha',DF i]
   exact⟨n-1,U,i+1,v',U,AZ,AZ,AZ,AZ,he2,by rw[hst]; exact ho2⟩
  .rw[jI U] at ho
   refine AO ?_;exact⟨v,AZ,AZ,AZ,hxH,ho⟩
 rintro F H' ⟨v,f2,f6,f5,hxH,ho⟩;have gp':=ED hxH gp;have gb':=ED hxH gb;refine BB f6 (AH2 gb') ?_;refine TJ (fun F H=>∃v,F 2=.ptr h.length 0 0∧F 5=v∧Sm.ext H0 H∧outG 1 rowF H0 ((J7 b).map fun s=>F7 p.ex s.l) v H) (fun _ _=>False) (fun hc=>?_) (fun hc=>?_) ?_ (fun _ _ q=>q.elim)
 .have he:b.steps=[]:=by
   have:((b.steps.length:Nat):Int)=0:=BN hc;exact wJ.1 U
  have hr:b.ranges.l≠[]:=by
   intro q;rw[UZ q,he] at hb1;exact hb1 rfl
  rw[aI hr] at hb3;rw[he] at ho
  have hv:v=.sl .nil 0 []:=by
   rcases ho with⟨_,q⟩|⟨q,_⟩
   .exact q
   .exact absurd rfl q
  subst hv;have hin:PCall (En G) 268 [.agg (AU p.ex),.sl b.ranges.m 2 (b.ranges.l.map encR)] H' (.agg (AU (F7 p.ex b.ranges.l))):=bT G p.ex b.ranges.l b.ranges.m (hb3 _ BA) H';obtain⟨v',H2,ha,ho2,_,he2,_,_⟩:=(outG.nil (α:=Ex) 1 rowF H0 H').append (P:=jA) kL kO pT nP U BA hxH (F7 p.ex b.ranges.l);have ha':EG jA true H' 100 100 (.sl .nil 0 []) (.sl .full 1 [[.sl .full 4 [AU (F7 p.ex b.ranges.l)]]])=some (v',H2):=ha;refine I7 f2 f5 f6 (ABG gp') (AH3 gb') ?_;refine hin.use ?_;refine I7 f2 f5 @dU @AJF ha' ?_;exact⟨v',AZ,AZ,he2,by rw[aI hr]; exact ho2⟩
 .have he:b.steps≠[]:=by
   intro q;rw[q] at hc; exact absurd hc D5
  have hr:b.ranges.l=[]:=hval.resolve_left he;refine AO ?_;exact⟨v,AZ,AZ,hxH,by rw[UZ hr]; exact ho⟩
 clear f2 f6 f5 ho gp' gb' hxH;rintro F H' ⟨v,f2,f5,hxH,ho⟩
 generalize J7 b=S at hb1 hb2 hb3 ho|-
 have gp':=ED hxH gp;refine BB f2 (A28 gp') ?_;refine(AWW G p hb5 hb4 H').uu ?_;have hSl:0<S.length:=qV.2 hb1
 obtain⟨ob,rfl,hob1,hob⟩:∃ob,v=.own ob 0 S.length∧H0.length<=ob∧H'[ob]?=some (zZ 1 ((S.map fun s=>F7 p.ex s.l).map rowF)):=by
  rcases ho with⟨e1,_⟩|⟨_,o,h1,h2,h3⟩
  .exact absurd (BN e1) hb1
  .exact⟨o,by rw[h2,jJ],h1,h3⟩
 have hXl:(S.map fun s=>F7 p.ex s.l).length=S.length:=BA;have hX0:(S.map fun s=>F7 p.ex s.l)≠[]:=BN hb1;have hhx:=hx.trans hxH;have hl0:=hx.le
 generalize (S.map fun s=>F7 p.ex s.l)=X at hob hXl hX0|-
 refine CE ?_ ?_<;>intro hc
 .have hbad:KA p.bins≠[]:=by
   intro q;rw[q] at hc; exact absurd hc D5
  have hbo:badO F7 p=some (F7 p.ex (KA p.bins)):=by unfold badO; rw[if_neg hbad]
  rw[hbo];have hw1:IntKind.i64.wrap (((S.length:Nat):Int)-1)=((S.length-1:Nat):Int):=by rw[wrap_i64 U U]; omega
  have hin:PCall (En G) 268 [.agg (AU p.ex),.sl (Cov.nm (KA p.bins)) 2 ((KA p.bins).map encR)] H' (.agg (AU (F7 p.ex (KA p.bins)))):=bT G p.ex (KA p.bins) (Cov.nm (KA p.bins)) hb4 H'
  generalize F7 p.ex (KA p.bins)=y at hin|-
  have hlast:(X.map rowF)[S.length-1]?=some (rowF (JU X)):=by
   rw[jZ,<-hXl,rY hX0]; rfl
  have i1:JJ 1 H' (.own ob 0 S.length) (.n ((S.length-1:Nat):Int))=some (.ptr ob (S.length-1) 0):=by rw[H8 hob U,jG]
  have d1:BU jA H' 23 (.ptr ob (S.length-1) 0)=some (.sl .full 4 [AU (JU X)]):=by rw[BL MO hob hlast]; rfl
  have hfa:ML jA H' 23 23 (.sl .full 4 [AU (JU X)]) (.sl .full 4 [AU (notE y)])=true:=pK SV JL (G5 _ _ _ _) (G5 _ _ _ _) (PU [JU X,notE y])
  have ha:EG jA false H' 23 23 (.sl .full 4 [AU (JU X)]) (.sl .full 4 [AU (notE y)])=some (.sl .any 4 [AU (JU X),AU (notE y)],H') :=
   AGG (xs:=[AU (JU X)]) SV JL ZG YG (G5 H' .full 4 [AU (notE y)]) BA (IV BA U)
  have q1:DW jA H' 23 (.ptr ob (S.length-1) 0) (.sl .any 4 [AU (JU X),AU (notE y)])=some (H'.set ob (zZ 1 ((X.map rowF).set (X.length-1) [.sl .any 4 [AU (JU X),AU (notE y)]]))):=by
   rw[IC (cs:=[.sl .any 4 [AU (JU X),AU (notE y)]]) rfl kO hob hlast (by exact jF 1),hXl]; rfl
  have gF:(H'.set ob (zZ 1 ((X.map rowF).set (X.length-1) [.sl .any 4 [AU (JU X),AU (notE y)]])))[ob]?=some (zZ 1 (XC X (some y))):=CP hob;have hF:=hhx.set (U:h.length<=ob) (zZ 1 ((X.map rowF).set (X.length-1) [.sl .any 4 [AU (JU X),AU (notE y)]]));refine P7 f2 f5 @WM.2 hw1 i1 d1 (ABG gp') ?_;refine hin.use ?_;have hbn:∀H:Hp,C9 jA false H 23 1 [(0,.agg [.n 4,.n 0,.str ⟨#[]⟩,.sl .full 4 [AU y]])]=some (.sl .full 4 [AU (notE y)],H):=fun H=>by rw[AAZ,ARY]
  simp -implicitDefEqProofs only[vQ,jW,jR,jS,zK,Bool.or_true,CV,LD,pV,OA,↓reduceIte,jB,Bool.not_true,enP,sA,jO,dU,AYQ,hbn,pV,hfa,ha,f5,WM.2,hw1,i1,q1];refine⟨hF,?_⟩;rw[<-hXl];exact ALQ U gF
 .have hbad:KA p.bins=[]:=by
   have:=of_decide_eq_false hc;exact wJ.1 U
  have hbo:badO F7 p=none:=by unfold badO; rw[if_pos hbad]
  rw[hbo];refine BC f5 ?_;refine⟨hhx,?_⟩;have:=frz_own (d:=2) iV (n:=h.length) (U:h.length<=ob) hob;rw[hXl] at this;exact this
end
def O1 (l:List Ex):List AV:=AYE ⟨Cov.nm l,l⟩
def NQ (c:List (List Ex)):List AV:=[.sl .any 1 (c.map bA)]
theorem nA (c:List (List Ex)):(NQ c)[0]?=some (.sl .any 1 (c.map bA)):=rfl
theorem AYF (l:List Ex):(bA l)[0]?=some (.sl .any 4 (l.map AU)):=rfl
structure OL (n0:Nat) (H:Hp) (ob n:Nat) (v:Nat->AV) (X:Nat->List Ex):Prop where
 gob:H[ob]?=some (zZ 1 ((zL n).map fun t=>[v t]))
 lo:n0<=ob
 each:∀t,t<n->(X t=[]∧v t=.sl .nil 0 [])∨(X t≠[]∧∃o,n0<=o∧v t=.own o 0 (X t).length∧H[o]?=some (zZ 4 ((X t).map AU)))
 ap:∀t u b,t<n->u<n->isB (v t) b->isB (v u) b->t=u
 ne:∀t b,t<n->isB (v t) b->b≠ob
def cL {α:Type}(f:Nat->α)(a:Nat)(x:α)(t:Nat):α:=if t=a then x else f t
theorem AKQ {a:Nat}{x:AV}(_ha:a<n):((zL n).map fun t=>[v t]).set a [x]=(zL n).map fun t=>[cL v a x t]:=by
 apply List.ext_getElem
 .simp
 intro i h1 h2;rw[List.getElem_set];simp only[List.getElem_map,List.getElem_range,cL];by_cases e:a=i
 .rw[if_pos e,if_pos e.symm]
 .rw[if_neg e,if_neg (Ne.symm e)]
theorem eN {n0:Nat}{v:AV}(hl:n0=h.length):((X=[]∧v=.sl .nil 0 [])∨(X≠[]∧∃o,n0<=o∧v=.own o 0 X.length∧H[o]?=some (zZ 4 (X.map AU))))↔outG 4 AU h X v H:=by subst hl; exact Iff.rfl
theorem OL.app {a:Nat}{X:Nat->List Ex}(O:OL h.length H ob n v X)(ha:a<n)(hx:ext h H)(s:SM)(ys:List Ex)(hl:(X a).length+ys.length<=8388608):
  ∃ v' H',EG jA true H 23 23 (v a) (.sl s 4 (ys.map AU))=some (v',H')∧H'[ob]?=some (zZ 1 ((zL n).map fun t=>[v t]))∧IL v'=some [v'] ∧
    OL h.length (H'.set ob (zZ 1 ((zL n).map fun t=>[cL v a v' t]))) ob n (cL v a v') (cL X a (X a++ys))∧ext h (H'.set ob (zZ 1 ((zL n).map fun t=>[cL v a v' t]))):=by
 obtain⟨v',H',h1,h2,h3,h4,h5,h6⟩:=QE (P:=jA) s ((eN rfl).1 (O.each a ha)) SV JL ZG YG U (ys:=ys) hl hx;have lob:=AC O.gob;have g1:=h3 _ _ O.gob (fun q=>O.ne a _ ha q rfl)
 have hlt:∀t b,t<n->isB (v t) b->b<H.length:=fun t b ht hb=>((eN rfl).1 (O.each t ht)).lt hb |>.2
 have hne':∀b,isB v' b->b≠ob:=fun b hb=>by
  rcases h6 b hb with q|q
  .exact O.ne a b ha q
  .omega
 have hac:IL v'=some [v']:=by
  rcases h2 with⟨_,rfl⟩|⟨_,o,_,rfl,_⟩<;>rfl
 refine⟨v',H',h1,g1,hac,⟨CP g1,O.lo,fun t ht=>?_,fun t u b ht hu h7 h8=>?_,fun t b ht hb=>?_⟩,h4.set O.lo _⟩
 .by_cases e:t=a
  .subst e
   simp only[cL,if_true];exact(eN rfl).2 (h2.keep fun b hb=>by rw[zX (Ne.symm (hne' b hb))])
  .simp only[cL,if_neg e]
   refine(eN rfl).2 (((eN rfl).1 (O.each t ht)).keep fun b hb=>?_);rw[zX (Ne.symm (O.ne t b ht hb))];rcases O.each t ht with⟨_,q⟩|⟨_,o,_,q,q2⟩
   .rw[q] at hb; exact hb.elim
   .rw[q] at hb; cases hb
    rw[q2];exact h3 _ _ q2 fun q3=>e (O.ap t a _ ht ha (by rw[q]; rfl) q3)
 .simp only[cL] at h7 h8
  by_cases e1:t=a<;>by_cases e2:u=a
  .rw[e1,e2]
  .rw[if_pos e1] at h7; rw[if_neg e2] at h8
   rcases h6 b h7 with q|q
   .exact e1.trans (O.ap a u b ha hu q h8)
   .have:=hlt u b hu h8; omega
  .rw[if_neg e1] at h7; rw[if_pos e2] at h8
   rcases h6 b h8 with q|q
   .exact(O.ap t a b ht ha h7 q).trans e2.symm
   .have:=hlt t b ht h7; omega
  .rw[if_neg e1] at h7; rw[if_neg e2] at h8
   exact O.ap t u b ht hu h7 h8
 .simp only[cL] at hb
  by_cases e1:t=a
  .rw[if_pos e1] at hb; exact hne' b hb
  .rw[if_neg e1] at hb; exact O.ne t b ht hb
theorem OL.frz {n0:Nat}{X:Nat->List Ex}(O:OL n0 H ob n v X)(h:Hp)(hl:n0=h.length):FN h.length H 4 (.own ob 0 n)=.sl .any 1 ((zL n).map fun t=>[fzG 4 AU (X t)]):=by
 subst hl
 have hm:((zL n).map fun t=>[v t]).map (·.map (FN h.length H 3))=(zL n).map fun t=>[fzG 4 AU (X t)]:=by
  rw[qM];refine wG fun t ht=>?_
  have ht':t<n:=BN ht;show [FN h.length H 3 (v t)]=_;rw[KP frzEx ((eN rfl).1 (O.each t ht')) h.length 1 (jF _)]
 rw[Cov.frzF_own h.length H 3 ob 0 n 1 _ (by have:=O.lo; omega) O.gob,zI,jI BA,hm];rw[if_pos];refine⟨BA,?_⟩;rw[zH];intro row hr;obtain⟨t,_,rfl⟩:=zQ.1 hr;cases X t<;>rfl
theorem AQJ (l:List Ex):CvRow [fzG 4 AU l] (O1 l):=by
 cases l with
 | nil=>exact CvRow.cons rfl (Cv.nil 0 4) CvRow.nil
 | cons x xs=>exact CvRow.cons rfl (Cv.refl _) CvRow.nil
def rowP (n i t:Nat)(c:List (List Ex)):List Ex:=if n-c.length<=t∧t<n-c.length+i then c[t-(n-c.length)]?.getD [] else []
theorem AKH (n t:Nat)(c:List (List Ex)):rowP n 0 t c=[]:=by unfold rowP; rw[if_neg U]
theorem AKI (ht:t<n)(hc:c.length<=n):rowP n c.length t c=V3 n t c:=by
 unfold rowP V3;by_cases h:n-c.length<=t
 .rw[if_pos ⟨h,U⟩,if_pos h]
 .rw[if_neg U,if_neg h]
theorem rE (n t:Nat)(cs:List (List (List Ex)))(j:Nat)(hj:j<cs.length):rowA n (cs.take (j+1)) t=rowA n (cs.take j) t++V3 n t cs[j]:=by
 unfold rowA;rw[jY hj,List.flatMap_append]; simp
theorem AOQ {B:Nat}(h:∀r∈c,r.length<=B):(V3 n t c).length<=B:=by
 unfold V3;split
 .cases hx:c[t-(n-c.length)]? with
  | none=>exact qF _
  | some r=>exact h r (List.mem_of_getElem? hx)
 .exact qF _
theorem XE {n t B:Nat}:∀ {cs:List (List (List Ex))},(∀c∈cs,∀r∈c,r.length<=B)->(rowA n cs t).length<=B*cs.length
 | [],_=>by simp [rowA]
 | c::cs,h=>by
   have h1:=AOQ (n:=n) (t:=t) (h c BA);have h2:=XE (n:=n) (t:=t) (cs:=cs) fun c hc=>h c (by simp [hc])
   show(V3 n t c++rowA n cs t).length<=_;rw[zA,zO,Nat.mul_add]; omega
theorem A6S (h:Hp)(n:Nat)(hn:n<=1048576):IM jA true h 100 (.n (n:Int)) (.n (n:Int))=some (.own h.length 0 n,h++[zZ 1 ((zL n).map fun _=>[.sl .nil 0 []])]):=by
 have hz:NF jA 23=some [.sl .nil 0 []]:=A8;have hr:room n 24:=IV U U;unfold IM;simp only[kL,kO,nP,hz,Int.toNat_natCast];rw[if_pos ⟨U,Int.le_refl _,hr,rfl⟩];have e:(zL n).map (fun _=>[AV.sl .nil 0 []])=List.replicate n [.sl .nil 0 []]:=by rw[List.map_const',List.length_range]
 rw[e]; rfl
theorem rowP_step {i:Nat}(hc:c.length<=n)(hi:i<c.length)(_ht:t<n):rowP n (i+1) t c=if t=n-c.length+i then c[i] else rowP n i t c:=by
 unfold rowP;by_cases e:t=n-c.length+i
 .rw[if_pos e,if_pos U,show t-(n-c.length)=i by omega,jM hi]; rfl
 .rw[if_neg e]
  by_cases h:n-c.length<=t∧t<n-c.length+i
  .rw[if_pos h,if_pos U]
  .rw[if_neg h,if_neg U]
section
variable (G:Nat->AV)
theorem xH (cs:List (List (List Ex)))(s:SM)(hcs:cs.length<=1048576)(hl:∀c∈cs,c.length<=1048576)(hr:∀c∈cs,∀r∈c,r.length<=2)(h:Hp):PCall (En G) 95 [.sl s 1 (cs.map NQ)] h (.sl .any 1 ((NE cs).map O1)):=by
 have hcv:Cv (.sl .any 1 ((zL (OX cs)).map fun t=>[fzG 4 AU (rowA (OX cs) cs t)])) (.sl .any 1 ((NE cs).map O1)):=by
  unfold NE;rw[qM];exact Cv.map fun t _=>AQJ _
 refine PCall.res ?_ (CvR.sl hcv);clear hcv;refine ACalls.pure (R:=fun v H=>Sm.ext h H∧FN h.length H 4 v=.sl .any 1 ((zL (OX cs)).map fun t=>[fzG 4 AU (rowA (OX cs) cs t)])) 4 ?_ (fun v H ⟨a,b⟩=>⟨a,b⟩);have hnb:OX cs<=1048576:=V9 cs 0 _ (qF _) hl;refine acT Tryz.func95 2 ?_;refine BC AHX ?_;refine ET 0 (fun F H'=>F 0=.sl s 1 (cs.map NQ)∧F 3=.n (OX cs:Nat)∧H'=h) (fun _ _=>False) ?_ ?_ (fun _ _ q=>q.elim)
 .refine BI (fun n F H'=>∃i,n+i=cs.length∧F 0=.sl s 1 (cs.map NQ)∧F 3=.n (OX (cs.take i):Nat)∧F 12=.sl s 1 (cs.map NQ)∧F 13=.n (cs.length:Nat)∧F 14=.n (i:Nat)∧H'=h) cs.length
   ⟨0,BA,AQ,AQ,AQ,AQ,AQ,rfl⟩ ?_
  rintro n F H ⟨i,hi,f0,f3,f12,f13,f14,rfl⟩;refine BB f13 f14 ?_;refine D8 ?_ ?_<;>intro hi'
  .have hm:max ((OX (cs.take i):Nat):Int) ((cs[i].length:Nat):Int)=((OX (cs.take (i+1)):Nat):Int):=by rw[rW cs i hi']; omega
   simp -implicitDefEqProofs only[vQ,CV,xQ,lO,↓reduceIte,jB,enP,WM,ABJ,f3,f12,f14,CQ hi',CG ADQ hi',nA,jJ,hm,DF i];exact⟨n-1,U,i+1,U,AZ,AZ,AZ,AZ,AZ,AZ⟩
  .rw[jI U] at f3
   refine AO ?_;exact⟨AZ,AZ,AZ⟩
 rintro F H ⟨f0,f3,rfl⟩;generalize hN:OX cs=N at *;have g0:=A7 H (zZ 1 ((zL N).map fun _=>[AV.sl .nil 0 []]))
 have O0:OL H.length (H++[zZ 1 ((zL N).map fun _=>[AV.sl .nil 0 []])]) H.length N (fun _=>.sl .nil 0 []) (fun _=>[]) :=
  ⟨g0,jF _,fun t _=>.inl ⟨rfl,rfl⟩,fun t u b _ _ q=>q.elim,fun t b _ q=>q.elim⟩
 have hx0:Sm.ext H (H++[zZ 1 ((zL N).map fun _=>[AV.sl .nil 0 []])]):=(ext.rfl' H).app _;refine E8 AHX f0 f3 (A6S H N hnb) ?_
 generalize H++[zZ 1 ((zL N).map fun _=>[AV.sl .nil 0 []])]=H0 at O0 hx0|-
 refine BI (fun n F H'=>∃j v X,n+j=cs.length∧F 3=.n (N:Nat)∧F 6=.own H.length 0 N∧F 25=.sl s 1 (cs.map NQ)∧F 26=.n (cs.length:Nat)∧F 27=.n (j:Nat)∧OL H.length H' H.length N v X∧(∀t,t<N->X t=rowA N (cs.take j) t)∧Sm.ext H H') cs.length
  ⟨0,_,_,BA,EM f3,AQ,AQ,AQ,AQ,O0,fun t _=>by rw[qB]; rfl,hx0⟩ ?_
 clear O0 hx0 f0 f3 g0;rintro n F H1 ⟨j,v,X,hj,f3,f6,f25,f26,f27,O,hX,hx⟩;refine BB f26 f27 ?_;refine D8 ?_ ?_<;>intro hj'
 .have hcN:cs[j].length<=N:=by rw[<-hN]; exact lS (jH hj')
  have hrj:=hr _ (jH hj')
  have hrt:∀t,(rowA N (cs.take j) t).length<=2*j:=fun t=>by
   have:=XE (n:=N) (t:=t) (B:=2) (cs:=cs.take j) fun c hc=>hr c (List.mem_of_mem_take hc)
   rw[jV,Nat.min_eq_left U] at this; exact this
  have hst:∀t,rowA N (cs.take (j+1)) t=rowA N (cs.take j) t++V3 N t cs[j]:=fun t=>rE N t cs j hj'
  simp -implicitDefEqProofs only[vQ,CV,↓reduceIte,jB,enP,WM,ABJ,f25,f27,CQ hj',CG ADQ hj',nA,jJ]
  generalize cs[j]=c at hcN hrj hst|-
  refine ET 4 (fun F H'=>∃v X,F 3=.n (N:Nat)∧F 6=.own H.length 0 N∧F 25=.sl s 1 (cs.map NQ)∧F 26=.n (cs.length:Nat)∧F 27=.n (j:Nat)∧OL H.length H' H.length N v X∧(∀t,t<N->X t=rowA N (cs.take (j+1)) t)∧Sm.ext H H') (fun _ _=>False) ?_ ?_ (fun _ _ q=>q.elim)
  .refine BI (fun n F H'=>∃i v X,n+i=c.length∧F 3=.n (N:Nat)∧F 6=.own H.length 0 N∧F 8=.sl .any 1 (c.map bA)∧F 25=.sl s 1 (cs.map NQ)∧F 26=.n (cs.length:Nat)∧F 27=.n (j:Nat)∧F 31=.sl .any 1 (c.map bA)∧F 32=.n (c.length:Nat)∧F 33=.n (i:Nat)∧OL H.length H' H.length N v X∧(∀t,t<N->X t=rowA N (cs.take j) t++rowP N i t c)∧Sm.ext H H') c.length
    ⟨0,v,X,BA,EM f3,EM f6,AQ,EM f25,EM f26,EM f27,AQ,AQ,AQ,O,fun t ht=>by rw[AKH,jQ]; exact hX t ht,hx⟩ ?_
   clear f3 f6 f25 f26 f27 O hX hx;rintro n2 F H2 ⟨i,v,X,hi,f3,f6,f8,f25,f26,f27,f31,f32,f33,O,hX,hx⟩;refine BB f32 f33 ?_;refine CE ?_ ?_<;>intro hd
   .have hi':i<c.length:=BN hd
    have ha:N-c.length+i<N:=U
    have hlen:(X (N-c.length+i)).length+c[i].length<=8388608:=by
     have h1:=hrt (N-c.length+i);have h2:=hrj _ (jH hi');rw[hX _ ha,zA];have h3:rowP N i (N-c.length+i) c=[]:=by unfold rowP; rw[if_neg U]
     rw[h3,zJ]; omega
    obtain⟨v',H3,a1,a2,a3,O2,hx2⟩:=O.app ha hx .any c[i] hlen;have hw1:IntKind.i64.wrap (((N:Nat):Int)-((c.length:Nat):Int))=((N-c.length:Nat):Int):=by rw[wrap_i64 U U]; omega
    have hw2:IntKind.i64.wrap (((N-c.length:Nat):Int)+((i:Nat):Int))=((N-c.length+i:Nat):Int):=by rw[wrap_i64 U U]; omega
    have i1:JJ 1 H2 (.own H.length 0 N) (.n ((N-c.length+i:Nat):Int))=some (.ptr H.length (N-c.length+i) 0):=by rw[H8 O.gob ha,jG]
    have hrow:∀f:Nat->AV,((zL N).map fun t=>[f t])[N-c.length+i]?=some [f (N-c.length+i)]:=fun f=>by
     rw[jZ,List.getElem?_range ha]; rfl
    have d1:BU jA H2 23 (.ptr H.length (N-c.length+i) 0)=some (v (N-c.length+i)):=by rw[BL MO O.gob (hrow v)]; rfl
    have i2:JJ 1 H3 (.own H.length 0 N) (.n ((N-c.length+i:Nat):Int))=some (.ptr H.length (N-c.length+i) 0):=by rw[H8 a2 ha,jG]
    have s1:DW jA H3 23 (.ptr H.length (N-c.length+i) 0) v'=some (H3.set H.length (zZ 1 ((zL N).map fun t=>[cL v (N-c.length+i) v' t]))):=by
     rw[IC (cs:=[v']) a3 kO a2 (hrow v) (by exact jF 1),<-AKQ ha]; rfl
    have hX2:∀t,t<N->cL X (N-c.length+i) (X (N-c.length+i)++c[i]) t=rowA N (cs.take j) t++rowP N (i+1) t c:=fun t ht=>by
     rw[rowP_step hcN hi' ht];by_cases e:t=N-c.length+i
     .rw[if_pos e]
      simp only[cL,if_pos e];rw[hX _ ha,<-e];have h3:rowP N i t c=[]:=by unfold rowP; rw[if_neg U]
      rw[h3,jQ]
     .rw[if_neg e]
      simp only[cL,if_neg e];exact hX t ht
    simp -implicitDefEqProofs only[vQ,CV,I8,OA,↓reduceIte,jB,enP,sA,WM,jO,f3,f6,f8,f31,f33,CQ hi',CG MO hi',AYF,jJ,hw1,hw2,i1,d1,a1,i2,s1,DF i];exact⟨n2-1,U,i+1,_,_,U,AZ,AZ,AZ,AZ,AZ,AZ,AZ,AZ,AZ,O2,hX2,hx2⟩
   .have hi':i=c.length:=by have:¬i<c.length:=BN hd
                            omega
    subst hi';refine AO ?_;exact⟨v,X,AZ,AZ,AZ,AZ,AZ,O,fun t ht=>by rw[hX t ht,hst,AKI ht hcN],hx⟩
  .clear f3 f6 f25 f26 f27 O hX hx
   rintro F H2 ⟨v,X,f3,f6,f25,f26,f27,O,hX,hx⟩;refine BB f27 (DF j) ?_;exact⟨n-1,U,j+1,v,X,U,AZ,AZ,AZ,AZ,AZ,O,hX,hx⟩
 .rw[jI U] at hX
  refine BC f6 ?_;refine⟨hx,?_⟩;rw[O.frz H rfl];congr 1;refine wG fun t ht=>?_
  rw[hX t (BN ht)]
end
def growR_ren:Go.Shelf.Ren:=⟨fun|4=>98|n=>n,fun|22=>23|25=>79|3=>3|4=>4|9=>9|20=>20|0=>0|n=>n,fun|n=>n⟩
theorem growR:Go.Proofs.Lays8.n4 jA growR_ren := {
 mixed:=A8,
 f4:=⟨Tryz.f98.name,by decide,Tryz.func98.trans (congrArg some A8)⟩,
 t0:=Tryz.underlying0,
 a0:=Tryz.isAgg0,
 z0:=Tryz.sizeOf0,
 v0:=Tryz.zeroValue0,
 t3:=Tryz.underlying3,
 a3:=Tryz.isAgg3,
 z3:=Tryz.sizeOf3,
 v3:=Tryz.zeroValue3,
 t4:=Tryz.underlying4,
 a4:=Tryz.isAgg4,
 z4:=Tryz.sizeOf4,
 v4:=Tryz.zeroValue4,
 t9:=Tryz.underlying9,
 a9:=Tryz.isAgg9,
 z9:=Tryz.sizeOf9,
 v9:=Tryz.zeroValue9,
 t20:=Tryz.underlying20,
 a20:=Tryz.isAgg20,
 z20:=Tryz.sizeOf20,
 v20:=Tryz.zeroValue20,
 t22:=Tryz.underlying23,
 a22:=Tryz.isAgg23,
 z22:=Tryz.sizeOf23,
 v22:=Tryz.zeroValue23 }
theorem zc_size (z:Array Value)(n:Nat):(Builtin.zeroCells z n).size=n*z.size:=by simp [Builtin.zeroCells]
theorem grow_prog (G:Nat->AV)(n:Nat)(hn:n<=1048576)(h:Hp):ACalls (En G) 98 [.sl .nil 0 [],.n (n:Nat)] h fun v H=>(n=0∧v=.sl .nil 0 []∧H=h)∨(0<n∧v=.own h.length 0 0∧H=h++[zZ 4 []]):=by
 refine⟨cok 98 G A8,fun g w cargs S ha=>?_⟩;obtain⟨hsz,hget⟩:=ha
 obtain⟨cv0,cv1,rfl⟩:∃a b,cargs = #[a,b]:=by
  obtain⟨l⟩:=cargs
  match l,hsz with
  | [a,b],_=>exact⟨a,b,rfl⟩
 have r0:=(hget 0 _ cv0 rfl rfl).sl_inv;obtain rfl:=(hget 1 _ cv1 rfl rfl).int_inv
 have hnil:cv0=.slice none 0 0:=by
  cases r0 with
  | nil=>rfl
  | empty _ _ _ _ q=>exact absurd rfl q
  | sl _ _ _ _ _ _ _ _ _ _ _ q=>exact absurd rfl q
 subst hnil;rcases Nat.eq_zero_or_pos n with h0|h0
 .subst h0
  refine(Any8.slices_Grow_room growR none 0 0 0 w (jF _) U U (jF _)).mono ?_;rintro e w' ⟨rfl,rfl⟩;exact .inl ⟨_,_,g,h,rfl,.inl ⟨rfl,rfl,rfl⟩,Gh.le.refl g,S,.fro (.nil 0)⟩
 .have i0:Tryz.prog.info? 79=some Tryz.t79:=A8
  have hz:Tryz.t79.zero.isSome=true:=A8;obtain⟨z,hz⟩:=Option.isSome_iff_exists.1 hz;have hs:Tryz.t79.size=4:=A8;have hb:Tryz.t79.bytes<=64:=jC A8;have hmul:n*Tryz.t79.bytes<=1048576*64:=Nat.mul_le_mul hn hb
  have hzs:z.cells.size=4:=by
   have h1:(Tryz.t79.zero.map fun z=>z.cells.size)=some 4:=A8;rw[hz] at h1; simpa using h1
  have hc:=Any8.slices_Grow_grow growR Tryz.t79 z i0 hz (by rw[hs]; omega) none 0 0 n [] w (jF _) U (by rw[jG]; omega) U BA (fun _=>rfl) (fun a q=>by cases q);refine hc.mono ?_;rintro e w' ⟨rfl,rfl⟩;generalize hG:grownCap w (0+n) 0 (growR_ren.t 25)=cap;have hle:0+n<=cap:=hG▸grownCap_ge w _ _ _;have hgr:Grew w (w.drew.alloc (.cells ((#[]:Array Value)++Builtin.zeroCells z.cells (0+n-0)++Builtin.zeroCells z.cells (cap-(0+n))) (growR_ren.t 25))) (.cells ((#[]:Array Value)++Builtin.zeroCells z.cells (0+n-0)++Builtin.zeroCells z.cells (cap-(0+n))) (growR_ren.t 25) (0,0)):=⟨rfl,rfl,rfl,rfl⟩
  have hsize:((#[]:Array Value)++Builtin.zeroCells z.cells (0+n-0)++Builtin.zeroCells z.cells (cap-(0+n))).size=cap*4:=by
   simp only[Array.size_append,zc_size,hzs,List.size_toArray,zJ]; omega
  generalize ((#[]:Array Value)++Builtin.zeroCells z.cells (0+n-0)++Builtin.zeroCells z.cells (cap-(0+n)))=c at hgr hsize;obtain⟨S',hle'⟩:=S.new (k:=4) (xs:=[]) hgr ⟨BA,fun i row h=>by simp at h,fun i j row v h=>by simp at h⟩;refine .inl ⟨_,_,_,_,rfl,.inr ⟨h0,rfl,rfl⟩,hle',S',?_⟩;exact Rep.own h.length 0 0 cap ⟨w.heap.size,0,4,c.size⟩ (by simp [Gh.adopt]) (qF _) (by simp only[hsize]; omega)
theorem AYD (l:List Ex):(O1 l)[0]?=some (.sl (Cov.nm l) 4 (l.map AU)):=rfl
theorem flat_take {R:List (List Ex)}{i:Nat}(hi:i<R.length):(R.take (i+1)).flatten=(R.take i).flatten++R[i]:=by
 rw[jY hi,List.flatten_append]; simp
theorem flat_take_le (R:List (List Ex))(i:Nat):(R.take i).flatten.length<=R.flatten.length:=by
 have:R.flatten=(R.take i).flatten++(R.drop i).flatten:=by rw[<-List.flatten_append,List.take_append_drop]
 rw[this,zA]; omega
def outK (h:Hp)(ys:List Ex)(v:AV)(H:Hp):Prop:=(v=.sl .nil 0 []∧ys=[])∨∃o,h.length<=o∧v=.own o 0 ys.length∧H[o]?=some (zZ 4 (ys.map AU))
theorem outK_app {xs ys:List Ex}{v:AV}(s:SM)(ho:outK h xs v H)(he:ext h H)(hl:xs.length+ys.length<=8388608):
  ∃v' H',EG jA true H 23 23 v (.sl s 4 (ys.map AU))=some (v',H')∧outK h (xs++ys) v' H'∧ext h H'∧(v=.sl .nil 0 []->ys=[]->v'=.sl .nil 0 []):=by
 cases ys with
 | nil =>
   refine⟨v,H,?_,by rw[jQ]; exact ho,he,fun q _=>q⟩;have hcs:JB H (.sl s 4 [])=some (4,[]):=G5 H s 4 [];rcases ho with⟨rfl,rfl⟩|⟨o,h2,rfl,h3⟩
   .simp [EG,SV,JL,RG,hcs,bump]
   .have hc:JB H (.own o 0 xs.length)=some (4,xs.map AU):=by rw[JS h3 BA,zI,jI BA]
    simp [EG,SV,JL,RG,hc,hcs,bump]
 | cons y ys =>
   have h1:(y::ys).map AU≠[]:=BA;rcases ho with⟨rfl,rfl⟩|⟨o,h2,rfl,h3⟩
   .exact⟨_,_,SE SV JL ZG YG (G5 H s 4 ((y::ys).map AU)) h1 (IV (by simp at hl|-; omega) U),.inr ⟨H.length,he.le,BA,BA⟩,he.app _,fun _ q=>by cases q⟩
   .have hc:JB H (.own o 0 xs.length)=some (4,xs.map AU):=by rw[JS h3 BA,zI,jI BA]
    exact⟨_,_,QT SV JL ZG YG hc (G5 H s 4 ((y::ys).map AU)) h1 (IV (by simp at hl|-; omega) U),.inr ⟨H.length,he.le,BA,BA⟩,(he.set h2 _).app _,fun q=>by cases q⟩
section
variable (G:Nat->AV)
theorem concat_prog (R:List (List Ex))(s:SM)(hR:R.length<=1048576)(hl:R.flatten.length<=1048576)(h:Hp):PCall (En G) 45 [.sl s 1 (R.map O1)] h (.sl (Cov.nm R.flatten) 4 (R.flatten.map AU)):=by
 refine LY frzEx ?_;refine acT Tryz.func45 2 ?_;refine AO ?_;refine ET 0 (fun F H'=>F 0=.sl s 1 (R.map O1)∧F 3=.n (R.flatten.length:Nat)∧H'=h) (fun _ _=>False) ?_ ?_ (fun _ _ q=>q.elim)
 .refine BI (fun n F H'=>∃i,n+i=R.length∧F 0=.sl s 1 (R.map O1)∧F 3=.n ((R.take i).flatten.length:Nat)∧F 9=.sl s 1 (R.map O1)∧F 10=.n (R.length:Nat)∧F 11=.n (i:Nat)∧H'=h) R.length
   ⟨0,BA,AQ,AQ,AQ,AQ,AQ,rfl⟩ ?_
  rintro n F H ⟨i,hi,f0,f3,f9,f10,f11,rfl⟩;refine BB f10 f11 ?_;refine D8 ?_ ?_<;>intro hi'
  .have hfl:=flat_take hi'
   have hle:=flat_take_le R (i+1);rw[hfl,zA] at hle;have hw:IntKind.i64.wrap ((((R.take i).flatten.length:Nat):Int)+((R[i].length:Nat):Int))=(((R.take (i+1)).flatten.length:Nat):Int):=by rw[hfl,zA,wrap_i64 U U]; omega
   refine PG f3 f9 f11 hi' @AYD hw @ltz_false (DF i) ?_;exact⟨n-1,U,i+1,U,AZ,AZ,AZ,AZ,AZ,AZ⟩
  .rw[jI U] at f3
   refine AO ?_;exact⟨AZ,AZ,AZ⟩
 rintro F H ⟨f0,f3,rfl⟩;refine BC f3 ?_;refine(grow_prog G R.flatten.length hl H).mono ?_;intro v0 H0 hg
 have I0:outK H [] v0 H0∧Sm.ext H H0∧(R.flatten.length=0->v0=.sl .nil 0 []):=by
  rcases hg with⟨h0,rfl,rfl⟩|⟨h0,rfl,rfl⟩
  .exact⟨.inl ⟨rfl,rfl⟩,ext.rfl' _,fun _=>rfl⟩
  .exact⟨.inr ⟨H.length,jF _,rfl,A7 _ _⟩,(ext.rfl' H).app _,fun q=>U⟩
 refine BC f0 ?_
 refine BI (fun n F H'=>∃i v,n+i=R.length∧F 6=v∧F 25=.sl s 1 (R.map O1)∧F 26=.n (R.length:Nat)∧F 27=.n (i:Nat)∧outK H (R.take i).flatten v H'∧Sm.ext H H'∧(R.flatten.length=0->v=.sl .nil 0 [])) R.length
  ⟨0,v0,BA,AQ,AQ,AQ,AQ,by rw[qB]; exact I0.1,I0.2.1,I0.2.2⟩ ?_
 clear I0 hg f0 f3;rintro n F H' ⟨i,v,hi,f6,f25,f26,f27,ho,hx,hz⟩;refine BB f26 f27 ?_;refine D8 ?_ ?_<;>intro hi'
 .have hfl:=flat_take hi'
  have hle:=flat_take_le R (i+1);rw[hfl,zA] at hle;obtain⟨v',H2,ha,ho2,hx2,hn2⟩:=outK_app (Cov.nm R[i]) ho hx (ys:=R[i]) U;rw[<-hfl] at ho2;refine P7 f6 f25 f27 hi' @AYD ha (DF i) ?_;exact⟨n-1,U,i+1,v',U,AZ,AZ,AZ,AZ,ho2,hx2,fun q=>hn2 (hz q) (wJ.1 U)⟩
 .rw[jI U] at ho
  refine BC f6 ?_;refine⟨hx,?_⟩;rcases ho with⟨h1,h2⟩|⟨o,h1,h2,h3⟩
  .exact .inl ⟨h2,h1⟩
  .refine .inr ⟨fun q=>?_,o,h1,h2,h3⟩
   have:=hz (by rw[q]; rfl);rw[this] at h2; cases h2
end
theorem xS (op n:Int)(name:ByteArray)(m:SM)(args:List Ex):wt (.mk op n name m args)=name.size+1+wts args:=LX _
theorem nsz:(⟨#[]⟩:ByteArray).size=0:=rfl
theorem ANH (n:Int):wt (cE n)=1:=by unfold cE; rw[xS,nsz]; rfl
theorem AGY:∀l:List Rng,wts (cEs l)=2*l.length
 | []=>rfl
 | a::l=>by
   rw[YF];simp only[wts,ANH,AGY l,zO]; omega
theorem iP (e:Ex)(l:List Rng):wt (IE e l)=1+wt e+2*l.length:=by
 rw[TZ,xS,nsz];unfold insL;simp only[wts,AGY]; omega
theorem AY0 (a b:Ex):wt (orE a b)=1+wt a+wt b:=by
 unfold orE;rw[xS,nsz]; simp only[wts]; omega
theorem AGZ (a:Ex):wt (notE a)=1+wt a:=by
 unfold notE;rw[xS,nsz]; simp only[wts]; omega
theorem QX (L:List Rng)(k:Nat):(part L k).length<=16:=by unfold part; rw[jV]; omega
theorem tO (e:Ex)(L:List Rng):∀k,wt (NW e L k)<=(k+1)*(wt e+34)
 | 0=>by
   have:=QX L 0;show wt (IE e (part L 0))<=_;rw[iP]; omega
 | k+1=>by
   have:=QX L (k+1);have ih:=tO e L k;show wt (orE (NW e L k) (IE e (part L (k+1))))<=_;rw[AY0,iP,Nat.add_mul (k+1) 1]; omega
theorem kG:∀l:List Ex,(∀e∈l,wt (cpE e)=wt e)->wts (l.map cpE)=wts l
 | [],_=>rfl
 | e::l,h=>by
   simp only[jK,wts];rw[h e BA,kG l fun e he=>h e (by simp [he])]
theorem AY1 (e:Ex):wt (cpE e)=wt e:=by
 induction e using Ex.induct with|h e ih=>?_
 rw[TF,xS,kG _ ih,LX e]
theorem mem_pres {x:Ex}:∀ {xs:List Ex},x∈GH xs↔∃a∈xs,x∈pre a
 | []=>by simp [GH]
 | a::xs=>by simp [GH,mem_pres (xs:=xs)]
def NmB (N:Nat)(e:Ex):Prop:=∀x∈pre e,x.name.size<=N
theorem NmB.mk {N:Nat}{op n:Int}{name:ByteArray}{m:SM}{args:List Ex}(h:name.size<=N)(ha:∀a∈args,NmB N a):NmB N (.mk op n name m args):=fun x hx=>by
 rw[pre_eq] at hx;rcases zM.1 hx with rfl|hx
 .exact h
 .obtain⟨a,h1,h2⟩:=mem_pres.1 hx
  exact ha a h1 x h2
theorem bP (N:Nat)(n:Int):NmB N (cE n):=NmB.mk (qF _) fun a h=>by cases h
theorem oF (h:NmB N e)(l:List Rng):NmB N (IE e l):=by
 rw[TZ];refine NmB.mk (qF _) fun a ha=>?_
 rcases zM.1 ha with rfl|ha
 .exact h
 .unfold cEs at ha
  obtain⟨r,_,hr⟩:=List.mem_flatMap.1 ha;rcases zM.1 hr with rfl|hr
  .exact bP N _
  .rw[wI.1 hr]; exact bP N _
theorem AXC {a b:Ex}(h1:NmB N a)(h2:NmB N b):NmB N (orE a b):=NmB.mk (qF _) fun x hx=>by
 rcases zM.1 hx with rfl|hx
 .exact h1
 .rw[wI.1 hx]; exact h2
theorem AS1 {a:Ex}(h1:NmB N a):NmB N (notE a):=NmB.mk (qF _) fun x hx=>by rw[wI.1 hx]; exact h1
theorem oE {N:Nat}{e:Ex}(h:NmB N e)(L:List Rng):∀k,NmB N (NW e L k)
 | 0=>oF h _
 | k+1=>AXC (oE h L k) (oF h _)
theorem AJT (e:Ex)(h:NmB N e):NmB N (cpE e):=by
 induction e using Ex.induct with|h e ih=>?_
 rw[TF];refine NmB.mk (h e (by rw[pre_eq]; simp)) fun a ha=>?_
 obtain⟨b,hb,rfl⟩:=zQ.1 ha;exact ih b hb fun x hx=>h x (by rw[pre_eq]; exact List.mem_cons_of_mem _ (mem_pres.2 ⟨b,hb,hx⟩))
theorem AJQ {l:List Rng}(h:wt e<=1048576)(hl:l.length<=4096):WN (EI e l)∧wt (EI e l)<=269000000:=by
 have hn:NmB 1048576 e:=(ADV h).2;have hnl:=V7 l;have hp:parts (normal l)<=256:=by rw[parts_eq]; omega
 unfold EI;rcases Classical.em (normal l=[]) with q|q
 .have:QO e (normal l)=cE 0:=by unfold QO; rw[if_pos q]
  rw[this];exact⟨⟨by rw[ANH]; omega,bP _ _⟩,by rw[ANH]; omega⟩
 .rw[XW e _ q]
  have h1:=tO (cpE e) (normal l) (parts (normal l)-1);rw[AY1] at h1;have h2:(parts (normal l)-1+1)*(wt e+34)<=256*(1048576+34):=Nat.mul_le_mul U U;exact⟨⟨U,oE (AJT e hn) _ _⟩,U⟩
theorem AJP {l:List Rng}(h:wt e<=1048576)(hl:l.length<=4096):WN (F7 e l)∧wt (F7 e l)<=269000000:=by
 have hn:NmB 1048576 e:=(ADV h).2;have hnl:=V7 l;have hp:parts (normal l)<=256:=by rw[parts_eq]; omega
 unfold F7;rcases Classical.em (normal l=[]) with q|q
 .have:QP e (normal l)=IE e []:=by rw[q]; rfl
  rw[this];exact⟨⟨by rw[iP,zJ]; omega,oF hn _⟩,by rw[iP,zJ]; omega⟩
 .rw[XX e _ q]
  have h1:=tO e (normal l) (parts (normal l)-1);have h2:(parts (normal l)-1+1)*(wt e+34)<=256*(1048576+34):=Nat.mul_le_mul U U;exact⟨⟨U,oE hn _ _⟩,U⟩
theorem AJO (h:WN e∧wt e<=269000000):WN (notE e)∧wt (notE e)<=269000001:=⟨⟨by rw[AGZ]; omega,AS1 h.1.2⟩,by rw[AGZ]; omega⟩
theorem AMH {P:Ex->Prop}{ins:Ex->List Rng->Ex}(h1:∀s∈J7 b,P (ins p.ex s.l))(h2:KA p.bins≠[]->P (notE (ins p.ex (KA p.bins)))):∀r∈WQ ins p b,r.length<=2∧∀e∈r,P e:=by
 have base:∀r∈(J7 b).map (fun s=>[ins p.ex s.l]),r.length=1∧∀e∈r,P e:=fun r hr=>by
  obtain⟨s,hs,rfl⟩:=zQ.1 hr;exact⟨rfl,fun e he=>by rw[wI.1 he]; exact h1 s hs⟩
 intro r hr;unfold WQ badO at hr;by_cases q:KA p.bins=[]
 .rw[if_pos q] at hr
  obtain⟨a,b⟩:=base r hr;exact⟨U,b⟩
 .rw[if_neg q] at hr
  rcases List.mem_or_eq_of_mem_set (show r∈List.set _ _ _ from hr) with hr|rfl
  .grind
  .grind
theorem ARQ (ins:Ex->List Rng->Ex)(p:Pt)(b:Bin):(WQ ins p b).length=(J7 b).length:=by unfold WQ; rw[AA7,jJ]
def ZM (m:Mo)(x:Hl):List Int:=if x.cross=true then (match ACQ m x.idx with|some c=>c.pts|none=>[]) else [x.idx]
structure Prt (m:Mo) (x:Hl) (L:List (Nat×Nat)):Prop where
 pts:ZM m x=L.map fun q=>(q.1:Int)
 bins:x.bins=L.map fun q=>(q.2:Int)
 ok:∀q∈L,∃h:q.1<m.pts.length,q.2<m.pts[q.1].bins.length
 n1:1<=L.length
 n4:L.length<=4
def cdQ (ins:Ex->List Rng->Ex)(m:Mo)(q:Nat×Nat):List (List Ex):=match m.pts[q.1]? with
 | some p=>(match p.bins[q.2]? with|some b=>WQ ins p b|none=>[])
 | none=>[]
theorem fI (ins:Ex->List Rng->Ex){m:Mo}{q:Nat×Nat}(h:q.1<m.pts.length)(h2:q.2<m.pts[q.1].bins.length):cdQ ins m q=WQ ins m.pts[q.1] m.pts[q.1].bins[q.2]:=by
 unfold cdQ;rw[jM h];show(match m.pts[q.1].bins[q.2]? with|some b=>WQ ins m.pts[q.1] b|none=>[])=_;rw[jM h2]
def AYJ (ins:Ex->List Rng->Ex)(m:Mo)(L:List (Nat×Nat)):List (List Ex):=NE (L.map (cdQ ins m))
end Go.Proofs.YtiihpnicbekebaaGreatDoor.Ho
namespace Go.Proofs.YtiihpnicbekebaaGreatDoor.Bd.Cl
open Sm Bins Cov Xe Wd Bl Ho Go.RowKit
variable {n:Int} {H:Hp}
theorem AAQ (L:List Rng)(k n:Nat)(h:n=min 16 (L.length-16*k)):(L.drop (16*k)).take n=Ho.part L k:=by
 unfold Ho.part;rw[List.take_eq_take_iff,List.length_drop]; omega
theorem Q4 (n:Nat)(H:Hp)(d:Nat)(e:Ex):FN n H (d+3) (.agg (AU e))=.agg (AU e):=by rw[EW]; rfl
section
variable (G:Nat->AV)
theorem AD8 (nm:ByteArray)(L:List Rng)(s:SM)(hl:L.length<=1048576)(h:Hp):PCall (En G) 180 [.str nm,.sl s 2 (L.map encR)] h (.agg (AU (oN nm L))):=by
 refine ACalls.pure (R:=fun v H=>v=.agg (AU (oN nm L))∧Sm.ext h H) 3 ?_ (fun v H ⟨a,b⟩=>⟨b,by rw[a]; exact Q4 _ _ 0 _⟩);refine acL Tryz.func180 [.cell 4 79] ?_;have g4:=A7 h (zZ 4 [FK]);have hx:=Sm.ext.r1 h (zZ 4 [FK]);have hb4:h.length<(h++[zZ 4 [FK]]).length:=BA;refine BC O3 ?_;rw[show([AV.int .i64 0,.n 0,.str ⟨#[]⟩,.sl .nil 0 []]:List AV)=FK from rfl]
 generalize h++[zZ 4 [FK]]=H0 at g4 hx hb4|-
 refine CE ?_ ?_<;>intro hz
 .have hz:L=[]:=List.eq_nil_of_length_eq_zero (BN hz)
  refine AO ?_;refine(XN G 0 _).use ?_;simp -implicitDefEqProofs only[vQ,MZ,CV,↓reduceIte,jB,enP,jO,PH g4 rfl];rw[JO (b:=h.length) AQ (ND (CP g4))];exact⟨by rw[hz]; rfl,hx.set (jF _) _⟩
 have hne:L≠[]:=by intro e; rw[e] at hz; simp at hz
 have hpos:0<L.length:=qV.2 hne;have e1:min (16:Int) ((L.length:Nat):Int)=((min 16 L.length:Nat):Int):=U
 have hs1:∀H:Hp,IX jA H 84 (.sl s 2 (L.map encR)) none (some (.n ((min 16 L.length:Nat):Int))) none=some (.sl (wN s (min 16 L.length) L.length) 2 ((Ho.part L 0).map encR)):=fun H=>by
  have:=AG9 UH J4 (h:=H) (m:=s) (kk:=.i64) (xs:=L.map encR) (u:=min 16 L.length) NU;rw[<-List.map_take,jJ] at this;have e:=AAQ L 0 (min 16 L.length) U;rw[Nat.mul_zero,zI] at e;rw[<-e];exact this
 have hs2:∀H:Hp,IX jA H 84 (.sl s 2 (L.map encR)) (some (.n ((min 16 L.length:Nat):Int))) none none=some (.sl s 2 ((L.drop (16*1)).map encR)):=fun H=>by
  rw[uA UH J4 NU,<-List.map_drop];have:L.drop (min 16 L.length)=L.drop (16*1):=by simp_all
  rw[this]
 refine BB e1 hs1 ?_;refine(gM G nm (Ho.part L 0) _ (by have:=QX L 0; omega) _).use ?_;have gc:=A7 H0 (zZ 4 [AU (IE (JW nm) (Ho.part L 0))]);have st0:=iB H0 (IE (JW nm) (Ho.part L 0)) FK rfl;refine BC O3 ?_;rw[show([AV.int .i64 0,.n 0,.str ⟨#[]⟩,.sl .nil 0 []]:List AV)=FK from rfl];refine BB st0 hs2 ?_;have g4:=AL (x:=zZ 4 [AU (IE (JW nm) (Ho.part L 0))]) g4;have hx:=hx.app [zZ 4 [AU (IE (JW nm) (Ho.part L 0))]]
 generalize H0++[zZ 4 [AU (IE (JW nm) (Ho.part L 0))]]=H1 at gc g4 hx|-
 generalize H0.length=cb at gc hb4|-
 have hsum:IE (JW nm) (Ho.part L 0)=NW (JW nm) L 0:=rfl;rw[hsum] at gc;refine ET 0 (fun F H=>F 4=.ptr h.length 0 0∧F 6=.ptr cb 0 0∧H[h.length]?=some (zZ 4 [FK])∧H[cb]?=some (zZ 4 [AU (oN nm L)])∧Sm.ext h H) (fun _ _=>False) ?_ ?_ (fun _ _ q=>q.elim)
 .refine BI (fun n F H=>∃k,n=L.length-16*(k+1)∧16*k<L.length∧F 0=.str nm∧F 1=.sl s 2 ((L.drop (16*(k+1))).map encR)∧F 4=.ptr h.length 0 0∧F 6=.ptr cb 0 0∧H[h.length]?=some (zZ 4 [FK])∧H[cb]?=some (zZ 4 [AU (NW (JW nm) L k)])∧Sm.ext h H) (L.length-16)
   ⟨0,U,U,AQ,AQ,AQ,AQ,g4,gc,hx⟩ ?_
  clear g4 gc hx;rintro n F H ⟨k,rfl,hk,f0,f1,f4,f6,g4,gc,hx⟩;have ec:decide ((((L.drop (16*(k+1))).length:Nat):Int)>0)=decide (16*(k+1)<L.length):=by grind
  refine BB f1 ec ?_;refine CE ?_ ?_<;>intro hc
  .have hk':16*(k+1)<L.length:=BN hc
   have e2:min (16:Int) (((L.drop (16*(k+1))).length:Nat):Int)=((min 16 (L.length-16*(k+1)):Nat):Int):=by rw[List.length_drop]; omega
   have hs3:∀H:Hp,IX jA H 84 (.sl s 2 ((L.drop (16*(k+1))).map encR)) none (some (.n ((min 16 (L.length-16*(k+1)):Nat):Int))) none=some (.sl (wN s (min 16 (L.length-16*(k+1))) (L.drop (16*(k+1))).length) 2 ((Ho.part L (k+1)).map encR)):=fun H=>by
    have:=AG9 UH J4 (h:=H) (m:=s) (kk:=.i64) (xs:=(L.drop (16*(k+1))).map encR) (u:=min 16 (L.length-16*(k+1))) NU;rw[<-List.map_take,jJ,AAQ L (k+1) _ rfl] at this;exact this
   have hs4:∀H:Hp,IX jA H 84 (.sl s 2 ((L.drop (16*(k+1))).map encR)) (some (.n ((min 16 (L.length-16*(k+1)):Nat):Int))) none none=some (.sl s 2 ((L.drop (16*(k+1+1))).map encR)):=fun H=>by
    rw[uA UH J4 NU,<-List.map_drop,List.drop_drop]
    have:L.drop (16*(k+1)+min 16 (L.length-16*(k+1)))=L.drop (16*(k+1+1)):=by
     by_cases q:L.length<=16*(k+1+1)
     .rw[jX U,jX U]
     .grind
    rw[this]
   have st3:DW jA H 79 (.ptr cb 0 0) (.agg [.n 20,.n 0,.str ⟨#[]⟩,.sl .full 4 [AU (NW (JW nm) L k),AU (IE (JW nm) (Ho.part L (k+1)))]])=some (H.set cb (zZ 4 [AU (NW (JW nm) L (k+1))])):=by
    have:=PH (e:=orE (NW (JW nm) L k) (IE (JW nm) (Ho.part L (k+1)))) gc (EP _);rw[uM] at this;exact this
   have hcl:=AC gc;refine BB f1 e2 ?_;refine DV A8 ?_;refine MV @iM f0 f1 f6 (ND gc) hs3 ?_;refine⟨_,gM G nm (Ho.part L (k+1)) _ (by have:=QX L (k+1); omega) _,?_⟩
   try refine MV @bD @ASB st3 f6 f1 hs4 ?_
   exact⟨_,U,k+1,rfl,hk',AZ,AZ,AZ,AZ,CZ g4 U,CP gc,hx.set U _⟩
  .have hk':¬16*(k+1)<L.length:=BN hc
   have he:oN nm L=NW (JW nm) L k:=by
    unfold oN;rw[if_neg hne,show parts L-1=k by unfold parts; omega]
   refine AO ?_;exact⟨AZ,AZ,g4,by rw[he]; exact gc,hx⟩
 .rintro F H ⟨f4,f6,g4,gc,hx⟩
  simp -implicitDefEqProofs only[vQ,YI,CV,↓reduceIte,jB,enP,jO,f4,f6,ND gc,PH g4 rfl];rw[JO (b:=h.length) (EM f4) (ND (CP g4))];exact⟨rfl,hx.set (jF _) _⟩
theorem ASD (a b:Int):G7 jA 145 [(0,.n a),(1,.n b)]=some (.agg (encR ⟨a,b⟩)):=A8
theorem A1A (h:Hp)(r:Rng):C9 jA false h 84 1 [(0,.agg (encR r))]=some (.sl .full 2 [encR r],h):=A8
theorem A3M:Frz encR:=fun _ _ _ _=>⟨rfl,rfl⟩
theorem rF (l:List Int):(RS l).length<=l.length:=by
 have:∀(l:List Int) (o:List Rng),(l.foldl ZO o).length<=o.length+l.length:=fun l=>by
  induction l with
  | nil=>intro o; simp
  | cons a l ih =>
    intro o;have h1:=ih (ZO o a)
    have h2:(ZO o a).length<=o.length+1:=by
     unfold ZO
     cases hg:o.getLast? with
     | none=>simp
     | some r =>
       have hp:0<o.length:=by cases o<;>simp at hg|-
       simp only;split<;>simp<;>omega
    rw[List.foldl_cons,List.length_cons]; omega
 have:=this l [];simpa [RS] using this
theorem ASR (n:Int):ZO [] n=[⟨n,n⟩]:=rfl
theorem AW7 {R:List Rng}(hne:R≠[])(h:(R[R.length-1]'(by have:=qV.2 hne; omega)).hi=n-1):ZO R n=R.set (R.length-1) ⟨(R[R.length-1]'(by have:=qV.2 hne; omega)).lo,n⟩:=by
 have hp:=qV.2 hne;have e:R.getLast?=some R[R.length-1]:=by grind
 unfold ZO;rw[e];simp only;rw[if_pos h];apply List.ext_getElem?;intro j;rw[List.getElem?_set,List.dropLast_eq_take,List.getElem?_append,jV,Nat.min_eq_left U];by_cases q:R.length-1=j
 .grind
 .grind
theorem ASS {R:List Rng}(hne:R≠[])(h:¬(R[R.length-1]'(by have:=qV.2 hne; omega)).hi=n-1):ZO R n=R++[⟨n,n⟩]:=by
 have hp:=qV.2 hne;have e:R.getLast?=some R[R.length-1]:=by grind
 unfold ZO;rw[e];simp only;rw[if_neg h]
theorem AAE (l:List Int)(v:AV)(h0 h:Hp)(hv:outG 1 Bins.qencI h0 l v h)(hl:l.length<=1048576)(hr:∀z∈l,-1048576<=z∧z<=1048576):PCall (En G) 181 [v] h (.sl (Cov.nm (RS l)) 2 ((RS l).map encR)):=by
 refine LY A3M ?_;refine acT Tryz.func181 2 ?_;rcases hv with⟨rfl,rfl⟩|⟨hne,o,_,rfl,ho⟩
 .refine YP ?_
  refine BI (fun n F H=>F 3=.sl .nil 0 []∧F 8=.n 0∧F 9=.n 0∧H=h) 0 ⟨AQ,AQ,AQ,rfl⟩ ?_;rintro n F H ⟨f3,f8,f9,rfl⟩;refine E8 f8 f9 (show decide ((0:Int)<0)=false by decide) f3 ?_;exact⟨ext.rfl' _,.inl ⟨rfl,rfl⟩⟩
 have ho:isI h o l:=ho;refine AO ?_
 refine BI (fun n F H=>∃i u,n+i=l.length∧F 3=u∧F 7=.own o 0 l.length∧F 8=.n (l.length:Nat)∧F 9=.n (i:Nat)∧Sm.ext h H∧outG 2 encR h (RS (l.take i)) u H) l.length
  ⟨0,.sl .nil 0 [],BA,AQ,AQ,AQ,AQ,ext.rfl' _,outG.nil _ _ _ _⟩ ?_
 rintro n F H ⟨i,u,hi,f3,f7,f8,f9,hx,hq⟩;refine BB f8 f9 ?_;refine D8 ?_ ?_<;>intro hi'
 .have hoH:isI H o l:=ED hx ho
  have ld:BU jA H 3 (.ptr o i 0)=some (.n l[i]):=by rw[hoH.ld hi',List.getD_eq_getElem?_getD,jM hi']; rfl
  obtain⟨r0,r1⟩:=hr _ (jH hi');have hsn:RS (l.take (i+1))=ZO (RS (l.take i)) l[i]:=by rw[jY hi',kZ]
  have hRl:=rF (l.take i);rw[jV] at hRl
  have app:∀ {R:List Rng},RS (l.take i)=R->∃v' H',EG jA true H 84 84 u (.sl .full 2 [encR ⟨l[i],l[i]⟩])=some (v',H')∧outG 2 encR h (R++[⟨l[i],l[i]⟩]) v' H'∧Sm.ext h H':=fun {R} hR=>by
   subst hR;obtain⟨v',H',a1,a2,_,a3,_,_⟩:=hq.append (P:=jA) UH J4 tM xA U U hx ⟨l[i],l[i]⟩;exact⟨v',H',a1,a2,a3⟩
  generalize RS (l.take i)=R at hq hsn hRl app;have fin:∀ {v':AV} {H':Hp} (hq':outG 2 encR h (RS (l.take (i+1))) v' H') (hx':Sm.ext h H') (n:Nat),n+i=l.length->∃m,m<n∧∃i' u,m+i'=l.length∧v'=u∧(.own o 0 l.length:AV)=.own o 0 l.length∧Sm.ext h H'∧outG 2 encR h (RS (l.take i')) u H':=fun hq' hx' n hn=>⟨n-1,U,i+1,_,U,rfl,rfl,hx',hq'⟩
  rcases hq with⟨rfl,rfl⟩|⟨hR,ob,hob,rfl,hb⟩
  .obtain⟨v',H',a1,a2,a3⟩:=app rfl
   rw[ASR] at hsn;rw[List.nil_append,<-hsn] at a2;simp -implicitDefEqProofs only[vQ,EJ,aC,CV,GG,LD,I8,OA,↓reduceIte,jB,enP,LQ,XR,f3,f7,f9,hoH.ix hi',ld,List.length_nil,show IntKind.i64.wrap (((0:Nat):Int)-1) = -1 by decide,show decide ((-1:Int)≥0)=false by decide,ASD,A1A,a1,DF i];exact⟨n-1,U,i+1,v',U,AZ,AZ,AZ,AZ,a3,a2⟩
  .have hp:=qV.2 hR
   have hk:R.length-1<R.length:=U;have zk:IntKind.i64.wrap (((R.length:Nat):Int)-1)=((R.length-1:Nat):Int):=by rw[wrap_i64 U U]; omega
   have zn:IntKind.i64.wrap (l[i]-1)=l[i]-1:=wrap_i64 U U;have ixo:JJ 2 H (.own ob 0 R.length) (.n ((R.length-1:Nat):Int))=some (.ptr ob (R.length-1) 0):=by rw[H8 hb hk,jG]
   have lh:BU jA H 3 (.ptr ob (R.length-1) 1)=some (.n R[R.length-1].hi):=by rw[BL ag3 hb (Cov.row_map hk)]; rfl
   refine bS f3 f7 f9 @hoH.ix hi' ld zk @mC ixo lh zn ?_;refine CE ?_ ?_<;>intro hd
   .have hd:R[R.length-1].hi=l[i]-1:=BN hd
    have st:DW jA H 3 (.ptr ob (R.length-1) 1) (.n l[i])=some (H.set ob (zZ 2 ((R.set (R.length-1) ⟨R[R.length-1].lo,l[i]⟩).map encR))):=by
     rw[IC (cs:=[.n l[i]]) rfl sz3 hb (Cov.row_map hk) (by simp [encR]),List.map_set]; rfl
    refine I7 f3 ixo st f9 (DF i) ?_;refine⟨n-1,U,i+1,_,U,AZ,AZ,AZ,AZ,hx.set hob _,?_⟩;rw[hsn,AW7 hR hd];exact .inr ⟨fun e=>by have:=congrArg List.length e; simp at this; exact hR this,ob,hob,by rw[List.length_set],CP hb⟩
   .have hd:¬R[R.length-1].hi=l[i]-1:=BN hd
    obtain⟨v',H',a1,a2,a3⟩:=app rfl;rw[ASS hR hd] at hsn;rw[<-hsn] at a2;refine MV f3 ASD A1A a1 f9 (DF i) ?_;exact⟨n-1,U,i+1,v',U,AZ,AZ,AZ,AZ,a3,a2⟩
 .rw[jI U] at hq
  refine BC f3 ?_;exact⟨hx,hq⟩
theorem A3V (n:Int)(w:Wg)(c:Nat)(h:Hp)(hc:h[c]?=some (zZ 1 [[.n n]])):PCall (En G) 179 ([.agg (MC w)]++[.ptr c 0 0]) h (.bool (ZL n w)):=by
 refine ACalls.pure0 rfl ?_;refine acT Tryz.func179 3 ?_;have hc':(h++[zZ 4 [MC w]])[c]?=_:=AL hc;have l0:BU jA (h++[zZ 4 [MC w]]) 3 (.ptr h.length 0 0)=some (.n w.lo):=by rw[BL ag3 (A7 _ _) (row:=MC w) rfl]; rfl
 have l1:BU jA (h++[zZ 4 [MC w]]) 3 (.ptr h.length 0 1)=some (.n w.hi):=by rw[BL ag3 (A7 _ _) (row:=MC w) rfl]; rfl
 have l2:BU jA (h++[zZ 4 [MC w]]) 3 (.ptr c 0 0)=some (.n n):=H7 ag3 hc';refine E8 @A4I l0 l1 l2 ?_;cases b1:decide (w.lo<=n)
 .refine DT b1 l1 l2 ?_
  exact⟨by unfold ZL; rw[b1]; rfl,_,rfl⟩
 .refine DT b1 l1 l2 ?_
  exact⟨by unfold ZL; rw[b1]; rfl,_,rfl⟩
end
theorem al3 (h:Hp):GM jA h 3=some (.ptr h.length 0 0,h++[zZ 1 [[.n 0]]]):=FV (row:=[.n 0]) A8
theorem A6J (h:Hp)(n:Int):DW jA (h++[zZ 1 [[.n 0]]]) 3 (.ptr h.length 0 0) (.n n)=some (h++[zZ 1 [[.n n]]]):=by
 rw[I9 (cs:=[.n n]) (row:=[.n 0]) rfl sz3 (A7 _ _) (jF 1),KC]; rfl
theorem bsI (h:Hp)(n:Int):C9 jA false h 32 1 [(0,.n n)]=some (.sl .full 1 [Bins.qencI n],h):=A8
theorem AHK (ws:List Wg):∀k,∀z∈TN ws k,0<=z∧z<(k:Int)
 | 0,z,h=>by cases h
 | k+1,z,h=>by
   rcases List.mem_append.1 h with h|h
   .have:=AHK ws k z h; omega
   .grind
theorem AOX {ws:List Wg}:(NZ (ZL n) ws<0->RH n ws=false)∧(0<=NZ (ZL n) ws->∃k,∃hk:k<ws.length,NZ (ZL n) ws=(k:Nat)∧RH n ws=decide (ws[k].w>0)):=by
 constructor
 .intro h
  exact AHI (eT _ _ h)
 .intro h
  obtain⟨k,hk,e,h1,h2⟩:=XZ _ _ h;exact⟨k,hk,e,AHJ hk h2 h1⟩
theorem AZ6 {b:Nat}{d:Ds}(hb:H[b]?=some (zZ 2 [J9 d])):BU jA H 140 (.ptr b 0 0)=some (.agg (J9 d)):=by
 rw[EH AJL gD hb rfl (by rw[TD]; exact jF 2),zI,jI (by rw[TD]; exact jF 2)]
section
variable (G:Nat->AV)
theorem tX (p:Pr)(hs:PrS p)(P:PV p)(d:Ds)(hr:SY p.vars d.var=true)(hwl:d.ws.length<=1048576)(h:Hp):PCall (En G) 99 [.agg (DL p),.agg (J9 d)] h (.agg (AU (yE p d))):=by
 obtain⟨k,hk,hdk,hm⟩:=YX hr;obtain⟨_,w1,w8,_⟩:=WZ (P.vr _ (jH hk));obtain⟨w,hw⟩:=Int.eq_ofNat_of_zero_le (U:0<=p.vars[k].width)
 have hsup:yE p d=oN p.vars[k].name (runs d.ws (2^w)):=by
  unfold yE;rw[hdk,wB,jM hk];simp only;rw[hw,wB]
 have hW:(2:Nat)^w<=256:=by
  have:w<=8:=U
  calc (2:Nat)^w<=2^8:=Nat.pow_le_pow_right D5 this
   _=256:=rfl
 have e2:(2:Int)^w=((2^w:Nat):Int):=by rw[Int.natCast_pow]; rfl
 rw[hsup];refine ACalls.pure (R:=fun v H=>v=.agg (AU (oN p.vars[k].name (runs d.ws (2^w))))∧Sm.ext h H) 3 ?_ (fun v H ⟨a,b⟩=>⟨b,by rw[a]; exact Q4 _ _ 0 _⟩);refine acL Tryz.func99 [.cell 4 79] ?_;have gp:=AL (x:=zZ 4 [FK]) (AL (x:=zZ 2 [J9 d]) (A7 h (zZ 5 [DL p])));have gd:=AL (x:=zZ 4 [FK]) (A7 (h++[zZ 5 [DL p]]) (zZ 2 [J9 d]));have g4:=A7 (h++[zZ 5 [DL p]]++[zZ 2 [J9 d]]) (zZ 4 [FK]);have hx:Sm.ext h (h++[zZ 5 [DL p]]++[zZ 2 [J9 d]]++[zZ 4 [FK]]):=(((ext.rfl' h).app _).app _).app _;have e4:(h++[zZ 5 [DL p]]++[zZ 2 [J9 d]]).length=h.length+2:=BA;have e3:(h++[zZ 5 [DL p]]).length=h.length+1:=BA;refine DT @YH @bxD O3 ?_;rw[show([AV.int .i64 0,.n 0,.str ⟨#[]⟩,.sl .nil 0 []]:List AV)=FK from rfl]
 rw[e4] at g4|-
 rw[e3] at gd|-
 generalize h++[zZ 5 [DL p]]++[zZ 2 [J9 d]]++[zZ 4 [FK]]=H0 at gp gd g4 hx|-
 have ldv:BU jA H0 3 (.ptr (h.length+1) 0 0)=some (.n (k:Nat)):=by rw[BL ag3 gd (row:=J9 d) rfl]; show some (AV.int .i64 d.var)=_; rw[hdk]
 have gp:=AL (x:=zZ 4 [encV p.vars[k]]) gp;have gd:=AL (x:=zZ 4 [encV p.vars[k]]) gd;have gv:=A7 H0 (zZ 4 [encV p.vars[k]]);have hl4:=AC g4;simp -implicitDefEqProofs only[vQ,CV,YJ,↓reduceIte,jB,Nat.add_zero,enP,pC,ZA,vR,jO,ALA (show H0[h.length]?=some (zZ 5 [DL p]) by rw[<-List.getElem?_append_left (l₂:=[zZ 4 [encV p.vars[k]]]) U]; exact gp),ldv,CQ hk,Bd.ldV hk,Bd.al61,Bd.st61];have g4:=AL (x:=zZ 4 [encV p.vars[k]]) g4;have hx:=hx.app [zZ 4 [encV p.vars[k]]];have hxv:Sm.ext H0 (H0++[zZ 4 [encV p.vars[k]]]):=(ext.rfl' _).app _
 generalize H0++[zZ 4 [encV p.vars[k]]]=H1 at gp gd g4 gv hx hxv|-
 generalize H0.length=vb at gv hl4|-
 clear ldv e3 e4;have lw:BU jA H1 3 (.ptr vb 0 1)=some (.n (w:Nat)):=by rw[BL ag3 gv rfl]; show some (AV.int .i64 p.vars[k].width)=_; rw[hw]
 have hvb:=AC gv;refine BB lw (A2I w (by omega)) ?_;refine ET 0 (fun F H=>∃u,F 4=.ptr (h.length+2) 0 0∧F 5=.ptr vb 0 0∧F 6=u∧Sm.ext H1 H∧outG 1 Bins.qencI H1 (TN d.ws (2^w)) u H) (fun _ _=>False) ?_ ?_ (fun _ _ q=>q.elim)
 .refine BI (fun n F H=>∃i u,n+i=2^w∧F 3=.ptr (h.length+1) 0 0∧F 4=.ptr (h.length+2) 0 0∧F 5=.ptr vb 0 0∧F 6=u∧F 17=.n ((2^w:Nat):Int)∧F 18=.n (i:Nat)∧Sm.ext H1 H∧outG 1 Bins.qencI H1 (TN d.ws i) u H) (2^w)
   ⟨0,.sl .nil 0 [],BA,AQ,AQ,AQ,AQ,by refine AO ?_; rw[e2],AQ,ext.rfl' _,outG.nil _ _ _ _⟩ ?_
  rintro n F H ⟨i,u,hi,f3,f4,f5,f6,f17,f18,hxH,ho⟩;refine BB f17 f18 ?_;refine D8 ?_ ?_<;>intro hi'
  .have gi:=A7 H (zZ 1 [[.n (i:Nat)]])
   have hxH:=hxH.app [zZ 1 [[.n (i:Nat)]]];have ho:=ho.app [zZ 1 [[.n (i:Nat)]]];refine DT f18 al3 @A6J ?_
   generalize H++[zZ 1 [[.n (i:Nat)]]]=H2 at gi hxH ho|-
   generalize H.length=ib at gi|-
   have gd2:=ED hxH gd;have lws:BU jA H2 120 (.ptr (h.length+1) 0 1)=some (.sl d.wm 4 (d.ws.map MC)):=by rw[BL ASQ gd2 rfl]; rfl
   have li:BU jA H2 3 (.ptr ib 0 0)=some (.n (i:Nat)):=by rw[BL ag3 gi rfl]; rfl
   refine BB f3 lws ?_;refine(ABR G d.ws d.wm 179 [.ptr ib 0 0] (ZL (i:Nat)) H2 U fun x _=>A3V G (i:Nat) x ib H2 gi).use ?_;have fin:∀(u':AV) (H':Hp),Sm.ext H1 H'->outG 1 Bins.qencI H1 (TN d.ws (i+1)) u' H'->Sm.ext H1 H'∧outG 1 Bins.qencI H1 (TN d.ws (i+1)) u' H':=fun _ _ a b=>⟨a,b⟩
   have hl:=lI d.ws i;obtain⟨c1,c2⟩:=AOX (n:=(i:Nat)) (ws:=d.ws);cases b1:decide (NZ (ZL ((i:Nat):Int)) d.ws≥0)
   .have hp:=c1 (by have:=of_decide_eq_false b1; omega)
    have hps:TN d.ws (i+1)=TN d.ws i:=by simp only[TN]; rw[if_neg (by rw[hp]; decide),jQ]
    rw[<-hps] at ho;refine DT b1 f18 (DF i) ?_;exact⟨n-1,U,i+1,u,U,AZ,AZ,AZ,AZ,AZ,AZ,hxH,ho⟩
   .obtain⟨j,hj,ej,hp⟩:=c2 (by have:=of_decide_eq_true b1; omega)
    rw[ej] at b1|-
    have lw2:BU jA H2 3 (.fptr 4 (d.ws.map MC) j 2)=some (.n d.ws[j].w):=by rw[CG ag3 hj]; rfl
    refine P7 AX6 @vP b1 f3 lws hj lw2 ?_;refine CE ?_ ?_<;>intro hq
    .have hps:TN d.ws (i+1)=TN d.ws i++[((i:Nat):Int)]:=by simp only[TN]; rw[if_pos (by rw[hp]; exact hq)]
     obtain⟨v',H',a1,a2,_,a3,_,_⟩:=ho.append (P:=jA) tR sz3 AM3 AF8 U U hxH ((i:Nat):Int);rw[<-hps] at a2;refine MV f6 li @bsI a1 f18 (DF i) ?_;exact⟨n-1,U,i+1,v',U,AZ,AZ,AZ,AZ,AZ,AZ,a3,a2⟩
    .have hps:TN d.ws (i+1)=TN d.ws i:=by simp only[TN]; rw[if_neg (by rw[hp,hq]; decide),jQ]
     rw[<-hps] at ho;refine BB f18 (DF i) ?_;exact⟨n-1,U,i+1,u,U,AZ,AZ,AZ,AZ,AZ,AZ,hxH,ho⟩
  .have ei:i=2^w:=U
   rw[ei] at ho;refine AO ?_;exact⟨u,AZ,AZ,AZ,hxH,ho⟩
 .rintro F H ⟨u,f4,f5,f6,hxH,ho⟩
  have gv2:=ED hxH gv;have g42:=ED hxH g4;have ln:BU jA H 9 (.ptr vb 0 0)=some (.str p.vars[k].name):=by rw[BL ag9 gv2 rfl]; rfl
  have hpl:=lI d.ws (2^w);have hpi:=AHK d.ws (2^w);refine AO ?_;refine DV A8 ?_;refine DT f5 f6 ln ?_;refine⟨_,AAE G (TN d.ws (2^w)) u H1 _ ho U (fun z hz=>by have:=hpi z hz; omega),_,AD8 G p.vars[k].name (runs d.ws (2^w)) _ (by have:=rF (TN d.ws (2^w)); show(RS (TN d.ws (2^w))).length<=_; omega) _,?_⟩;simp -implicitDefEqProofs only[vQ,MN,f4,PH g42 rfl];rw[JO (b:=h.length+2) (EM f4) (ND (CP g42))];exact⟨rfl,(hx.trans hxH).set U _⟩
def iE (h:Hp)(ys:List Ex)(v:AV)(H:Hp):Prop:=∃o tail,h.length<=o∧v=.own o 0 ys.length∧H[o]?=some (zZ 4 (ys.map AU++tail))
theorem AAV {h:Hp}{xs:List Ex}{v:AV}(ho:iE h xs v H)(he:Sm.ext h H)(hl:xs.length+1<=8388608)(y:Ex):
  ∃v' H',EG jA true H 23 23 v (.sl .full 4 [AU y])=some (v',H')∧iE h (xs++[y]) v' H'∧Sm.ext h H'∧(∀b x,H[b]?=some x->¬isB v b->H'[b]?=some x)∧∀b,isB v' b->b=H.length:=by
 obtain⟨o,tail,h2,rfl,h3⟩:=ho;have hc:JB H (.own o 0 xs.length)=some (4,xs.map AU):=by rw[JS h3 BA,zI,List.take_append_of_le_length BA,jI BA]
 refine⟨_,_,QT SV JL ZG YG hc (G5 H .full 4 [AU y]) BA (IV NU U),⟨H.length,[],he.le,BA,BA⟩,(he.set h2 _).app _,fun b x hb hn=>?_,fun b hb=>hb.symm⟩;exact AL (by rw[List.getElem?_set_ne (fun e=>hn e)]; exact hb)
theorem AAU {h:Hp}{ys:List Ex}{v:AV}(ho:iE h ys v H)(d:Nat):FN h.length H (d+2) v=.sl .any 4 (ys.map AU):=by
 obtain⟨o,tail,h2,rfl,h3⟩:=ho;have e:((ys.map AU++tail).drop 0).take ys.length=ys.map AU:=by simp_all
 rw[Cov.frzF_own _ _ (d+1) o 0 ys.length 4 _ U h3,e,frz_rows Ho.frzEx _ _ d _,if_pos];refine⟨BA,?_⟩;rw[List.all_eq_true];intro row hr;obtain⟨x,_,rfl⟩:=List.mem_map.1 hr;exact VA x
theorem A2Z (h:Hp)(n:Nat)(hn:n<=1048576):IM jA true h 23 (.n 0) (.n (n:Int))=some (.own h.length 0 0,h++[zZ 4 (zD n FK)]):=by
 have hz:NF jA 79=some FK:=A8;have hr:room n 56:=IV U U;unfold IM;simp only[SV,JL,YG,hz];rw[if_pos ⟨U,U,by rw[wB]; exact hr,rfl⟩];simp
theorem AI7 {p:Pr}(hv:NI p=0):∀d∈p.dists,SY p.vars d.var=true∧d.ws.length<=16:=by
 have h3:RP p.vars p.dists=0:=by
  unfold NI at hv;by_cases h1:P6 p.vars≠0
  .simp_all
  rw[if_neg h1] at hv;by_cases h2:QG p.vars (p.hard++p.soft)≠0
  .simp_all
  rw[if_neg h2] at hv;by_cases h3:RP p.vars p.dists≠0
  .simp_all
  simpa using h3
 intro d hd;obtain⟨i,hi,rfl⟩:=List.getElem_of_mem hd;unfold RP at h3;have h4:=Bd.fstE_zero h3 i (BN hi);rw[wD hi] at h4;unfold dsE at h4
 cases hr:SY p.vars p.dists[i].var with
 | false=>rw[if_neg (by rw[hr]; decide)] at h4; exact absurd h4 D5
 | true =>
   rw[if_pos hr] at h4;refine⟨rfl,?_⟩;split at h4
   .exact absurd h4 D5
   .omega
theorem xN (hG:GOk G)(p:Pr)(hs:PrS p)(hv:NI p=0)(h:Hp):PCall (En G) 46 [.agg (DL p)] h (.sl .any 4 ((XA p).map AU)):=by
 have P:=PV.of hv;refine ACalls.pure (R:=fun v H=>iE h (XA p) v H∧Sm.ext h H) 2 ?_ (fun v H ⟨a,b⟩=>⟨b,AAU a 0⟩);refine acT Tryz.func46 2 ?_;have gp:=A7 h (zZ 5 [DL p]);have hx:=Sm.ext.r1 h (zZ 5 [DL p]);have hdl:=hs.dists;refine BC @YH ?_
 generalize h++[zZ 5 [DL p]]=H0 at gp hx|-
 have ldP:∀ {H:Hp},H[h.length]?=some (zZ 5 [DL p])->BU jA H 27 (.ptr h.length 0 0)=some (.agg (DL p)):=fun q=>by rw[EH oA iA q (row:=DL p) rfl (by rw[N9]; exact jF 5)]; rfl
 have ldD:∀ {H:Hp},H[h.length]?=some (zZ 5 [DL p])->BU jA H 24 (.ptr h.length 0 3)=some (.sl p.dm 2 (p.dists.map J9)):=fun q=>by rw[BL A1I q (row:=DL p) rfl]; rfl
 refine BC (ldP gp) ?_;refine(Bd.valid_prog G hG p hs H0).use ?_;refine DT (show(NI p != 0)=false by rw[hv]; rfl) (ldD gp) (A2Z H0 p.dists.length hdl) ?_;have hpl0:=AC gp;have ho:iE h ((XA p).take 0) (.own H0.length 0 0) (H0++[zZ 4 (zD p.dists.length FK)]):=⟨H0.length,zD p.dists.length FK,hx.le,rfl,BA⟩;have gp:=AL (x:=zZ 4 (zD p.dists.length FK)) gp;have hx:=hx.app [zZ 4 (zD p.dists.length FK)];have hb0:∀b,isB (.own H0.length 0 0) b->b≠h.length:=fun b hb=>by cases hb; omega
 generalize H0++[zZ 4 (zD p.dists.length FK)]=H1 at gp hx ho|-
 refine BC (ldD gp) ?_;generalize AV.own H0.length 0 0=v0 at ho hb0;have hsl:(XA p).length=p.dists.length:=by unfold XA; rw[jJ]
 refine BI (fun n F H=>∃i v,n+i=p.dists.length∧F 1=.ptr h.length 0 0∧F 3=v∧F 14=.sl p.dm 2 (p.dists.map J9)∧F 15=.n (p.dists.length:Nat)∧F 16=.n (i:Nat)∧H[h.length]?=some (zZ 5 [DL p])∧Sm.ext h H∧iE h ((XA p).take i) v H∧∀b,isB v b->b≠h.length) p.dists.length
  ⟨0,v0,BA,AQ,AQ,AQ,AQ,AQ,gp,hx,ho,hb0⟩ ?_
 clear gp hx ho hb0;rintro n F H ⟨i,v,hi,f1,f3,f14,f15,f16,gp,hx,ho,hb0⟩;refine BB f15 f16 ?_;refine D8 ?_ ?_<;>intro hi'
 .obtain⟨d1,d2⟩:=AI7 hv _ (jH hi')
  have lt:=AC gp;have gp:=AL (x:=zZ 2 [J9 p.dists[i]]) gp;have hx:=hx.app [zZ 2 [J9 p.dists[i]]];have gd:=A7 H (zZ 2 [J9 p.dists[i]])
  have ho:iE h ((XA p).take i) v (H++[zZ 2 [J9 p.dists[i]]]):=by
   obtain⟨o,tail,q1,q2,q3⟩:=ho;exact⟨o,tail,q1,q2,AL q3⟩
  have ald:GM jA H 140=some (.ptr H.length 0 0,H++[zZ 2 [[.n 0,.sl .nil 0 []]]]):=FV (row:=[.n 0,.sl .nil 0 []]) A8
  have std:DW jA (H++[zZ 2 [[.n 0,.sl .nil 0 []]]]) 140 (.ptr H.length 0 0) (.agg (J9 p.dists[i]))=some (H++[zZ 2 [J9 p.dists[i]]]):=by
   rw[I9 (cs:=J9 p.dists[i]) (row:=[.n 0,.sl .nil 0 []]) rfl (by rw[TD]; exact gD) (A7 _ _) (by rw[TD]; exact jF 2),KC]; rfl
  simp -implicitDefEqProofs only[vQ,CV,↓reduceIte,jB,enP,APX,jO,f14,f16,CQ hi',DR AJL gD TD hi',ald,std]
  generalize H++[zZ 2 [J9 p.dists[i]]]=H2 at gp hx gd ho|-
  refine E8 f1 f3 (ldP gp) (AZ6 gd) ?_;refine(tX G p hs P p.dists[i] d1 U H2).use ?_;obtain⟨v',H',a1,a2,a3,a4,a5⟩:=AAV ho hx (by rw[jV]; omega) (yE p p.dists[i]);have hit:i<(XA p).length:=U;have hget:(XA p)[i]=yE p p.dists[i]:=by simp [XA]
  rw[<-hget,<-jY hit] at a2;refine E8 @dU a1 f16 (DF i) ?_;refine⟨n-1,U,i+1,v',U,AZ,AZ,AZ,AZ,AZ,a4 _ _ gp (fun q=>hb0 _ q rfl),a3,a2,fun b hb=>by have:=a5 b hb; have:=AC gp; have:=AC gd; omega⟩
 .rw[jI U] at ho
  refine BC f3 ?_;exact⟨ho,hx⟩
end
end Go.Proofs.YtiihpnicbekebaaGreatDoor.Bd.Cl
namespace Go.Proofs.YtiihpnicbekebaaGreatDoor.Bd.Cl
open Sm Bins Cov Xe Wd Bl Go.RowKit
variable {H h:Hp} {u v:AV} {a b c:List Int} {i:Nat} {e:Ex} {p:Pr}
theorem A6P (o off len:Nat):JM jA 32 .eql (.own o off len) (.sl .nil 0 [])=some (.bool false):=A8
def cpO (h H:Hp)(xs:List Int)(v:AV):Prop:=(xs=[]∧v=.sl .full 1 [])∨(xs≠[]∧∃o,h.length<=o∧v=.own o 0 xs.length∧isI H o xs)
theorem cpO.app {xs:List Int}(q:cpO h H xs v)(x:ABlk):cpO h (H++[x]) xs v:=q.imp id fun⟨a,o,b,c,d⟩=>⟨a,o,b,c,AL d⟩
theorem cpO.keep {h H H':Hp}{B:List Nat}{xs:List Int}{v:AV}(q:cpO h H xs v)(k:KB B H H')(hB:∀b∈B,b<h.length):cpO h H' xs v :=
 q.imp id fun⟨a,o,b,c,d⟩=>⟨a,o,b,c,k.keep _ _ d fun hm=>by have:=hB _ hm; omega⟩
section
variable (G:Nat->AV)
theorem AF4 {o:Nat}{xs:List Int}(ho:isI h o xs)(hm:xs.length<=1048576):ACalls (En G) 189 [.own o 0 xs.length] h fun v H=>ext h H∧cpO h H xs v:=by
 by_cases hz:xs.length=0
 .have e:xs=[]:=qO hz
  subst e;refine acT Tryz.func189 2 ?_
  have ap:EG jA true h 32 32 (.sl .full 1 []) (.own o 0 0)=some (.sl .full 1 [],h):=by
   unfold EG;have hs:RG jA h 1 32 (.own o 0 0)=some []:=by unfold RG; simp only[tR,JS ho (BA:0+0<=(([]:List Int).map Bins.qencI).length)]; rfl
   simp only[tR,sz3,G5,hs];rfl
  refine KF A6P @AR0 ap ?_;exact⟨ext.rfl' _,.inl ⟨rfl,rfl⟩⟩
 .refine(AMK G ho (U:0+xs.length=xs.length) U hm).mono ?_
  rintro v H ⟨rfl,rfl⟩;exact⟨(ext.rfl' h).app _,.inr ⟨fun e=>hz (by rw[e]; rfl),h.length,jF _,rfl,by rw[List.drop_zero]; exact A7 _ _⟩⟩
theorem AS5 (hG:GOk G)(l:List Sg)(v:AV)(h0 h:Hp)(hv:outG 2 GU h0 l v h)(e:Ex)(hl:l.length<=1048576)(hw:wt e<=1048576):PCall (En G) 143 [.agg (AU e),v] h (evV (evE l e)):=by
 rcases hv with⟨rfl,rfl⟩|⟨hne,o,ho,rfl,hb⟩
 .exact ACalls.args (tL G hG [] .nil e h BA hw) (CvRL.cons (CvR.refl _) (CvRL.cons (CvR.sl (Cv.nil 0 2)) CvRL.nil))
 .refine PCall.thaw (args':=[.agg (AU e),.sl .any 2 (l.map GU)]) (tL G hG l .any e _ U hw) rfl (fun i v' hi=>?_) rfl
  match i,hi with
  | 0,hi=>exact⟨_,rfl,by cases hi; exact .same _⟩
  | 1,hi =>
    refine⟨_,rfl,?_⟩;cases hi;refine .own o 2 l.length (l.map GU) hb (by rw[List.length_map]) fun row hr u hu=>?_
    obtain⟨s,_,rfl⟩:=List.mem_map.1 hr;simp only[GU,List.mem_cons,List.not_mem_nil,or_false] at hu;rcases hu with rfl|rfl<;>exact⟨rfl,rfl⟩
  | i+2,hi=>cases hi
theorem AQ2 {vars:List Vr}(z:Int)(h1:i<vars.length)(h2:i<a.length):(OZ vars a).set i (vars[i].name,z)=OZ vars (a.set i z):=by
 apply List.ext_getElem?;intro j;have hel:∀ {b:List Int},j<(OZ vars b).length↔j<vars.length∧j<b.length:=fun {b}=>by unfold OZ; simp; omega
 by_cases hj:j<vars.length∧j<a.length
 .have hj1:j<(OZ vars (a.set i z)).length:=hel.2 ⟨hj.1,by rw[qX]; exact hj.2⟩
  rw[List.getElem?_set,jM hj1,kC hj.1 (by rw[qX]; exact hj.2) hj1,List.getElem_set];by_cases e:i=j
  .simp_all
  .rw[if_neg e,if_neg e,jM (hel.2 hj),kC hj.1 hj.2 (hel.2 hj)]
 .simp_all
def iF (c b:List Int)(i:Nat):List Int:=c.take i++b.drop i
theorem APC (h:c.length=b.length)(i:Nat):(iF c b i).length=b.length:=by unfold iF; simp; omega
theorem APB (h:c.length=b.length)(hi:i<c.length):(iF c b i).set i (c.getD i 0)=iF c b (i+1):=by
 unfold iF;rw[List.set_append_right _ _ (by rw[jV]; omega),jV,Nat.min_eq_left U,Nat.sub_self,List.drop_eq_getElem_cons (U:i<b.length),List.set_cons_zero,jY hi,List.append_assoc];rw[List.getD_eq_getElem?_getD,jM hi]; rfl
theorem sK:∀(vars:List Vr) (a:List Int),a.length=vars.length->∀n:ByteArray,(OM (OZ vars a) n).2=decide (0<=plc vars n)
 | [],[],_,n=>rfl
 | [],_::_,hl,_=>by simp at hl
 | _::_,[],hl,_=>by simp at hl
 | v::vs,z::a,hl,n=>by
   have e:OM (OZ (v::vs) (z::a)) n=if(v.name.toList==n.toList)=true then (wW z,true) else OM (OZ vs a) n:=rfl
   have ep:plc (v::vs) n=if(v.name.toList==n.toList)=true then 0 else if plc vs n<0 then -1 else plc vs n+1:=rfl
   rw[e,ep];by_cases q:(v.name.toList==n.toList)=true
   .rw[if_pos q,if_pos q]; rfl
   .rw[if_neg q,if_neg q,sK vs a (BN hl) n,decide_eq_decide]
    split<;>omega
theorem ANA {l:List Vr}(h:xpE l e=0):exE e=0∧AGD e=false∧ABX l e=false:=by
 unfold xpE at h;by_cases he:exE e≠0
 .rw[if_pos he] at h; exact absurd h he
 rw[if_neg he] at h;unfold plE at h;refine⟨BN he,?_,?_⟩
 .grind
 .grind
theorem A3D (h:xpE p.vars e=0)(hl:a.length=p.vars.length):(pre e).all (knE (OZ p.vars a))=true:=by
 obtain⟨_,h2,h3⟩:=ANA h;rw[zH];intro x hx
 have a2:WP x=false:=by
  cases q:WP x
  .rfl
  .unfold AGD at h2; rw[qU] at h2; exact absurd q (h2 x hx)
 have a3:WO p.vars x=false:=by
  cases q:WO p.vars x
  .rfl
  .unfold ABX at h3; rw[qU] at h3; exact absurd q (h3 x hx)
 unfold knE;by_cases e2:x.op=2
 .rw[if_pos e2,sK p.vars a hl,decide_eq_true_eq]
  unfold WO at a3;simp [e2] at a3;exact a3
 .rw[if_neg e2]
  unfold WP at a2;rw[if_neg];intro q;rcases q with q|q<;>simp [q] at a2
theorem A31 (h:xpE p.vars e=0)(hl:a.length=p.vars.length):evE (OZ p.vars a) e=(ZH (OZ p.vars a) e,0):=by
 unfold evE; rw[if_neg (by simpa using (ANA h).1),if_pos (A3D h hl)]
def Dh (h:Hp)(p:Pr)(c b:List Int)(u v:AV)(H:Hp):Prop :=
 (p.vars.length=0∧u=.sl .full 1 []∧v=.sl .nil 0 [])∨(p.vars.length≠0∧∃eb o,h.length<=eb∧eb<o∧v=.own eb 0 p.vars.length∧u=.own o 0 p.vars.length∧H[eb]?=some (zZ 2 ((OZ p.vars b).map GU))∧isI H o c)
theorem Dh.kb {H':Hp}(d:Dh h p c b u v H){B:List Nat}(k:KB B H H')(hB:∀x∈B,x<h.length):Dh h p c b u v H' :=
 d.imp id fun⟨a,eb,o,q1,q2,q3,q4,q5,q6⟩=>⟨a,eb,o,q1,q2,q3,q4,k.keep _ _ q5 fun hm=>by have:=hB _ hm; omega,k.keep _ _ q6 fun hm=>by have:=hB _ hm; omega⟩
theorem Dh.env (d:Dh h p c b u v H)(hb:b.length=p.vars.length):outG 2 GU h (OZ p.vars b) v H:=by
 have hel:=X9 hb;rcases d with⟨z,_,rfl⟩|⟨z,eb,o,q1,q2,rfl,q4,q5,q6⟩
 .exact .inl ⟨qO U,rfl⟩
 .exact .inr ⟨fun e=>z (by rw[<-hel,e]; rfl),eb,q1,by rw[hel],q5⟩
theorem Dh.cpy (d:Dh h p c b u v H)(hc:c.length=p.vars.length):cpO h H c u:=by
 rcases d with⟨z,rfl,_⟩|⟨z,eb,o,q1,q2,_,rfl,q5,q6⟩
 .exact .inl ⟨qO U,rfl⟩
 .exact .inr ⟨fun e=>z (by rw[<-hc,e]; rfl),o,U,by rw[hc],q6⟩
theorem A6G {b:Nat}{l:List Sg}(hb:H[b]?=some (zZ 2 (l.map GU)))(hi:i<l.length)(z:Int):DW jA H 3 (.ptr b i 1) (.n z)=some (H.set b (zZ 2 ((l.set i (l[i].1,z)).map GU))):=by
 rw[IC (cs:=[.n z]) rfl sz3 hb (Cov.row_map hi) (by simp [GU]),List.map_set]; rfl
theorem AP9 (hG:GOk G)(p:Pr)(hs:PrS p)(P:PV p)(lm:SM)(l:List Ex)(hl:l.length<=1048576)(hw:∀e∈l,wt e<=1048576)(hk:∀e∈l,xpE p.vars e=0)(st:Int)(a:List Int)(ok:AOk p a)(fb ab:Nat)(hne:fb≠ab)(h:Hp)(hst:(lft p a:Int)<=st)(hst2:st<=262144)
  (hf:isF h fb p lm l ab p.vars.length false st) (hb:isI h ab a):ACalls (En G) 183 [.ptr fb 0 0] h fun v H=>KB [fb,ab] h H∧match oP p l (lft p a) a with
  | some b=>∃u,v=.tup [u,.bool true]∧cpO h H b u
  | none=>v=.tup [.sl .nil 0 [],.bool false]∧∃st',isF H fb p lm l ab p.vars.length true st':=by
 generalize hR:oP p l (lft p a) a=R;have hvl:=hs.vars;have hal:=ok.len;have hfl:=AC hf;have hbl:=AC hb;have hB:∀x∈[fb,ab],x<h.length:=fun x hx=>by simp at hx; omega
 refine acL Tryz.func183 [.tmp 2,.tmp 3] ?_;refine BB @sX @ZF ?_;refine fN (.ones [0,1,2,3,4,5,6,7] (.alt 8 (.ones [9] .done) .non)) A8 ?_;simp only[DN,MR,List.getElem?_cons_succ,List.getElem?_cons_zero];refine E8 @vO @WC @hf.pr @hf.as ?_;have hE:=AXF G p hs a ab hal h hb;rw[hal] at hE;refine⟨ACalls.mono hE ?_,trivial⟩;rintro v0 H1 ⟨hx1,ho1⟩;have k1:KB [fb,ab] h H1:=⟨hx1.le,fun i y q _=>ED hx1 q⟩;have hf1:isF H1 fb p lm l ab p.vars.length false st:=ED hx1 hf;have hb1:isI H1 ab a:=ED hx1 hb;refine DT @AUX @AUY @ZF ?_;refine ET 0 (fun F H=>KB [fb,ab] h H∧R=none∧∃st',isF H fb p lm l ab p.vars.length true st') (fun F H=>KB [fb,ab] h H∧∃b,R=some b∧F 3=.bool true∧cpO h H b (F 2)) ?_ ?_ ?_
 .refine BI (fun n F H=>∃ov c b st,F 0=.ptr fb 0 0∧KB [fb,ab] h H∧b.length=p.vars.length∧outG 2 GU h (OZ p.vars b) (F 4) H∧isF H fb p lm l ab p.vars.length ov st∧c.length=p.vars.length∧isI H ab c∧(ov=true->R=none)∧(ov=false->n=lft p c∧AOk p c∧oP p l (lft p c) c=R∧(lft p c:Int)<=st∧st<=262144)) (lft p a)
   ⟨false,a,a,st,AQ,k1,hal,by refine AO ?_; exact ho1,hf1,hal,hb1,(fun q=>by cases q),fun _=>⟨rfl,ok,hR,hst,hst2⟩⟩ ?_
  clear hf hb hf1 hb1 k1 ho1 hx1 hst hst2;rintro n F H ⟨ov,c,b,st,f0,k1,hbn,ho,hf,hcn,hb,hov,hno⟩
  cases ov with
  | true =>
    refine DT @iW f0 @hf.ovd ?_;exact⟨k1,hov rfl,st,hf⟩
  | false =>
    obtain⟨rfl,okc,hS,hs1,hs2⟩:=hno rfl;have hpos:=AUR okc;have z1:IntKind.i64.wrap (st-1)=st-1:=wrap_i64 U U;have b1:decide (st>0)=true:=by rw[decide_eq_true_eq]; omega
    have k2:=k1.set (b:=fb) BA (zZ 9 [fdr p lm l ab p.vars.length false (st-1)]);have hf2:isF (H.set fb (zZ 9 [fdr p lm l ab p.vars.length false (st-1)])) fb p lm l ab p.vars.length false (st-1):=CP hf;have hb2:isI (H.set fb (zZ 9 [fdr p lm l ab p.vars.length false (st-1)])) ab c:=by unfold isI; rw[zX hne]; exact hb
    have ho2:outG 2 GU h (OZ p.vars b) (F 4) (H.set fb (zZ 9 [fdr p lm l ab p.vars.length false (st-1)])):=ho.setB hfl _;refine aB @WC @iW @AVI f0 @hf.ovd @hf.std b1 z1 @hf.setSt ?_
    generalize H.set fb (zZ 9 [fdr p lm l ab p.vars.length false (st-1)])=H2 at k2 hf2 hb2 ho2|-
    refine BB f0 @hf2.as ?_;have hC:=AF4 G hb2 U;rw[hcn] at hC;refine hC.mono ?_;rintro u H3 ⟨hx3,hc3⟩;have k3:KB [fb,ab] h H3:=k2.trans ⟨hx3.le,fun i y q _=>ED hx3 q⟩;have hf3:isF H3 fb p lm l ab p.vars.length false (st-1):=ED hx3 hf2;have hb3:isI H3 ab c:=ED hx3 hb2;have ho3:=Ho.outG_ext ho2 hx3
    have hd3:Dh h p c (iF c b 0) u (F 4) H3:=by
     have e0:iF c b 0=b:=by simp [iF]
     rw[e0];have hel:=X9 hbn;rcases hc3 with⟨z,rfl⟩|⟨z,o,q1,rfl,q2⟩
     .have hz:p.vars.length=0:=by rw[<-hcn,z]; rfl
      rcases ho3 with⟨_,w⟩|⟨w,_⟩
      .exact .inl ⟨hz,rfl,w⟩
      .simp_all
     .have hz:p.vars.length≠0:=fun q=>z (qO U)
      rcases ho2 with⟨w,_⟩|⟨w,eb,p1,p2,p3⟩
      .simp_all
      .exact .inr ⟨hz,eb,o,p1,by have:=AC p3; omega,by rw[p2,hel],by rw[hcn],ED hx3 p3,q2⟩
    have hlen:JR jA 32 u=some (.n (p.vars.length:Nat)):=by
     rcases hd3 with⟨z,rfl,z3⟩|⟨z,eb,o,q1,q2,q3,rfl,q5,q6⟩
     .simp only[XT,z]; rfl
     .simp only[XT]
    refine BC @hlen ?_;refine ET 2 (fun F' H'=>F' 0=.ptr fb 0 0∧F' 4=F 4∧F' 5=u∧KB [fb,ab] h H'∧isF H' fb p lm l ab p.vars.length false (st-1)∧isI H' ab c∧Dh h p c c u (F 4) H') (fun _ _=>False) ?_ ?_ (fun _ _ q=>q.elim)
    .refine BI (fun n F' H'=>∃i,n+i=p.vars.length∧F' 0=.ptr fb 0 0∧F' 4=F 4∧F' 5=u∧F' 45=u∧F' 46=.n (p.vars.length:Nat)∧F' 47=.n (i:Nat)∧KB [fb,ab] h H'∧isF H' fb p lm l ab p.vars.length false (st-1)∧isI H' ab c∧Dh h p c (iF c b i) u (F 4) H') p.vars.length
      ⟨0,BA,EM f0,AQ,AQ,AQ,AQ,AQ,k3,hf3,hb3,hd3⟩ ?_
     clear k3 hf3 hb3 hd3;rintro n F2 H' ⟨i,hi,f0,f4,f5,f45,f46,f47,k3,hf3,hb3,hd3⟩;refine BB f46 f47 ?_;refine D8 ?_ ?_<;>intro hi'
     .have hic:i<c.length:=U
      rcases hd3 with⟨z,_⟩|⟨z,eb,o,q1,q2,q3,q4,q5,q6⟩
      .omega
      have hml:=APC (c:=c) (b:=b) U i;have hie:i<(OZ p.vars (iF c b i)).length:=by rw[X9 U]; exact hi'
      have ss:=A6G q5 hie (c.getD i 0);rw[kC hi' U hie,AQ2 _ hi' U,APB U hic] at ss;have ixe:JJ 2 H' (.own eb 0 p.vars.length) (.n (i:Nat))=some (.ptr eb i 0):=by rw[H8 q5 hi',jG]
      rw[q4] at f45;rw[q3] at f4;simp -implicitDefEqProofs only[vQ,CV,↓reduceIte,jB,enP,LQ,AX5,AIS,jO,f0,f4,f45,f47,q6.ix hi',q6.ld hic,ixe,ss,DF i];refine⟨n-1,U,i+1,U,AZ,by first|exact True.intro|(rw[q3]; exact f4)|exact q3.symm,AZ,by first|exact True.intro|(rw[q4]; exact f45)|exact q4.symm,AZ,AZ,⟨by rw[qX]; exact k3.len,fun k y q hm=>?_⟩,?_,?_,.inr ⟨z,eb,o,q1,q2,q3,q4,CP q5,?_⟩⟩
      .rw[zX (by have:=AC q; omega)]; exact k3.keep k y q hm
      .grind
      .grind
      .grind
     .have e1:iF c b i=c:=by unfold iF; rw[jI U,List.drop_eq_nil_of_le U,lAn]
      rw[e1] at hd3;refine AO ?_;exact⟨AZ,AZ,AZ,k3,hf3,hb3,hd3⟩
    clear k3 hf3 hb3 hd3 ho3 hc3 hx3 ho2 hb2 hf2 k2 ho hf hb hov hno k1;rintro F2 H' ⟨f0,f4,f5,k3,hf3,hb3,hd3⟩;have hA:=xI G p hs P lm l (st-1) c okc fb ab hne H' (by rw[hcn]; exact hf3) hb3;rw[hcn] at hA;refine BC f0 ?_;refine hA.mono ?_;rintro _ H4 ⟨kA,post⟩;have k4:=k3.trans kA;have hd4:=hd3.kb kA hB;generalize hN:nxK p.vars p.vars.length c=O at post
    obtain⟨ov',c',hf4,hc'n,hb4,ho1,ho2⟩:∃ov' c',isF H4 fb p lm l ab p.vars.length ov' (st-1)∧c'.length=p.vars.length∧isI H4 ab c'∧(ov'=true->O=none)∧(ov'=false->O=some c'):=by
     cases O with
     | none =>
       obtain⟨q1,c',q2,q3⟩:=post;exact⟨true,c',q1,U,q3,fun _=>rfl,fun q=>by cases q⟩
     | some c' =>
       obtain⟨q1,q2⟩:=post;exact⟨false,c',q1,(ABE okc hN).1.len,q2,(fun q=>by cases q),fun _=>rfl⟩
    clear post hA
    have go:AEI p l c≠true->(ov'=true->R=none)∧(ov'=false->AOk p c'∧lft p c'+1=lft p c∧oP p l (lft p c') c'=R):=fun hns=>by
     obtain⟨k,hk'⟩:∃k,lft p c=k+1:=⟨lft p c-1,U⟩;rw[hk'] at hS;unfold oP at hS;rw[if_neg hns,hN] at hS;constructor
     .grind
     .intro q
      rw[ho2 q] at hN hS;have hS:oP p l k c'=R:=hS;obtain⟨n1,n2⟩:=ABE okc hN;refine⟨n1,n2,?_⟩;rw[<-hS,show lft p c'=k by omega]
    have hdone:AEI p l c=true->R=some c:=fun q=>by
     obtain⟨k,hk'⟩:∃k,lft p c=k+1:=⟨lft p c-1,U⟩;rw[hk'] at hS;unfold oP at hS;rw[if_pos q] at hS;exact hS.symm
    refine DT @AVJ f0 @hf4.es ?_
    refine BI (fun n F' H'=>∃i,n+i=l.length∧F' 0=.ptr fb 0 0∧F' 4=F 4∧F' 5=u∧F' 63=.sl lm 4 (l.map AU)∧F' 64=.n (l.length:Nat)∧F' 65=.n (i:Nat)∧KB [fb,ab] h H'∧isF H' fb p lm l ab p.vars.length ov' (st-1)∧isI H' ab c'∧Dh h p c c u (F 4) H'∧∀e∈l.take i,ZH (OZ p.vars c) e≠0) l.length
     ⟨0,BA,EM f0,EM f4,EM f5,AQ,AQ,AQ,k4,hf4,hb4,hd4,BA⟩ ?_
    clear f0 f4 f5 k3 hf3 hb3 hd3 k4 hf4 hb4 hd4 kA;rintro n F2 H' ⟨i,hi,f0,f4,f5,f63,f64,f65,k4,hf4,hb4,hd4,hsat⟩;refine BB f64 f65 ?_;refine D8 ?_ ?_<;>intro hi'
    .have hmem:=List.getElem_mem hi'
     have k5:=k4.app (zZ 4 [AU l[i]]);have hf5:isF (H'++[zZ 4 [AU l[i]]]) fb p lm l ab p.vars.length ov' (st-1):=AL hf4;have hb5:isI (H'++[zZ 4 [AU l[i]]]) ab c':=AL hb4;have hd5:=hd4.kb ((KB.rfl' [fb,ab] H').app (zZ 4 [AU l[i]])) hB;have gE:=A7 H' (zZ 4 [AU l[i]]);simp -implicitDefEqProofs only[vQ,CV,↓reduceIte,jB,enP,RN,jO,f63,f65,CQ hi',DR O5 JL EP hi',al79,st79]
     generalize H'++[zZ 4 [AU l[i]]]=H5 at k5 hf5 hb5 hd5 gE|-
     refine BB (JI gE) f4 ?_;have hel:=X9 (vars:=p.vars) hcn;refine(AS5 G hG (OZ p.vars c) (F 4) h H5 (hd5.env hcn) l[i] U (hw _ hmem)).use ?_;have hev:evV (evE (OZ p.vars c) l[i])=.tup [.n (ZH (OZ p.vars c) l[i]:Nat),.n 0]:=by rw[A31 (hk _ hmem) hcn]; rfl
     rw[hev];refine AO ?_;refine CE ?_ ?_<;>intro hz
     .have hz:ZH (OZ p.vars c) l[i]=0:=BN hz
      have hns:AEI p l c≠true:=fun q=>by
       unfold AEI at q;rw[zH] at q;have:=q _ hmem;rw[hz] at this; simp at this
      obtain⟨g1,g2⟩:=go hns;refine AO ?_
      cases hq:ov' with
      | true =>
        refine⟨0,hpos,true,c',c,st-1,AZ,k5,hcn,?_,by rw[<-hq]; exact hf5,hc'n,hb5,fun _=>g1 hq,fun q=>by cases q⟩
        first|(rw[f4]; exact hd5.env hcn)|exact hd5.env hcn
      | false =>
        obtain⟨n1,n2,n3⟩:=g2 hq;refine⟨lft p c',U,false,c',c,st-1,AZ,k5,hcn,?_,by rw[<-hq]; exact hf5,hc'n,hb5,(fun q=>by cases q),fun _=>⟨rfl,n1,n3,U,U⟩⟩
        first|(rw[f4]; exact hd5.env hcn)|exact hd5.env hcn
     .have hz:ZH (OZ p.vars c) l[i]≠0:=BN hz
      refine BB f65 (DF i) ?_;refine⟨n-1,U,i+1,U,AZ,AZ,AZ,AZ,AZ,AZ,k5,hf5,hb5,hd5,fun e he=>?_⟩;rw[jY hi'] at he;rcases List.mem_append.1 he with h1|h1
      .exact hsat e h1
      .rw[List.mem_singleton.1 h1]; exact hz
    .rw[jI U] at hsat
     have hs1:AEI p l c=true:=by
      unfold AEI;rw[zH];intro e he;have:=hsat e he;simpa using this
     refine BC f5 ?_;exact⟨k4,c,hdone hs1,AZ,hd4.cpy hcn⟩
 .rintro F H ⟨k1,ho,st',hf⟩
  refine AO ?_;refine⟨k1,?_⟩;rw[ho];exact⟨AZ,st',hf⟩
 .rintro F H ⟨k1,b,ho,f3,hc⟩
  refine BC f3 ?_;refine⟨k1,?_⟩;rw[ho];exact⟨_,AZ,hc⟩
end
def FstQ (r:Option (List Int))(v:AV):Prop:=match r with
 | some a=>∃m,m≠.nil∧v=.tup [.sl m 1 (a.map Bins.qencI),.n 0]
 | none=>v=.tup [.sl .nil 0 [],.n 11]
theorem KB.ext {h H H':Hp}{B:List Nat}(hx:Sm.ext h H)(k:KB B H H')(hB:∀b∈B,h.length<=b):Sm.ext h H' :=
 AQX (fun i y q=>k.keep i y (ED hx q) (fun hm=>by have:=hB _ hm; have:=AC q; omega)) (Nat.le_trans hx.le k.len)
section
variable (G:Nat->AV)
theorem AGU (hG:GOk G)(p:Pr)(hs:PrS p)(hv:NI p=0)(lm:SM)(l:List Ex)(hl:l.length<=1048576)(hw:∀e∈l,wt e<=1048576)(hk:∀e∈l,xpE p.vars e=0)(hst:lft p (dE p)<=262144)(h:Hp):
  QCall (En G) 100 [.agg (DL p),.sl lm 4 (l.map AU),.n 262144] h (FstQ (UL p l)):=by
 have P:=PV.of hv;have okf:=AVF P;refine ACalls.pureQ (R:=fun v H=>Sm.ext h H∧FstQ (UL p l) (FN h.length H 3 v)) 3 ?_ (fun v H ⟨a,b⟩=>⟨a,b⟩);refine acL Tryz.func100 [.tmp 6,.tmp 7] ?_;have ge:=A7 h (zZ 5 [DL p]);have hx:=Sm.ext.r1 h (zZ 5 [DL p]);refine BC @YH ?_
 generalize h++[zZ 5 [DL p]]=H0 at ge hx|-
 have lp:BU jA H0 27 (.ptr h.length 0 0)=some (.agg (DL p)):=by rw[EH oA iA ge (row:=DL p) rfl (by rw[N9]; exact jF 5)]; rfl
 refine BC lp ?_;refine(AGB G hG p hs hv lm l hl hw hk H0).mono ?_;rintro v H1 ⟨hx1,fb,ab,hfb,hab,hne,rfl,hf,hb⟩;have hx01:=hx.trans hx1;have hxl:=hx.le;refine BC (show((0:Int) != 0)=false from rfl) ?_;refine(AP9 G hG p hs P lm l hl hw hk 262144 (dE p) okf fb ab hne H1 U U hf hb).mono ?_;rintro v H2 ⟨k,post⟩;have hx2:Sm.ext h H2:=KB.ext hx01 k (fun b hb=>by simp at hb; omega);have hxx:=hx01.le;unfold UL
 cases hr:oP p l (lft p (dE p)) (dE p) with
 | some a =>
   rw[hr] at post;obtain⟨u,rfl,hc⟩:=post;refine AO ?_;refine⟨hx2,?_⟩;rcases hc with⟨rfl,rfl⟩|⟨hne2,o,ho,rfl,hb2⟩
   .exact⟨.full,by decide,rfl⟩
   .refine⟨.any,by decide,?_⟩
    show AV.tup [FN h.length H2 2 (.own o 0 a.length),FN h.length H2 2 (.n 0)]=_;rw[Cov.frz_own Cov.frzI (U:h.length<=o) hb2]; rfl
 | none =>
   rw[hr] at post;obtain⟨rfl,st',hf2⟩:=post;refine BB @iW @hf2.ovd ?_;exact⟨hx2,rfl⟩
def AFM (r:Option (List Int)):AV:=match r with
 | some a=>.tup [.sl .any 1 (a.map Bins.qencI),.n 0]
 | none=>.tup [.sl .nil 0 [],.n 11]
theorem FstQ.cv {r:Option (List Int)}(h:FstQ r v):CvR v (AFM r):=by
 cases r with
 | none=>rw[show v=_ from h]; exact CvR.refl _
 | some a =>
   obtain⟨m,hm,rfl⟩:=h;exact CvR.tup (CvRL.cons (CvR.sl (Cv.any hm 1 _)) (CvRL.cons (CvR.refl _) CvRL.nil))
theorem AXE (hG:GOk G)(p:Pr)(hs:PrS p)(hv:NI p=0)(lm:SM)(l:List Ex)(hl:l.length<=1048576)(hw:∀e∈l,wt e<=1048576)(hk:∀e∈l,xpE p.vars e=0)(hst:lft p (dE p)<=262144)(h:Hp):
  PCall (En G) 100 [.agg (DL p),.sl lm 4 (l.map AU),.n 262144] h (AFM (UL p l)) :=
 ACalls.conv (AGU G hG p hs hv lm l hl hw hk hst h) fun _ _ ⟨q,e⟩=>⟨_,⟨rfl,e⟩,q.cv⟩
end
end Go.Proofs.YtiihpnicbekebaaGreatDoor.Bd.Cl
namespace Go.Proofs.YtiihpnicbekebaaGreatDoor.Bd.Cl
open Sm Bins Cov Xe Wd Bl Ho Go.RowKit
variable {s:ByteArray} {a e:Ex} {vs:List Vr} {H:Hp} {b:Nat} {c d:Int} (G:Nat->AV )
theorem Y2 (h:FD s=true):s.size<=16:=by
 unfold FD at h;have:=(Bool.and_eq_true_iff.1 (Bool.and_eq_true_iff.1 h).1).2;simpa using this
theorem tT (s:ByteArray):s.size=s.data.toList.length:=(Array.length_toList).symm
theorem AL7 (h:(LM s).isSome=true):s.size<=19:=by
 unfold LM at h;split at h
 .rename_i h4
  split at h
  .split at h
   .rename_i hc
    have hn:=(Bool.and_eq_true_iff.1 hc).2;have:=Y2 hn
    rw[tT] at this|-
    simp at this
    simp at h4|-
    omega
   .cases h
  .cases h
 .cases h
theorem ANL (h:IJ s=true):s.size<=19:=by
 unfold IJ at h;rcases Bool.or_eq_true_iff.1 h with q|q
 .exact AL7 q
 .have:=Y2 q; omega
theorem AA5 (h:OW s=true):s.size=0:=by
 unfold OW at h;have:=str_eq h;rw[this]; rfl
theorem rO (h:IA e=0):e.name.size<=19:=by
 unfold IA at h;have hO:badO e=false:=by grind
 have hN:bE e=false:=by grind
 have hS:VG e=false:=by grind
 have hV:VF e=false:=by simp_all
 unfold VG at hS;rw[wC] at hS;have h1:=hS.1;unfold VF at hV;rw[wC] at hV;obtain⟨v1,v2⟩:=hV;cases hn:OW e.name
 .rw[hn] at h1
  have h1:L6 e.op=true:=BN h1;unfold L6 at h1;simp only[Bool.or_eq_true,beq_iff_eq] at h1;rcases h1 with (q|q)|q
  .rw[q] at v1
   exact ANL (BN v1)
  .rw[q] at v2
   have:=Y2 (s:=e.name) (BN v2);omega
  .rw[q] at v2
   have:=Y2 (s:=e.name) (BN v2);omega
 .rw[AA5 hn]; omega
theorem AXM (B:Nat)(e:Ex):(∀x∈pre e,x.name.size<=B)->wt e<=(pre e).length*(B+1):=by
 induction e using Ex.induct with|h e ih=>?_
 intro h
 have hl:∀xs:List Ex,(∀a∈xs,wt a<=(pre a).length*(B+1))->wts xs<=(GH xs).length*(B+1):=by
  intro xs
  induction xs with
  | nil=>intro _; simp [wts]
  | cons x xs ihx =>
    intro hx;have h1:=hx x BA;have h2:=ihx fun a ha=>hx a (by simp [ha])
    simp only[wts,GH,zA,qE]; omega
 have h1:=hl e.args fun a ha=>ih a ha fun x hx=>h x (by rw[pre_eq]; exact List.mem_cons_of_mem _ (YY ha x hx))
 have h2:=h e (by rw[pre_eq]; simp);rw[LX,pre_eq,zO,qE]; omega
theorem AVV (h0:exE e=0):(pre e).length<=400:=by
 unfold exE at h0;split at h0
 .cases h0
 .simp_all
theorem mV (h:exE e=0):wt e<=8000:=by
 have h1:=AXM 19 e fun x hx=>rO (fA h x hx)
 have h2:=AVV h;omega
theorem AL0 {xs:List Ex}(h:∀x∈xs,IA x=0):errs xs=0:=by
 induction xs with
 | nil=>rfl
 | cons y ys ih =>
   show ys.foldl (fun z e=>if z=0 then IA e else z) (IA y)=0;rw[h y BA];exact ih fun x hx=>h x (by simp [hx])
def Gd (vs:List Vr)(x:Ex):Prop:=IA x=0∧WP x=false∧WO vs x=false
theorem AX7 (h:∀x∈pre e,Gd vs x)(hd:dep e<=24)(hl:(pre e).length<=400):xpE vs e=0:=by
 have h1:exE e=0:=by
  unfold exE;rw[AL0 fun x hx=>(h x hx).1,if_neg U]
 have h2:AGD e=false:=qU.2 fun x hx=>by rw[(h x hx).2.1]; simp
 have h3:ABX vs e=false:=qU.2 fun x hx=>by rw[(h x hx).2.2]; simp
 unfold xpE;rw[if_neg (by rw[h1]; simp)];unfold plE;rw[h2,h3]; rfl
theorem uQ:OW (⟨#[]⟩:ByteArray)=true:=by unfold OW; exact beq_self_eq_true _
theorem AQE {n:Int}(h:0<=n∧n<=65535):∀x∈pre (cE n),Gd vs x:=by
 intro x hx;have e:x=cE n:=by simpa [cE,pre,GH] using hx
 subst e;refine⟨?_,rfl,rfl⟩
 have b:bE (cE n)=false:=by
  have:bE (cE n)=((true&&(decide (n<0)||decide (n>65535)))||(false && !(n==0))):=rfl;rw[this];simp; omega
 have b2:VG (cE n)=false:=by
  have:VG (cE n)=((!L6 1 && !OW (⟨#[]⟩:ByteArray)) || !V6 1 0):=rfl;rw[this,uQ]; rfl
 unfold IA;rw[b,b2]; rfl
theorem AH9 {n:ByteArray}(h:IJ n=true)(hp:0<=plc vs n):∀x∈pre (JW n),Gd vs x:=by
 intro x hx;have e:x=JW n:=by simpa [JW,pre,GH] using hx
 subst e;refine⟨?_,rfl,?_⟩
 .have b:VF (JW n)=false:=by
   have:VF (JW n)=((true && !IJ n)||((false||false) && !FD n)):=rfl;rw[this,h]; rfl
  unfold IA;rw[b]; rfl
 .have:WO vs (JW n)=(true&&decide (plc vs n<0)):=rfl
  rw[this]; simp; omega
theorem rT {x:Ex}{xs:List Ex}(h:x∈GH xs):∃a∈xs,x∈pre a:=mem_pres.1 h
theorem AIB {l:List Rng}(he:∀x∈pre e,Gd vs x)(h0:l≠[])(h16:l.length<=16)(hl:∀r∈l,0<=r.lo∧r.lo<=65535∧0<=r.hi∧r.hi<=65535):∀x∈pre (IE e l),Gd vs x:=by
 intro x hx;rw[TZ,pre_eq] at hx;rcases zM.1 hx with rfl|hx
 .have hlen:(insL e l).length=1+2*l.length:=by unfold insL; rw[zO,kD]; omega
  have hp:0<l.length:=qV.2 h0;refine⟨?_,rfl,rfl⟩
  have b:VG (.mk 23 0 ⟨#[]⟩ .any (insL e l))=false:=by
   have:VG (.mk 23 0 ⟨#[]⟩ .any (insL e l))=((!L6 23 && !OW (⟨#[]⟩:ByteArray)) || !V6 23 (insL e l).length):=rfl;rw[this,hlen,uQ];unfold V6;simp;omega
  unfold IA;rw[b]; rfl
 .obtain⟨a,ha,hxa⟩:=rT hx
  have ha:a∈insL e l:=ha;unfold insL at ha;rcases zM.1 ha with rfl|ha
  .exact he x hxa
  .unfold cEs at ha
   obtain⟨r,hr,hm⟩:=List.mem_flatMap.1 ha;have:=hl r hr;simp only[zM,List.not_mem_nil,or_false] at hm;rcases hm with rfl|rfl
   .exact AQE U x hxa
   .exact AQE U x hxa
theorem A0F {b:Ex}(ha:∀x∈pre a,Gd vs x)(hb:∀x∈pre b,Gd vs x):∀x∈pre (orE a b),Gd vs x:=by
 intro x hx;unfold orE at hx;rw[pre_eq] at hx;rcases zM.1 hx with rfl|hx
 .refine⟨?_,rfl,rfl⟩
  have b2:VG (.mk 20 0 ⟨#[]⟩ .full [a,b])=false:=by
   have:VG (.mk 20 0 ⟨#[]⟩ .full [a,b])=((!L6 20 && !OW (⟨#[]⟩:ByteArray)) || !V6 20 2):=rfl;rw[this,uQ]; rfl
  unfold IA;rw[b2]; rfl
 .obtain⟨c,hc,hxc⟩:=rT hx
  have hc:c∈[a,b]:=hc;simp only[zM,List.not_mem_nil,or_false] at hc;rcases hc with rfl|rfl
  .exact ha x hxc
  .exact hb x hxc
theorem lH:∀l:List Rng,(GH (cEs l)).length=2*l.length
 | []=>rfl
 | r::l=>by
   rw[YF];have:=lH l;simp only[GH,zA,this,zO];simp [cE,pre,GH]; omega
theorem nG:∀l:List Rng,deps (cEs l)<=1
 | []=>qF _
 | r::l=>by
   rw[YF];have:=nG l;simp only[deps];simp [cE,dep,deps]; omega
theorem ABF (n:ByteArray)(R:List Rng):∀k,(pre (NW (JW n) R k)).length<=35*(k+1)∧dep (NW (JW n) R k)<=k+2
 | 0=>by
   have hp:=QX R 0;show(pre (IE (JW n) (Ho.part R 0))).length<=_∧dep (IE (JW n) (Ho.part R 0))<=_;rw[TZ,pre_eq,WF];show(_::GH (insL (JW n) (Ho.part R 0))).length<=_∧deps (insL (JW n) (Ho.part R 0))+1<=_;have h1:=lH (Ho.part R 0);have h2:=nG (Ho.part R 0);unfold insL;simp only[GH,deps,zO,zA,h1];simp [JW,pre,GH,dep,deps]; omega
 | k+1=>by
   have ih:=ABF n R k;have hp:=QX R (k+1);have h1:=lH (Ho.part R (k+1));have h2:=nG (Ho.part R (k+1))
   have e1:(pre (IE (JW n) (Ho.part R (k+1)))).length<=34∧dep (IE (JW n) (Ho.part R (k+1)))<=2:=by
    rw[TZ,pre_eq,WF];show(_::GH (insL (JW n) (Ho.part R (k+1)))).length<=_∧deps (insL (JW n) (Ho.part R (k+1)))+1<=_;unfold insL;simp only[GH,deps,zO,zA,h1];simp [JW,pre,GH,dep,deps]; omega
   show(pre (orE (NW (JW n) R k) (IE (JW n) (Ho.part R (k+1))))).length<=_∧dep (orE (NW (JW n) R k) (IE (JW n) (Ho.part R (k+1))))<=_;unfold orE;rw[pre_eq,WF];show(_::GH [NW (JW n) R k,IE (JW n) (Ho.part R (k+1))]).length<=_∧deps [NW (JW n) R k,IE (JW n) (Ho.part R (k+1))]+1<=_;simp only[GH,deps,zO,zA,lAn];omega
theorem AIA {vs:List Vr}{n:ByteArray}(h:IJ n=true)(hp:0<=plc vs n){R:List Rng}(hR:∀r∈R,0<=r.lo∧r.lo<=65535∧0<=r.hi∧r.hi<=65535):∀k,16*k<R.length->∀x∈pre (NW (JW n) R k),Gd vs x
 | 0,hk=>by
   show ∀x∈pre (IE (JW n) (Ho.part R 0)),_;refine AIB (AH9 h hp) ?_ (QX R 0) fun r hr=>hR r ?_
   .unfold Ho.part; intro e
    have:=congrArg qK e;rw[jV,List.length_drop,zJ] at this; omega
   .unfold Ho.part at hr; exact List.mem_of_mem_drop (List.mem_of_mem_take hr)
 | k+1,hk=>by
   show ∀x∈pre (orE (NW (JW n) R k) (IE (JW n) (Ho.part R (k+1)))),_;refine A0F (AIA h hp hR k U) (AIB (AH9 h hp) ?_ (QX R (k+1)) fun r hr=>hR r ?_)
   .unfold Ho.part; intro e
    have:=congrArg qK e;rw[jV,List.length_drop,zJ] at this; omega
   .unfold Ho.part at hr; exact List.mem_of_mem_drop (List.mem_of_mem_take hr)
theorem AT9 {v:Vr}(h:v∈vs):0<=plc vs v.name:=by
 apply Classical.byContradiction;intro q;have:=eT (PN v.name) vs (by unfold plc at q; omega) v h;unfold PN at this;simp at this
theorem AZC {p:Pr}(hv:NI p=0):∀e∈XA p,xpE p.vars e=0:=by
 intro e he;have P:=PV.of hv;unfold XA at he;obtain⟨d,hd,rfl⟩:=List.mem_map.1 he;obtain⟨d1,d2⟩:=AI7 hv d hd;obtain⟨k,hk,hdk,hm⟩:=YX d1;obtain⟨n1,w1,w8,_⟩:=WZ (P.vr _ (jH hk))
 have hsup:yE p d=oN p.vars[k].name (runs d.ws (2^p.vars[k].width.toNat)):=by
  unfold yE;rw[hdk,Int.toNat_natCast,List.getElem?_eq_getElem hk]
 have hW:(2:Nat)^p.vars[k].width.toNat<=256:=by
  have:p.vars[k].width.toNat<=8:=U
  calc (2:Nat)^p.vars[k].width.toNat<=2^8:=Nat.pow_le_pow_right D5 this
   _=256:=rfl
 have hr:=AOO d.ws (2^p.vars[k].width.toNat);have hi:=AHF d.ws (2^p.vars[k].width.toNat);rw[hsup];generalize runs d.ws (2^p.vars[k].width.toNat)=R at hr hi;unfold oN;by_cases q:R=[]
 .rw[if_pos q]
  exact AX7 (AQE U) (by simp [cE,dep,deps]) (by simp [cE,pre,GH])
 .rw[if_neg q]
  have hp:0<R.length:=qV.2 q;have hk2:parts R-1<=2:=by unfold parts; omega
  obtain⟨l1,l2⟩:=ABF p.vars[k].name R (parts R-1);exact AX7 (AIA n1 (AT9 (jH hk)) (fun r hr=>by have:=hi r hr; omega) _ (by unfold parts; omega)) U U
theorem A1T (h:xpE vs e=0):wt e<=8000:=mV (ANA h).1
theorem A2D:∀(k:Nat),k<9->∀h:Hp,IX jA h 9 (.str AJK) (some (.n (k:Nat))) (some (.n ((k+1:Nat):Int))) none=some (.str (dgS k))
 | 0,_,h=>A8
 | 1,_,h=>A8
 | 2,_,h=>A8
 | 3,_,h=>A8
 | 4,_,h=>A8
 | 5,_,h=>A8
 | 6,_,h=>A8
 | 7,_,h=>A8
 | 8,_,h=>A8
 | n+9,q,_=>absurd q U
theorem yN (k:Nat)(hk:k<9)(h:Hp):PCall (En G) 396 [.n (k:Nat)] h (.str (dgS k)):=by
 refine acT Tryz.func396 2 ?_;have hd:decide (((k:Nat):Int)<10)=true:=by simp; omega
 have:=A2D k hk h;unfold AJK at this;refine DT hd (DF k) @this ?_;exact JH
theorem AGS (k:Nat)(hk:k<9)(h:Hp):PCall (En G) 288 [.n (k:Nat)] h (.str (dgS k)):=by
 have h1:PCall (En G) 358 [.n (k:Nat),.n 10] h (.str (dgS k)):=by
  refine acT Tryz.func358 4 ?_;have d1:((10:Int)==10)=true:=rfl;have d2:decide ((0:Int)<=((k:Nat):Int))=true:=BA;have d3:decide (((k:Nat):Int)<100)=true:=by simp; omega
  refine DT d1 d2 d3 ?_;refine(yN G k hk h).uu ?_;exact JH
 have h2:PCall (En G) 324 [.n (k:Nat)] h (.str (dgS k)):=by
  refine acT Tryz.func324 2 ?_;refine AO ?_;refine h1.uu ?_;exact JH
 refine acT Tryz.func288 2 ?_;refine AO ?_;refine h2.uu ?_;exact JH
theorem nC (a:ByteArray)(k:Nat)(hk:k<9)(h:Hp)(ha:a.size<=1048576):PCall (En G) 233 [.str a,.n (k:Nat)] h (.str (elN a k)):=by
 refine acT Tryz.func233 4 ?_;obtain⟨b1,b2,b3⟩:=A4T a k ha;refine BC b1 ?_;refine(AGS G k hk h).use ?_;refine BB b2 b3 ?_;exact JH
theorem AO7 (a:ByteArray):IJ (elN a 8)=false:=by
 have hl:=YB a 8;unfold IJ
 have h1:LM (elN a 8)=none:=by
  unfold LM;rw[hl];have e:(a.data.toList++[91,UInt8.ofNat (48+8),93]).length-3=a.data.toList.length:=BA;rw[e,List.drop_left];split
  .simp_all
  .rfl
 have h2:FD (elN a 8)=false:=by
  cases hn:FD (elN a 8)
  .rfl
  .have e:elN a 8=⟨(elN a 8).data.toList.toArray⟩:=BA
   rw[e] at hn;have:=(cS hn).2 91 (by rw[hl]; simp);exact absurd rfl this
 rw[h1,h2]; rfl
theorem AT8 (hv:∀v∈vs,IJ v.name=true)(a:ByteArray):plc vs (elN a 8)<0:=by
 apply Classical.byContradiction;intro q;obtain⟨k,hk,_,h1,_⟩:=XZ (PN (elN a 8)) vs (by unfold plc at q; omega);have:=str_eq h1;have h2:=hv _ (jH hk);rw[this,AO7] at h2; cases h2
def szF (vs:List Vr)(a:ByteArray):Nat->Nat->Nat
 | 0,n=>n
 | f+1,n=>if plc vs (elN a n)<0 then n else szF vs a f (n+1)
def szA (vs:List Vr)(a:ByteArray):Nat:=szF vs a 8 0
theorem ANT (vs:List Vr)(a:ByteArray):∀f n,n<=szF vs a f n∧szF vs a f n<=n+f
 | 0,n=>⟨jF _,jF _⟩
 | f+1,n=>by
   unfold szF;split
   .omega
   .have:=ANT vs a f (n+1); omega
theorem tU (vs:List Vr)(a:ByteArray):szA vs a<=8:=by have:=(ANT vs a 8 0).2; unfold szA; omega
theorem ANU (vs:List Vr)(a:ByteArray):∀f n k,n<=k->k<szF vs a f n->0<=plc vs (elN a k)
 | 0,n,k,h1,h2=>by unfold szF at h2; omega
 | f+1,n,k,h1,h2=>by
   unfold szF at h2;split at h2
   .omega
   .rename_i q
    by_cases e:n=k
    .subst e; omega
    .exact ANU vs a f (n+1) k U h2
theorem AD9 {a:ByteArray}{k:Nat}(h:k<szA vs a):0<=plc vs (elN a k):=ANU vs a 8 0 k (qF _) h
theorem yD {a:ByteArray}{f n:Nat}:(plc vs (elN a n)<0->szF vs a (f+1) n=n)∧(¬plc vs (elN a n)<0->szF vs a (f+1) n=szF vs a f (n+1)):=by
 constructor<;>intro h<;>(conv=>lhs; unfold szF)
 .rw[if_pos h]
 .rw[if_neg h]
section
variable (G:Nat->AV)
theorem size_prog (vs:List Vr)(m:SM)(hl:vs.length<=1048576)(hv:∀v∈vs,IJ v.name=true)(a:ByteArray)(ha:a.size<=1048576)(h:Hp):PCall (En G) 252 [.agg [.sl m 4 (vs.map encV)],.str a] h (.n (szA vs a:Nat)):=by
 refine ACalls.pure0 rfl ?_;refine acT Tryz.func252 4 ?_;have gs:=A7 h (zZ 1 [[.sl m 4 (vs.map encV)]]);have hx:=Sm.ext.r1 h (zZ 1 [[.sl m 4 (vs.map encV)]]);have bx:MI h (.agg [.sl m 4 (vs.map encV)])=some (.ptr h.length 0 0,h++[zZ 1 [[.sl m 4 (vs.map encV)]]]):=rfl;refine BC bx ?_
 generalize h++[zZ 1 [[.sl m 4 (vs.map encV)]]]=H0 at gs hx|-
 have l0:BU jA H0 22 (.ptr h.length 0 0)=some (.sl m 4 (vs.map encV)):=by rw[BL bI gs rfl]; rfl
 refine BI (fun k F H=>∃n,k+n=8∧szF vs a k n=szA vs a∧F 1=.str a∧F 2=.ptr h.length 0 0∧F 5=.n (n:Nat)∧H=H0) 8
  ⟨0,rfl,rfl,AQ,AQ,AQ,rfl⟩ ?_
 rintro k F H ⟨n,hn,hs,f1,f2,f5,rfl⟩
 try refine AO ?_
 refine DV A8 ?_;refine I7 @AIR f1 f2 f5 l0 ?_;refine⟨_,nC G a n U H ha,_,index_prog G vs m (elN a n) H U,?_⟩;refine AO ?_;refine CE ?_ ?_<;>intro hc
 .have hc:¬plc vs (elN a n)<0:=BN hc
  obtain⟨j,rfl⟩:∃j,k=j+1:=⟨k-1,by
   have:k≠0:=fun e=>hc (by have:n=8:=U
                           rw[this]; exact AT8 hv a)
   omega⟩
  rw[yD.2 hc] at hs;refine BB f5 (DF n) ?_;exact⟨j,U,n+1,U,hs,AZ,AZ,AZ,AZ⟩
 .have hc:plc vs (elN a n)<0:=by
   have:=of_decide_eq_false hc;omega
  have e:szA vs a=n:=by
   rw[<-hs]
   cases k with
   | zero=>rfl
   | succ k=>exact yD.1 hc
  refine BC f5 ?_;exact⟨by rw[e],hx⟩
end
theorem node_ops (h:IA e=0):V6 e.op e.args.length=true:=by
 unfold IA at h;have hO:badO e=false:=by grind
 have hN:bE e=false:=by grind
 have hS:VG e=false:=by grind
 unfold VG at hS;rw[wC] at hS;simpa using hS.2
theorem dX (h:IA e=0)(ho:e.op=1∨e.op=2∨e.op=24):e.args=[]:=by
 have h1:=node_ops h;unfold V6 at h1;rw[if_neg (by rcases ho with q|q|q<;>rw[q]<;>decide)] at h1
 have ha:arity e.op=0:=by rcases ho with q|q|q<;>rw[q]<;>rfl
 rw[ha] at h1;exact List.eq_nil_of_length_eq_zero (BN h1)
theorem VI (h:IA e=0)(ho:e.op=3):∃a,e.args=[a]:=by
 have h1:=node_ops h;unfold V6 at h1;rw[if_neg (by rw[ho]; decide)] at h1;have ha:arity e.op=1:=by rw[ho]; rfl
 rw[ha] at h1;have h2:((e.args.length:Nat):Int)=1:=BN h1;have h2:e.args.length=1:=U
 match hq:e.args,h2 with
 | [a],_=>exact⟨a,rfl⟩
theorem AZZ (h:IA e=0)(ho:e.op=1):0<=e.n∧e.n<=65535:=by
 unfold IA at h;have hO:badO e=false:=by grind
 have hN:bE e=false:=by grind
 unfold bE at hN;rw[ho] at hN;simp at hN;omega
def RU (vs:List Vr)(e:Ex):Bool:=(e.op==2&&decide (plc vs e.name<0))||((e.op==3||e.op==24)&&(szA vs e.name==0))
def QB (vs:List Vr)(e:Ex):Bool:=(pre e).any (RU vs)
theorem VX (vs:List Vr)(e:Ex):QB vs e=(RU vs e||e.args.any (QB vs)):=by
 unfold QB;rw[pre_eq,List.any_cons];congr 1
 have:∀xs:List Ex,(GH xs).any (RU vs)=xs.any fun e=>(pre e).any (RU vs):=by
  intro xs
  induction xs with
  | nil=>rfl
  | cons x xs ih=>simp only[GH,List.any_append,List.any_cons,ih]
 exact this e.args
def NdOk (e:Ex):Prop:=∀x∈pre e,IA x=0
theorem NdOk.arg (h:NdOk e)(ha:a∈e.args):NdOk a:=fun x hx=>h x (by rw[pre_eq]; exact List.mem_cons_of_mem _ (YY ha x hx))
theorem NdOk.self (h:NdOk e):IA e=0:=h e (by rw[pre_eq]; simp)
theorem NdOk.name {e:Ex}(h:NdOk e):e.name.size<=19:=rO h.self
theorem NdOk.of (h:exE e=0):NdOk e:=fA h
theorem NdOk.len (h:NdOk e):e.args.length<=33:=by
 have h1:=node_ops h.self;unfold V6 at h1;split at h1
 .simp at h1; omega
 .have:arity e.op<=3:=by
   unfold arity
   repeat' split
   all_goals omega
  have:((e.args.length:Nat):Int)=arity e.op:=BN h1;omega
abbrev isS (H:Hp)(b:Nat)(m:SM)(vs:List Vr):Prop:=H[b]?=some (zZ 1 [[.sl m 4 (vs.map encV)]])
theorem isS.ld {H:Hp}{b:Nat}{m:SM}{vs:List Vr}(h:isS H b m vs):BU jA H 233 (.ptr b 0 0)=some (.agg [.sl m 4 (vs.map encV)]):=by
 rw[EH A5M AXT h rfl (jF 1)]; rfl
theorem isS.l {m:SM}(h:isS H b m vs):BU jA H 22 (.ptr b 0 0)=some (.sl m 4 (vs.map encV)):=by rw[BL bI h rfl]; rfl
theorem bxS (h:Hp)(m:SM)(vs:List Vr):MI h (.agg [.sl m 4 (vs.map encV)])=some (.ptr h.length 0 0,h++[zZ 1 [[.sl m 4 (vs.map encV)]]]):=rfl
section
variable {H:Hp} {b:Nat} {e:Ex}
theorem ALZ (h:H[b]?=some (zZ 4 [AU e])):BU jA H 3 (.ptr b 0 0)=some (.n e.op):=by rw[BL ag3 h (row:=AU e) rfl,KL]
theorem exN (h:H[b]?=some (zZ 4 [AU e])):BU jA H 3 (.ptr b 0 1)=some (.n e.n):=by rw[BL ag3 h (row:=AU e) rfl,dN]
theorem aY (h:H[b]?=some (zZ 4 [AU e])):BU jA H 9 (.ptr b 0 2)=some (.str e.name):=by rw[BL ag9 h (row:=AU e) rfl,RV]
theorem UR (h:H[b]?=some (zZ 4 [AU e])):BU jA H 23 (.ptr b 0 3)=some (.sl e.m 4 (e.args.map AU)):=by rw[BL MO h (row:=AU e) rfl,dM]
end
section
variable (G:Nat->AV)
theorem AP6 (xs:List Ex)(m:SM)(fid:FuncId)(caps:List AV)(p:Ex->Bool)(h:Hp)(hn:xs.length<=1099511627776)(hf:∀x∈xs,PCall (En G) fid ([.agg (AU x)]++caps) h (.bool (p x))):
  PCall (En G) 301 [.sl m 4 (xs.map AU),.fn (.func fid) [] caps] h (.n (NZ p xs)):=by
 refine acT Tryz.func301 4 ?_;refine AO ?_;refine BI (fun n F H=>∃k,n+k=xs.length∧(∀(j:Nat) (hj:j<k) (hl:j<xs.length),p xs[j]=false)∧F 0=.sl m 4 (xs.map AU)∧F 1=.fn (.func fid) [] caps∧F 7=.n (xs.length:Nat)∧F 8=.n (k:Nat)∧H=h) xs.length ⟨0,BA,fun j hj=>absurd hj U,AQ,AQ,AQ,AQ,rfl⟩ ?_;rintro n F H ⟨k,hk,hb,f0,f1,f7,f8,rfl⟩;refine BB f7 f8 ?_;refine CE ?_ ?_<;>intro hc
 .have hk':k<xs.length:=BN hc
  simp -implicitDefEqProofs only[vQ,CV,List.map_cons,List.map_nil,List.nil_append,List.cons_append,↓reduceIte,jB,enP,RN,f0,f1,f8,CQ hk',DR O5 JL EP hk'];refine(hf _ (jH hk')).uu ?_;refine CE ?_ ?_<;>intro hp
  .refine BC f8 ?_
   exact⟨by rw[TA p xs k hk' (fun j hj=>hb j hj U) hp],trivial⟩
  .refine BB f8 (DF k) ?_
   refine⟨n-1,U,k+1,U,fun j hj hl=>?_,AZ,AZ,AZ,rfl,trivial⟩;rcases Nat.lt_or_ge j k with h1|h1
   .exact hb j h1 hl
   .grind
 .refine AO ?_
  have hk':¬k<xs.length:=BN hc;exact⟨by rw[SL p xs fun j hj=>hb j U hj],trivial⟩
theorem AFJ (xs:List Ex)(m:SM)(fid:FuncId)(caps:List AV)(p:Ex->Bool)(h:Hp)(hn:xs.length<=1099511627776)(hf:∀x∈xs,PCall (En G) fid ([.agg (AU x)]++caps) h (.bool (p x))):
  PCall (En G) 253 [.sl m 4 (xs.map AU),.fn (.func fid) [] caps] h (.bool (xs.any p)):=by
 refine acT Tryz.func253 4 ?_;refine AO ?_;refine(AP6 G xs m fid caps p h hn hf).use ?_;refine BC @QZ ?_;exact JH
theorem A3U (vs:List Vr)(m:SM)(a:Ex)(c:Nat)(h:Hp)(hc:isS h c m vs)(r:Bool)(hf:∀H,PCall (En G) 175 [.agg [.sl m 4 (vs.map encV)],.agg (AU a)] H (.bool r)):PCall (En G) 254 ([.agg (AU a)]++[.ptr c 0 0]) h (.bool (!r)):=by
 refine ACalls.pure0 rfl ?_;refine acT Tryz.func254 3 ?_;have hc':isS (h++[zZ 4 [AU a]]) c m vs:=AL hc;refine DT @bxE @hc'.ld @ldE ?_;refine(hf _).uu ?_;exact⟨AZ,_,rfl⟩
theorem APT (vs:List Vr)(m:SM)(hl:vs.length<=1048576)(hv:∀v∈vs,IJ v.name=true)(e:Ex):NdOk e->∀h:Hp,PCall (En G) 175 [.agg [.sl m 4 (vs.map encV)],.agg (AU e)] h (.bool (!QB vs e)):=by
 induction e using Ex.induct with|h e ih=>?_
 intro hn h;have hnm:=hn.name;have hal:=hn.len;refine ACalls.pure0 rfl ?_;refine acT Tryz.func175 4 ?_;have gs:isS (h++[zZ 1 [[.sl m 4 (vs.map encV)]]]++[zZ 4 [AU e]]) h.length m vs:=AL (A7 _ _);have ge:=A7 (h++[zZ 1 [[.sl m 4 (vs.map encV)]]]) (zZ 4 [AU e]);have hx:Sm.ext h (h++[zZ 1 [[.sl m 4 (vs.map encV)]]]++[zZ 4 [AU e]]):=((ext.rfl' h).app _).app _;refine BB @bxS @bxE ?_
 generalize h++[zZ 1 [[.sl m 4 (vs.map encV)]]]++[zZ 4 [AU e]]=H1 at gs ge hx|-
 generalize (h++[zZ 1 [[.sl m 4 (vs.map encV)]]]).length=eb at ge|-
 generalize h.length=sb at gs|-
 have last:RU vs e=false->QB vs e=e.args.any (QB vs):=fun q=>by rw[VX,q,Bool.false_or]
 have fin:∀x∈e.args,PCall (En G) 254 ([.agg (AU x)]++[.ptr sb 0 0]) H1 (.bool (QB vs x)):=fun x hx=>by
  have:=A3U G vs m x sb H1 gs (!QB vs x) (ih x hx (hn.arg hx))
  rwa [Bool.not_not] at this
 refine BC (ALZ ge) ?_;cases b2:(e.op==2)
 case true =>
  have ho:e.op=2:=BN b2;refine E8 @AIR b2 (isS.l gs) (aY ge) ?_;refine(index_prog G vs m e.name H1 U).uu ?_;refine⟨?_,hx⟩
  have:QB vs e=decide (plc vs e.name<0):=by
   rw[VX,dX hn.self (.inr (.inl ho))];unfold RU; rw[ho]; simp
  rw[this,<-decide_not];congr 1;rw[decide_eq_decide]; omega
 cases b24:(e.op==24)
 case true =>
  refine E8 b2 b24 (isS.ld gs) (aY ge) ?_;refine(size_prog G vs m hl hv e.name U H1).uu ?_;refine CE ?_ ?_<;>intro hc
  .refine AO ?_
   refine⟨?_,hx⟩;have hc:szA vs e.name=0:=BN hc;have:QB vs e=true:=by rw[VX]; unfold RU; rw[b24,hc]; simp
   rw[this]; rfl
  .have hc:¬szA vs e.name=0:=BN hc
   have hu:RU vs e=false:=by unfold RU; rw[b2,b24]; simp [hc]
   refine BC (UR ge) ?_;refine(AFJ G e.args e.m 254 [.ptr sb 0 0] (QB vs) H1 U fin).uu ?_;exact⟨by rw[last hu],hx⟩
 cases b3:(e.op==3)
 case true =>
  refine I7 b2 b24 b3 (isS.ld gs) (aY ge) ?_;refine(size_prog G vs m hl hv e.name U H1).uu ?_;refine CE ?_ ?_<;>intro hc
  .refine AO ?_
   refine⟨?_,hx⟩;have hc:szA vs e.name=0:=BN hc;have:QB vs e=true:=by rw[VX]; unfold RU; rw[b3,hc]; simp
   rw[this]; rfl
  .have hc:¬szA vs e.name=0:=BN hc
   have hu:RU vs e=false:=by unfold RU; rw[b2,b3]; simp [hc]
   refine BC (UR ge) ?_;refine(AFJ G e.args e.m 254 [.ptr sb 0 0] (QB vs) H1 U fin).uu ?_;exact⟨by rw[last hu],hx⟩
 have hu:RU vs e=false:=by unfold RU; rw[b2,b24,b3]; rfl
 refine E8 b2 b24 b3 (UR ge) ?_;refine(AFJ G e.args e.m 254 [.ptr sb 0 0] (QB vs) H1 U fin).uu ?_;exact⟨by rw[last hu],hx⟩
end
def cD (l:List (Nat×Int)):Nat:=l.foldl (fun s x=>min (s+x.1) 401) 1
def TY (l:List (Nat×Int)):Nat×Int:=l.getLast?.getD (0,-1)
def xtF (vs:List Vr)(op n:Int)(name:ByteArray)(l:List (Nat×Int)):Nat×Int :=
 if op=1 then (1,n) else if op=24 then (2*szA vs name-1,-1) else if op≠3 then (cD l,-1) else if(szA vs name:Int)<=(TY l).2 then (1,0) else if 0<=(TY l).2 then (1,-1) else (min (szA vs name*((TY l).1+4)+1) 401,-1)
mutual
def IU (vs:List Vr):Ex->Nat×Int
 | .mk op n name _ args=>xtF vs op n name (AB8 vs args)
def AB8 (vs:List Vr):List Ex->List (Nat×Int)
 | []=>[]
 | e::es=>IU vs e::AB8 vs es
end
theorem sN (vs:List Vr):∀l:List Ex,AB8 vs l=l.map (IU vs)
 | []=>by simp [AB8]
 | e::es=>by simp [AB8,sN vs es]
theorem UB (vs:List Vr)(e:Ex):IU vs e=xtF vs e.op e.n e.name (e.args.map (IU vs)):=by
 cases e; simp only[IU,sN]; rfl
theorem qT (l:List (Nat×Int))(x:Nat×Int):cD (l++[x])=min (cD l+x.1) 401:=by unfold cD; rw[List.foldl_append]; rfl
theorem AFB (l:List (Nat×Int))(x:Nat×Int):TY (l++[x])=x:=by unfold TY; simp
theorem AG7 (l:List (Nat×Int)):cD l<=401:=by
 rcases List.eq_nil_or_concat l with rfl|⟨l',x,rfl⟩
 .decide
 .rw[List.concat_eq_append,qT]; omega
theorem AI2 (vs:List Vr)(e:Ex):(IU vs e).1<=401:=by
 have:=tU vs e.name;have:=AG7 (e.args.map (IU vs));rw[UB];unfold xtF;split
 .show(1:Nat)<=401; omega
 split
 .omega
 split
 .assumption
 split
 .show(1:Nat)<=401; omega
 split
 .show(1:Nat)<=401; omega
 .show min _ 401<=401; omega
theorem AVT (h:0<=(IU vs e).2):(IU vs e).1=1:=by
 have hm:∀x:Nat,¬(0:Int)<=(x,(-1:Int)).2:=fun x=>by show ¬(0:Int)<=-1; decide
 rw[UB] at h|-
 unfold xtF at h|-
 by_cases c1:e.op=1
 .rw[if_pos c1]
 rw[if_neg c1] at h|-
 by_cases c2:e.op=24
 .simp_all
 rw[if_neg c2] at h|-
 by_cases c3:e.op≠3
 .simp_all
 rw[if_neg c3] at h|-
 by_cases c4:(szA vs e.name:Int)<=(TY (e.args.map (IU vs))).2
 .rw[if_pos c4]
 rw[if_neg c4] at h|-
 by_cases c5:0<=(TY (e.args.map (IU vs))).2
 .rw[if_pos c5]
 rw[if_neg c5] at h;exact absurd h (hm _)
def exR (x:Nat×Int):List AV:=[.n (x.1:Nat),.n x.2]
theorem AYS (h:Hp):GM jA h 235=some (.ptr h.length 0 0,h++[zZ 2 [[.n 0,.n 0]]]):=FV (row:=[.n 0,.n 0]) A8
theorem nT (a b:Int):G7 jA 235 [(0,.n a),(1,.n b)]=some (.agg [.n a,.n b]):=A8
theorem gG (hb:H[b]?=some (zZ 2 [[.n c,.n d]]))(x y:Int):DW jA H 235 (.ptr b 0 0) (.agg [.n x,.n y])=some (H.set b (zZ 2 [[.n x,.n y]])):=by
 rw[I9 (cs:=[.n x,.n y]) rfl AXS hb (jF 2)]; rfl
theorem rX (hb:H[b]?=some (zZ 2 [[.n c,.n d]])):BU jA H 235 (.ptr b 0 0)=some (.agg [.n c,.n d]):=by
 rw[EH A5L AXS hb rfl (jF 2)]; rfl
theorem AH4 (hb:H[b]?=some (zZ 2 [[.n c,.n d]])):BU jA H 3 (.ptr b 0 0)=some (.n c):=by rw[BL ag3 hb rfl]; rfl
theorem AUW (hb:H[b]?=some (zZ 2 [[.n c,.n d]])):BU jA H 3 (.ptr b 0 1)=some (.n d):=by rw[BL ag3 hb rfl]; rfl
theorem QM (h:QB vs e=false)(ha:a∈e.args):QB vs a=false:=by
 rw[VX,wC] at h;have:=qU.1 h.2 a ha;simpa using this
theorem VW (h:QB vs e=false)(ho:e.op=3∨e.op=24):1<=szA vs e.name:=by
 rw[VX,wC] at h;have h1:=h.1;unfold RU at h1;rcases ho with q|q<;>rw[q] at h1<;>simp at h1<;>omega
section
variable (G:Nat->AV)
theorem ALY (vs:List Vr)(m:SM)(hl:vs.length<=1048576)(hv:∀v∈vs,IJ v.name=true)(e:Ex):NdOk e->QB vs e=false->∀h:Hp,PCall (En G) 176 [.agg [.sl m 4 (vs.map encV)],.agg (AU e)] h (.agg (exR (IU vs e))):=by
 induction e using Ex.induct with|h e ih=>?_
 intro hn hu h;have hnm:=hn.name;have hal:=hn.len;have hsz:=tU vs e.name;refine ACalls.pure (R:=fun v H=>v=.agg (exR (IU vs e))∧Sm.ext h H) 2 ?_ (fun v H ⟨a,b⟩=>⟨b,by rw[a]; rfl⟩);refine acL Tryz.func176 [.cell 4 235] ?_;have gs:isS (h++[zZ 1 [[.sl m 4 (vs.map encV)]]]++[zZ 4 [AU e]]++[zZ 2 [[.n 0,.n 0]]]) h.length m vs:=AL (AL (A7 _ _));have ge:=AL (x:=zZ 2 [[.n 0,.n 0]]) (A7 (h++[zZ 1 [[.sl m 4 (vs.map encV)]]]) (zZ 4 [AU e]));have gr:=A7 (h++[zZ 1 [[.sl m 4 (vs.map encV)]]]++[zZ 4 [AU e]]) (zZ 2 [[.n 0,.n 0]]);have hx:Sm.ext h (h++[zZ 1 [[.sl m 4 (vs.map encV)]]]++[zZ 4 [AU e]]++[zZ 2 [[.n 0,.n 0]]]):=(((ext.rfl' h).app _).app _).app _;have e1:(h++[zZ 1 [[.sl m 4 (vs.map encV)]]]).length=h.length+1:=BA;have e2:(h++[zZ 1 [[.sl m 4 (vs.map encV)]]]++[zZ 4 [AU e]]).length=h.length+2:=BA;refine DT @bxS @bxE AYS ?_
 rw[e1] at ge|-
 rw[e2] at gr|-
 generalize h++[zZ 1 [[.sl m 4 (vs.map encV)]]]++[zZ 4 [AU e]]++[zZ 2 [[.n 0,.n 0]]]=H1 at gs ge gr hx|-
 clear e1 e2;refine BC (ALZ ge) ?_;cases b1:(e.op==1)
 case true =>
  have ho:e.op=1:=BN b1;refine E8 b1 (exN ge) nT (gG gr) ?_;rw[JO (b:=h.length+2) AQ (rX (CP gr))];exact⟨by rw[UB]; unfold xtF; rw[if_pos ho]; rfl,hx.set U _⟩
 have o1:¬e.op=1:=BN b1;cases b24:(e.op==24)
 case true =>
  have ho:e.op=24:=BN b24;have h1:=VW hu (.inr ho);have w1:IntKind.i64.wrap (2*((szA vs e.name:Nat):Int))=2*((szA vs e.name:Nat):Int):=wrap_i64 U U;have w2:IntKind.i64.wrap (2*((szA vs e.name:Nat):Int)-1)=((2*szA vs e.name-1:Nat):Int):=by rw[wrap_i64 U U]; omega
  refine E8 b1 b24 (isS.ld gs) (aY ge) ?_;refine(size_prog G vs m hl hv e.name U H1).use ?_;refine E8 w1 w2 nT (gG gr) ?_;rw[JO (b:=h.length+2) AQ (rX (CP gr))];exact⟨by rw[UB]; unfold xtF; rw[if_neg o1,if_pos ho]; rfl,hx.set U _⟩
 have o24:¬e.op=24:=BN b24;have gs:=AL (x:=zZ 2 [[.n 0,.n (-1)]]) gs;have ge:=AL (x:=zZ 2 [[.n 0,.n (-1)]]) ge;have lr:=AC gr;have gr:=AL (x:=zZ 2 [[.n 0,.n (-1)]]) gr;have gl:=A7 H1 (zZ 2 [[.n 0,.n (-1)]]);have hx:=hx.app [zZ 2 [[.n 0,.n (-1)]]];have sl235:DW jA (H1++[zZ 2 [[.n 0,.n 0]]]) 235 (.ptr H1.length 0 0) (.agg [.n 0,.n (-1)])=some (H1++[zZ 2 [[.n 0,.n (-1)]]]):=by rw[gG (A7 _ _),KC]
 refine I7 b1 b24 nT AYS sl235 ?_
 generalize H1++[zZ 2 [[.n 0,.n (-1)]]]=H2 at gs ge gr gl hx|-
 generalize H1.length=lb at gl lr|-
 refine BC (UR ge) ?_;have hlen:(e.args.map (IU vs)).length=e.args.length:=List.length_map _;refine ET 1 (fun F H=>F 2=.ptr h.length 0 0∧F 3=.ptr (h.length+1) 0 0∧F 4=.ptr (h.length+2) 0 0∧F 5=.n (cD (e.args.map (IU vs)):Nat)∧F 6=.ptr lb 0 0∧isS H h.length m vs∧H[h.length+1]?=some (zZ 4 [AU e])∧H[h.length+2]?=some (zZ 2 [[.n 0,.n 0]])∧H[lb]?=some (zZ 2 [exR (TY (e.args.map (IU vs)))])∧Sm.ext h H) (fun _ _=>False) ?_ ?_ (fun _ _ q=>q.elim)
 .refine BI (fun n F H=>∃j,n+j=e.args.length∧F 2=.ptr h.length 0 0∧F 3=.ptr (h.length+1) 0 0∧F 4=.ptr (h.length+2) 0 0∧F 5=.n (cD ((e.args.map (IU vs)).take j):Nat)∧F 6=.ptr lb 0 0∧F 28=.sl e.m 4 (e.args.map AU)∧F 29=.n (e.args.length:Nat)∧F 30=.n (j:Nat)∧isS H h.length m vs∧H[h.length+1]?=some (zZ 4 [AU e])∧H[h.length+2]?=some (zZ 2 [[.n 0,.n 0]])∧H[lb]?=some (zZ 2 [exR (TY ((e.args.map (IU vs)).take j))])∧Sm.ext h H) e.args.length
   ⟨0,BA,AQ,AQ,AQ,AQ,AQ,AQ,AQ,AQ,gs,ge,gr,gl,hx⟩ ?_
  clear gs ge gr gl hx;rintro n F H ⟨j,hj,f2,f3,f4,f5,f6,f28,f29,f30,gs,ge,gr,gl,hx⟩;refine BB f29 f30 ?_;refine D8 ?_ ?_<;>intro hj'
  .have hmem:e.args[j]∈e.args:=jH hj'
   have gs:=AL (x:=zZ 4 [AU e.args[j]]) gs;have ge:=AL (x:=zZ 4 [AU e.args[j]]) ge;have gr:=AL (x:=zZ 4 [AU e.args[j]]) gr;have gl:=AL (x:=zZ 4 [AU e.args[j]]) gl;have hx:=hx.app [zZ 4 [AU e.args[j]]];have ga:=A7 H (zZ 4 [AU e.args[j]]);simp -implicitDefEqProofs only[vQ,CV,↓reduceIte,jB,enP,RN,Option.getD_none,f28,f30,CQ hj',DR O5 JL EP hj',al79,st79]
   generalize H++[zZ 4 [AU e.args[j]]]=H3 at gs ge gr gl hx ga|-
   generalize H.length=ab at ga|-
   refine E8 f2 f6 (isS.ld gs) (JI ga) ?_;refine(ih e.args[j] hmem (hn.arg hmem) (QM hu hmem) H3).use ?_;have hj2:j<(e.args.map (IU vs)).length:=U;have hget:(e.args.map (IU vs))[j]=IU vs e.args[j]:=BA;have ss:DW jA H3 235 (.ptr lb 0 0) (.agg (exR (IU vs e.args[j])))=some (H3.set lb (zZ 2 [exR (IU vs e.args[j])])):=gG gl _ _;have gs':isS (H3.set lb (zZ 2 [exR (IU vs e.args[j])])) h.length m vs:=by grind
   have ge':(H3.set lb (zZ 2 [exR (IU vs e.args[j])]))[h.length+1]?=some (zZ 4 [AU e]):=by grind
   have gr':(H3.set lb (zZ 2 [exR (IU vs e.args[j])]))[h.length+2]?=some (zZ 2 [[.n 0,.n 0]]):=by grind
   have gl':(H3.set lb (zZ 2 [exR (IU vs e.args[j])]))[lb]?=some (zZ 2 [exR (IU vs e.args[j])]):=CP gl;have hx':=hx.set (b:=lb) U (zZ 2 [exR (IU vs e.args[j])]);refine DT @AIQ f6 ss ?_
   generalize H3.set lb (zZ 2 [exR (IU vs e.args[j])])=H4 at gs' ge' gr' gl' hx'|-
   have s1:=AG7 ((e.args.map (IU vs)).take j);have s2:=AI2 vs e.args[j];have w1:IntKind.i64.wrap (((cD ((e.args.map (IU vs)).take j):Nat):Int)+(((IU vs e.args[j]).1:Nat):Int))=((cD ((e.args.map (IU vs)).take j)+(IU vs e.args[j]).1:Nat):Int):=by rw[wrap_i64 U U]; omega
   have mn:min (((cD ((e.args.map (IU vs)).take j)+(IU vs e.args[j]).1:Nat):Int)) 401=((cD ((e.args.map (IU vs)).take (j+1)):Nat):Int):=by
    rw[jY hj2,qT,hget]; omega
   refine P7 f5 f6 f30 (AH4 gl') w1 mn (DF j) ?_;refine⟨n-1,U,j+1,U,AZ,AZ,AZ,AZ,AZ,AZ,AZ,AZ,gs',ge',gr',?_,hx'⟩;rw[jY hj2,AFB,hget]; exact gl'
  .rw[List.take_of_length_le U] at f5 gl
   refine AO ?_;exact⟨AZ,AZ,AZ,AZ,AZ,gs,ge,gr,gl,hx⟩
 clear gs ge gr gl hx;rintro F H ⟨f2,f3,f4,f5,f6,gs,ge,gr,gl,hx⟩;have hext:=UB vs e;unfold xtF at hext;rw[if_neg o1,if_neg o24] at hext;refine E8 f2 f3 (isS.ld gs) (aY ge) ?_;refine(size_prog G vs m hl hv e.name U H).use ?_;refine BB f3 (ALZ ge) ?_;cases b3:(e.op != 3)
 case true =>
  have ho:e.op≠3:=BN b3;refine I7 b3 f4 f5 nT (gG gr) ?_;rw[JO (b:=h.length+2) (EM f4) (rX (CP gr))];exact⟨by rw[hext,if_pos ho]; rfl,hx.set U _⟩
 have o3:e.op=3:=BN b3;rw[if_neg (fun q=>q o3)] at hext;have hz:=VW hu (.inl o3);obtain⟨a,hargs⟩:=VI hn.self o3;have hle:(TY (e.args.map (IU vs))).1<=401:=by rw[hargs]; exact AI2 vs a
 generalize TY (e.args.map (IU vs))=x at gl hext hle;have g0:=AH4 gl;have g1:=AUW gl;refine E8 @AIP b3 f6 g1 ?_;cases c1:decide (x.2≥((szA vs e.name:Nat):Int))
 case true =>
  have q:=of_decide_eq_true c1;refine E8 c1 f4 nT (gG gr) ?_;rw[JO (b:=h.length+2) (EM f4) (rX (CP gr))];exact⟨by rw[hext,if_pos q]; rfl,hx.set U _⟩
 have q:=of_decide_eq_false c1;rw[if_neg q] at hext;refine E8 @AIP c1 f6 g1 ?_;cases c2:decide (x.2≥(0:Int))
 case true =>
  have q:=of_decide_eq_true c2;refine E8 c2 f4 nT (gG gr) ?_;rw[JO (b:=h.length+2) (EM f4) (rX (CP gr))];exact⟨by rw[hext,if_pos q]; rfl,hx.set U _⟩
 have q2:=of_decide_eq_false c2;rw[if_neg q2] at hext;have w1:IntKind.i64.wrap (((x.1:Nat):Int)+4)=((x.1+4:Nat):Int):=by rw[wrap_i64 U U]; omega
 have hm8:szA vs e.name*(x.1+4)<=8*405:=Nat.mul_le_mul hsz U;have w2:IntKind.i64.wrap (((szA vs e.name:Nat):Int)*((x.1+4:Nat):Int))=((szA vs e.name*(x.1+4):Nat):Int):=by rw[<-Int.natCast_mul,wrap_i64 U U]
 have w3:IntKind.i64.wrap (((szA vs e.name*(x.1+4):Nat):Int)+1)=((szA vs e.name*(x.1+4)+1:Nat):Int):=by rw[wrap_i64 U U]; omega
 have mn:min (((szA vs e.name*(x.1+4)+1:Nat):Int)) 401=((min (szA vs e.name*(x.1+4)+1) 401:Nat):Int):=U;refine bS @AIQ c2 f4 f6 g0 w1 w2 w3 mn nT (gG gr) ?_;rw[JO (b:=h.length+2) (EM f4) (rX (CP gr))];exact⟨by rw[hext]; rfl,hx.set U _⟩
end
end Go.Proofs.YtiihpnicbekebaaGreatDoor.Bd.Cl
namespace Go.Proofs.YtiihpnicbekebaaGreatDoor.Ho
open Sm Bins Cov Go.RowKit
variable {m:Mo} {x:Hl} {ins:Ex->List Rng->Ex}
def RY (m:Mo)(x:Hl):List (Nat×Nat):=((ZM m x).map Int.toNat).zip (x.bins.map Int.toNat)
theorem AHQ (l:List Int)(h:∀z∈l,0<=z):(l.map Int.toNat).map (fun n:Nat=>(n:Int))=l:=by
 rw[qM]
 conv=>rhs; rw[<-List.map_id l]
 exact List.map_congr_left fun z hz=>by have:=h z hz; show((z.toNat:Nat):Int)=z; omega
theorem lD (hv:LW m x=true):Prt m x (RY m x):=by
 have mk:∀(ps bs:List Int),ZM m x=ps->x.bins=bs->ps.length=bs.length->(∀z∈ps,0<=z)->(∀z∈bs,0<=z)->1<=ps.length->ps.length<=4 ->
   (∀k (h1:k<ps.length) (h2:k<bs.length),∃h:ps[k].toNat<m.pts.length,bs[k].toNat<m.pts[ps[k].toNat].bins.length)->Prt m x (RY m x):=by
  intro ps bs hp hb hl p0 b0 l1 l4 hok
  have e1:(RY m x).map Prod.fst=ps.map Int.toNat:=by
   unfold RY;rw[hp,hb,List.map_fst_zip (by simp [hl])]
  have e2:(RY m x).map Prod.snd=bs.map Int.toNat:=by
   unfold RY;rw[hp,hb,List.map_snd_zip (by simp [hl])]
  have hlen:(RY m x).length=ps.length:=by have:=congrArg qK e1; simpa using this
  refine⟨?_,?_,fun q hq=>?_,U,U⟩
  .have:=congrArg (List.map fun n:Nat=>(n:Int)) e1
   rw[AHQ ps p0,qM] at this;rw[hp]; exact this.symm
  .have:=congrArg (List.map fun n:Nat=>(n:Int)) e2
   rw[AHQ bs b0,qM] at this;rw[hb]; exact this.symm
  .obtain⟨k,hk,rfl⟩:=qZ hq
   have h1:k<ps.length:=U;have h2:k<bs.length:=U
   have g1:(RY m x)[k].1=ps[k].toNat:=by
    have:((RY m x).map Prod.fst)[k]?=(ps.map Int.toNat)[k]? := by rw[e1]
    rw[jZ,jZ,jM hk,jM h1] at this;simpa using this
   have g2:(RY m x)[k].2=bs[k].toNat:=by
    have:((RY m x).map Prod.snd)[k]?=(bs.map Int.toNat)[k]? := by rw[e2]
    rw[jZ,jZ,jM hk,jM h2] at this;simpa using this
   obtain⟨q1,q2⟩:=hok k h1 h2;rw[<-g1] at q1;refine⟨q1,?_⟩;rw[g2];have:m.pts[(RY m x)[k].1]=m.pts[ps[k].toNat]:=by congr 1
   rw[this]; exact q2
 cases hc:x.cross
 .obtain⟨i,hi,k,hk,hz,hb,hkd,hg⟩:=eG hv hc
  refine mk [(i:Int)] [(k:Int)] ?_ hb rfl (fun z hz=>?_) (fun z hz=>?_) BA BA fun k' h1 h2=>?_
  .unfold ZM; rw[if_neg (by rw[hc]; decide),hz]
  .rw[wI.1 hz]; omega
  .rw[wI.1 hz]; omega
  .simp_all
 .obtain⟨i,hi,hz,hin,hh,hg⟩:=eH hv hc
  have hcg:=hg.crs _ (jH hi);have hl:=QY hin;have hl2:m.crs[i].pts.length=x.bins.length:=by rw[<-hl]; unfold szs; rw[jJ]
  have h2:=hcg.two; have h4:=hcg.four;refine mk m.crs[i].pts x.bins ?_ rfl hl2 (fun z hz=>(hcg.here z hz).1) (fun z hz=>?_) U U fun k h1 h2=>?_
  .unfold ZM; rw[if_pos hc,hz,ZB hi]
  .obtain⟨k,hk,rfl⟩:=qZ hz
   exact(dA hin k hk U).1
  .obtain⟨q1,q2⟩:=dA hin k h2 h1
   refine⟨hcg.here.toNat h1,?_⟩;have:=hcg.here.bins h1;rw[this]; omega
theorem ASA (hm:MoOk m)(h0:F8 m=0){p:Pt}(hp:p∈m.pts){b:Bin}(hb:b∈p.bins):BdB p b:=by
 have v:=kI h0 p hp;have vb:=v.bins b hb;have h1:=v.n64;have h2:=vb.few;have h3:=v.badLen;exact⟨vb.ne,U,fun s hs=>by have:=(vb.each s hs).2.1; omega,U,U,(hm.pts p hp).ex⟩
theorem nN {P:Ex->Prop}{ins:Ex->List Rng->Ex}{m:Mo}(h0:F8 m=0){q:Nat×Nat}(h:q.1<m.pts.length)(h2:q.2<m.pts[q.1].bins.length)
  (h3:∀l:List Rng,l.length<=4096->P (ins m.pts[q.1].ex l)∧P (notE (ins m.pts[q.1].ex l))):∀r∈cdQ ins m q,r.length<=2∧∀e∈r,P e:=by
 rw[fI ins h h2];have v:=kI h0 _ (jH h);have vb:=v.bins _ (jH h2);exact AMH (fun s hs=>(h3 s.l (by have:=(vb.each s hs).2.1; omega)).1) fun _=>(h3 _ v.badLen).2
theorem wZ (h0:F8 m=0){q:Nat×Nat}(h:q.1<m.pts.length)(h2:q.2<m.pts[q.1].bins.length):1<=(cdQ ins m q).length∧(cdQ ins m q).length<=8:=by
 rw[fI ins h h2,ARQ];have vb:=(kI h0 _ (jH h)).bins _ (jH h2);exact⟨List.length_pos_iff.2 vb.ne,vb.few⟩
theorem AGI {P:Ex->Prop}{cs:List (List (List Ex))}(h:∀c∈cs,∀r∈c,∀e∈r,P e):∀r∈NE cs,∀e∈r,P e:=by
 intro r hr e he;unfold NE at hr;obtain⟨t,_,rfl⟩:=zQ.1 hr;unfold rowA at he;obtain⟨c,hc,he⟩:=List.mem_flatMap.1 he;unfold V3 at he;split at he
 .cases hx:c[t-(OX cs-c.length)]? with
  | none=>rw[hx] at he; cases he
  | some r0=>rw[hx] at he; exact h c hc r0 (List.mem_of_getElem? hx) e he
 .cases he
theorem AB1 {B:Nat}:∀ {R:List (List Ex)},(∀r∈R,r.length<=B)->R.flatten.length<=B*R.length
 | [],_=>BA
 | r::R,h=>by
   have h1:=h r BA;have h2:=AB1 (R:=R) fun r hr=>h r (by simp [hr])
   rw[List.flatten_cons,List.length_append,List.length_cons,Nat.mul_add]; omega
theorem tD {cs:List (List (List Ex))}(h4:cs.length<=4)(h8:∀c∈cs,c.length<=8)(h2:∀c∈cs,∀r∈c,r.length<=2):(NE cs).length<=8∧(∀r∈NE cs,r.length<=8)∧(NE cs).flatten.length<=64:=by
 have hn:OX cs<=8:=V9 cs 0 _ (Nat.zero_le _) h8;have a:(NE cs).length<=8:=by unfold NE; simpa using hn
 have b:∀r∈NE cs,r.length<=8:=fun r hr=>by
  unfold NE at hr;obtain⟨t,_,rfl⟩:=zQ.1 hr;have:=XE (n:=OX cs) (t:=t) h2;omega
 refine⟨a,b,?_⟩;have:=AB1 b;omega
def cnL (ins:Ex->List Rng->Ex)(m:Mo)(x:Hl):List (List Ex):=AYJ ins m (RY m x)
def cnE (ins:Ex->List Rng->Ex)(m:Mo)(x:Hl):Int:=if LW m x=true then (if(cnL ins m x).flatten.all (fun e=>exE e==0)=true then 0 else 2) else 1
def cnV (ins:Ex->List Rng->Ex)(m:Mo)(x:Hl):AV:=.tup [if cnE ins m x=0 then .sl .any 1 ((cnL ins m x).map O1) else .sl .nil 0 [],.n (cnE ins m x)]
theorem AKW (G:Nat->AV)(m:Mo)(x:Hl)(hv:LW m x=true)(h:Hp):∃s,PCall (En G) 94 [.agg (DJ m),.agg (FQ x)] h (.sl s 1 ((ZM m x).map Bins.qencI)):=by
 cases hc:x.cross
 .obtain⟨i,hi,k,hk,hz,hb,hkd,hg⟩:=eG hv hc
  exact⟨_,by have:=AAN G m x hc h; unfold ZM; rw[if_neg (by rw[hc]; decide)]; exact this⟩
 .obtain⟨i,hi,hz,hin,hh,hg⟩:=eH hv hc
  exact⟨_,by have:=AAO G m x hc i hi hz h; unfold ZM; rw[if_pos hc,hz,ZB hi]; exact this⟩
section
variable (G:Nat->AV)
theorem AF9 (m:Mo)(hm:MoOk m)(h0:F8 m=0)(x:Hl)(L:List (Nat×Nat))(hL:Prt m x L)(j:Nat)(hj:j<L.length)(b2 b3:Nat)(h:Hp)(gm:h[b2]?=some (zZ 2 [DJ m]))(gh:h[b3]?=some (zZ 3 [FQ x])):
  PCall (En G) 92 [.n (j:Nat),.n (L[j].1:Nat),.ptr b2 0 0,.ptr b3 0 0] h (.sl .any 1 ((cdQ EI m L[j]).map bA)):=by
 obtain⟨h1,h2⟩:=hL.ok _ (jH hj);have B:=ASA hm h0 (jH h1) (jH h2);have hb:j<x.bins.length:=by rw[hL.bins,jJ]; exact hj
 have hbj:x.bins[j]=((L[j].2:Nat):Int):=by
  have:x.bins[j]?=(L.map fun q=>((q.2:Nat):Int))[j]? := by rw[<-hL.bins]
  rw[jM hb,jZ,jM hj] at this;simpa using this
 rw[fI EI h1 h2];refine acT Tryz.func92 6 ?_;refine AO ?_;refine DV A8 ?_;simp -implicitDefEqProofs only[vQ,KH,NH,MF,↓reduceIte,jB,jL,enP,RJ,KU,LQ,TB,UM gm,CQ h1,DR fS ZI IW h1,oY gh,CQ hb,CG ag3 hb,Cov.encI0,hbj];refine⟨_,nL G m.pts[L[j].1] L[j].2 h2 B h,?_⟩
 try refine AO ?_
 exact⟨AZ,AZ⟩
end
theorem ARX (h:Hp)(xs:List (List AV)):C9 jA false h 159 1 [(0,.sl .any 1 xs)]=some (.sl .full 1 [[.sl .any 1 xs]],h):=A8
theorem A3Q:∀l:List (List (List Ex)),LC (l.map NQ)=true:=fun l=>by
 unfold LC;rw[List.all_eq_true];intro row hr;obtain⟨c,_,rfl⟩:=zQ.1 hr; rfl
theorem AWC (ins:Ex->List Rng->Ex)(m:Mo)(x:Hl)(n:Nat)(H:Hp):FN n H 3 (cnV ins m x)=cnV ins m x:=by
 unfold cnV;split<;>rfl
theorem AWD (h:LW m x=false):cnV ins m x=.tup [.sl .nil 0 [],.n 1]:=by
 have:cnE ins m x=1:=by unfold cnE; rw[if_neg (by rw[h]; decide)]
 unfold cnV;rw[this]; rfl
theorem AWB (h:LW m x=true)(hc:(cnL ins m x).flatten.all (fun e=>exE e==0)=false):cnV ins m x=.tup [.sl .nil 0 [],.n 2]:=by
 have:cnE ins m x=2:=by unfold cnE; rw[if_pos h,if_neg (by rw[hc]; decide)]
 unfold cnV;rw[this]; rfl
theorem A04 (h:LW m x=true)(hc:(cnL ins m x).flatten.all (fun e=>exE e==0)=true):cnV ins m x=.tup [.sl .any 1 ((cnL ins m x).map O1),.n 0]:=by
 have:cnE ins m x=0:=by unfold cnE; rw[if_pos h,if_pos hc]
 unfold cnV;rw[this]; rfl
theorem TT (h:LW m x=true):F8 m=0:=by
 unfold LW at h;rw[Bool.and_eq_true] at h;simpa using h.1
section
variable (G:Nat->AV)
theorem YQ (hG:GOk G)(m:Mo)(hm:MoOk m)(x:Hl)(hn:x.bins.length<=1048576)(h:Hp):PCall (En G) 43 [.agg (DJ m),.agg (FQ x)] h (cnV EI m x):=by
 refine ACalls.pure (R:=fun v H=>v=cnV EI m x∧Sm.ext h H) 3 ?_ (fun v H ⟨a,b⟩=>⟨b,by rw[a,AWC]⟩);refine H6 (H:=hint [] [(36,[35])]) (enM G) Tryz.func43 rfl (by kernel_rfl) (by kernel_rfl) (jC (by kernel_rfl)) ?_;show awp _ _ _ _ _ (LU _ [.tmp 4,.tmp 5] _);have t:=Hb.mk' h m x;refine BB @bxM @bxH ?_
 generalize h++[zZ 2 [DJ m]]++[zZ 3 [FQ x]]=H at t|-
 generalize (h++[zZ 2 [DJ m]]).length=hb at t|-
 refine BB (ldM t.gm) (ldH t.gh) ?_;refine(valid_prog G hG m hm x hn H).use ?_;cases hv:LW m x
 .refine AO ?_
  exact⟨by rw[AWD hv],t.hx⟩
 have h0:=TT hv;have hL:=lD hv;obtain⟨s,hp⟩:=AKW G m x hv H;rw[hL.pts] at hp;refine BB (ldM t.gm) (ldH t.gh) ?_;refine hp.use ?_;have hcl:cnL EI m x=NE ((RY m x).map (cdQ EI m)):=rfl;have hln:=hL.n4;have hl1:=hL.n1
 have hev:∀q∈RY m x,(∀r∈cdQ EI m q,r.length<=2∧∀e∈r,WN e)∧1<=(cdQ EI m q).length∧(cdQ EI m q).length<=8:=fun q hq=>by
  obtain⟨a,b⟩:=hL.ok q hq;have hw:=(hm.pts _ (jH a)).ex;exact⟨nN h0 a b fun l hl=>⟨(AJQ hw hl).1,(AJO (AJQ hw hl)).1⟩,wZ h0 a b⟩
 generalize RY m x=L at hL hcl hln hl1 hev;refine AO ?_;refine ET 0 (fun F H'=>∃v,F 7=v∧Sm.ext H H'∧outG 1 NQ H (L.map (cdQ EI m)) v H') (fun _ _=>False) ?_ ?_ (fun _ _ q=>q.elim)
 .refine BI (fun n F H'=>∃j v,n+j=L.length∧F 6=.fn (.func 92) [] [.ptr h.length 0 0,.ptr hb 0 0]∧F 7=v∧F 20=.sl s 1 ((L.map fun q=>((q.1:Nat):Int)).map Bins.qencI)∧F 21=.n (L.length:Nat)∧F 22=.n (j:Nat)∧Sm.ext H H'∧outG 1 NQ H ((L.take j).map (cdQ EI m)) v H') L.length
   ⟨0,.sl .nil 0 [],BA,AQ,AQ,AQ,AQ,AQ,ext.rfl' _,by rw[qB]; exact outG.nil _ _ _ _⟩ ?_
  rintro n F H' ⟨j,v,hj,f6,f7,f20,f21,f22,hx,ho⟩;refine BB f21 f22 ?_;refine D8 ?_ ?_<;>intro hj'
  .have hj2:j<(L.map fun q=>((q.1:Nat):Int)).length:=by rw[jJ]; exact hj'
   have hg:(L.map fun q=>((q.1:Nat):Int))[j]=((L[j].1:Nat):Int):=BA;have hlen:((L.take j).map (cdQ EI m)).length<8388608:=by rw[jJ,jV]; omega
   obtain⟨v',H2,ha,ho2,_,he2,_,_⟩:=ho.append (P:=jA) AXO AN0 AXK AYK U hlen hx (cdQ EI m L[j]);have ha':EG jA true H' 159 159 v (.sl .full 1 [[.sl .any 1 ((cdQ EI m L[j]).map bA)]])=some (v',H2):=ha
   have hst:(L.take (j+1)).map (cdQ EI m)=(L.take j).map (cdQ EI m)++[cdQ EI m L[j]]:=by
    rw[jY hj',qN]; rfl
   simp -implicitDefEqProofs only[vQ,jR,jS,CV,List.nil_append,List.cons_append,↓reduceIte,jB,enP,LQ,zY,L8,f6,f7,f20,f22,CQ hj2,CG ag3 hj2,Cov.encI0,hg];refine(AF9 G m hm h0 x L hL j hj' h.length hb H' (ED hx t.gm) (ED hx t.gh)).use ?_;refine I7 f7 f22 @ARX ha' (DF j) ?_;exact⟨n-1,U,j+1,v',U,AZ,AZ,AZ,AZ,AZ,he2,by rw[hst]; exact ho2⟩
  .rw[jI U] at ho
   refine AO ?_;exact⟨v,AZ,hx,ho⟩
 rintro F H' ⟨v,f7,hx,ho⟩;have hcl4:(L.map (cdQ EI m)).length<=4:=by rw[jJ]; exact hln
 have hcl1:L.map (cdQ EI m)≠[]:=by intro q; have:=congrArg qK q; rw[jJ,List.length_nil] at this; omega
 have hc8:∀c∈L.map (cdQ EI m),c.length<=8:=fun c hc=>by
  obtain⟨q,hq,rfl⟩:=zQ.1 hc;exact(hev q hq).2.2
 have hc2:∀c∈L.map (cdQ EI m),∀r∈c,r.length<=2:=fun c hc r hr=>by
  obtain⟨q,hq,rfl⟩:=zQ.1 hc;exact((hev q hq).1 r hr).1
 have hcw:∀c∈L.map (cdQ EI m),∀r∈c,∀e∈r,WN e:=fun c hc r hr=>by
  obtain⟨q,hq,rfl⟩:=zQ.1 hc;exact((hev q hq).1 r hr).2
 generalize L.map (cdQ EI m)=cs at ho hcl hcl4 hcl1 hc8 hc2 hcw;clear hev hp
 obtain⟨o,rfl,ho1,hob⟩:∃o,v=.own o 0 cs.length∧H.length<=o∧H'[o]?=some (zZ 1 (cs.map NQ)):=by
  rcases ho with⟨e1,_⟩|⟨_,o,h1,h2,h3⟩
  .exact absurd e1 hcl1
  .exact⟨o,h2,h1,h3⟩
 have hz:=mE (i:=35) (off:=0) (len:=cs.length) hob BA (by rw[zI,jI BA]; exact A3Q cs);rw[zI,jI BA] at hz;have hx2:=hx.set ho1 .dead;refine DT f7 @U4 hz ?_
 generalize H'.set o .dead=H2 at hx2|-
 refine(xH G cs .any U (fun c hc=>by have:=hc8 c hc; omega) hc2 H2).use ?_;obtain⟨ha1,ha2,ha3⟩:=tD hcl4 hc8 hc2
 have haw:∀e∈(NE cs).flatten,WN e:=fun e he=>by
  obtain⟨r,hr,he⟩:=List.mem_flatten.1 he;exact AGI hcw r hr e he
 rw[<-hcl] at ha1 ha2 ha3 haw|-
 clear hcl;refine AO ?_;refine(concat_prog G (cnL EI m x) .any U U H2).uu ?_
 generalize hE:(cnL EI m x).flatten=E at ha3 haw|-
 have hok:∀b,E.all (fun e=>exE e==0)=b->(cnL EI m x).flatten.all (fun e=>exE e==0)=b:=fun b hb=>by rw[hE]; exact hb
 have hhx:=t.hx.trans hx2;refine ET 2 (fun F H'=>F 10=.sl .any 1 ((cnL EI m x).map O1)∧Sm.ext h H'∧E.all (fun e=>exE e==0)=true) (fun F H'=>F 4=.sl .nil 0 []∧F 5=.n 2∧Sm.ext h H'∧E.all (fun e=>exE e==0)=false) ?_ ?_ ?_
 .refine BI (fun n F H'=>∃i,n+i=E.length∧F 10=.sl .any 1 ((cnL EI m x).map O1)∧F 38=.sl (Cov.nm E) 4 (E.map AU)∧F 39=.n (E.length:Nat)∧F 40=.n (i:Nat)∧Sm.ext h H'∧E.all (fun e=>exE e==0)=(E.drop i).all (fun e=>exE e==0)) E.length
   ⟨0,BA,AQ,AQ,AQ,AQ,hhx,rfl⟩ ?_
  rintro n F H3 ⟨i,hi,f10,f38,f39,f40,hx3,hq⟩;refine BB f39 f40 ?_;refine D8 ?_ ?_<;>intro hi'
  .rw[List.drop_eq_getElem_cons hi',wQ] at hq
   simp -implicitDefEqProofs only[vQ,jR,jS,CV,↓reduceIte,jB,enP,RN,Option.getD_none,zY,L8,f38,f40,CQ hi',DR O5 JL EP hi',O3,iB _ _ [.n 0,.n 0,.str ⟨#[]⟩,.sl .nil 0 []] rfl,ldE];refine(UQ G hG E[i] _ (haw _ (jH hi'))).use ?_;simp -implicitDefEqProofs only[vQ,jR,jS,CV,↓reduceIte,enP,zY,L8,bne];cases hz:(exE E[i]==0)
   .rw[hz,Bool.false_and] at hq
    refine AO ?_;exact⟨AZ,AZ,hx3.app _,hq⟩
   .rw[hz,Bool.true_and] at hq
    refine BB f40 (DF i) ?_;exact⟨n-1,U,i+1,U,AZ,AZ,AZ,AZ,hx3.app _,hq⟩
  .rw[List.drop_eq_nil_of_le U] at hq
   refine AO ?_;exact⟨AZ,hx3,hq⟩
 .rintro F H3 ⟨f10,hx3,hq⟩
  refine BC f10 ?_;exact⟨by rw[A04 hv (hok _ hq)],hx3⟩
 .rintro F H3 ⟨f4,f5,hx3,hq⟩
  refine BB f4 f5 ?_;exact⟨by rw[AWB hv (hok _ hq)],hx3⟩
end
section
variable (G:Nat->AV)
theorem ADA (m:Mo)(hm:MoOk m)(h0:F8 m=0)(q:Nat×Nat)(h1:q.1<m.pts.length)(h2:q.2<m.pts[q.1].bins.length)(h:Hp):PCall (En G) 201 [.agg (FY m.pts[q.1]),.n (q.2:Nat)] h (.sl .any 1 ((cdQ F7 m q).map bA)):=by
 rw[fI F7 h1 h2];exact AWR G m.pts[q.1] q.2 h2 (ASA hm h0 (jH h1) (jH h2)) ((kI h0 _ (jH h1)).bins _ (jH h2)).one h
theorem AT5 {L:List (Nat×Nat)}(hL:Prt m x L){j:Nat}(hj:j<L.length):∃hb:j<x.bins.length,x.bins[j]=((L[j].2:Nat):Int):=by
 have hb:j<x.bins.length:=by rw[hL.bins,jJ]; exact hj
 refine⟨hb,?_⟩;have:x.bins[j]?=(L.map fun q=>((q.2:Nat):Int))[j]? := by rw[<-hL.bins]
 rw[jM hb,jZ,jM hj] at this;simpa using this
theorem AZV {L:List (Nat×Nat)}(hL:Prt m x L){j:Nat}(hj:j<L.length):∃hb:j<(ZM m x).length,(ZM m x)[j]=((L[j].1:Nat):Int):=by
 have hb:j<(ZM m x).length:=by rw[hL.pts,jJ]; exact hj
 refine⟨hb,?_⟩;have:(ZM m x)[j]?=(L.map fun q=>((q.1:Nat):Int))[j]? := by rw[<-hL.pts]
 rw[jM hb,jZ,jM hj] at this;simpa using this
theorem AKV (m:Mo)(hm:MoOk m)(x:Hl)(hv:LW m x=true)(h:Hp):∃s,PCall (En G) 112 [.agg (DJ m),.agg (FQ x)] h (.sl s 1 (((RY m x).map (cdQ F7 m)).map NQ)):=by
 have h0:=TT hv;have hL:=lD hv;have hln:=hL.n4;have hl1:=hL.n1;cases hc:x.cross
 .obtain⟨i,hi,k,hk,hz,hb,hkd,hg⟩:=eG hv hc
  have hps:ZM m x=[(i:Int)]:=by unfold ZM; rw[if_neg (by rw[hc]; decide),hz]
  have hp1:=hL.pts; have hp2:=hL.bins;rw[hps] at hp1;rw[hb] at hp2
  have hl:(RY m x)=[(i,k)]:=by
   generalize RY m x=L at hp1 hp2
   match L,hp1,hp2 with
   | [q],hp1,hp2 =>
     simp at hp1 hp2;obtain⟨a,b⟩:=q;simp at hp1 hp2;obtain rfl:a=i:=U;obtain rfl:b=k:=U;rfl
  refine⟨.full,?_⟩;rw[hl];refine ACalls.pure0 rfl ?_;refine acT Tryz.func112 4 ?_;have t:=Hb.mk' h m x;refine BB @bxM @bxH ?_
  generalize h++[zZ 2 [DJ m]]++[zZ 3 [FQ x]]=H at t|-
  generalize (h++[zZ 2 [DJ m]]).length=b3 at t|-
  have l0:=ALC t.gh; have l1:=oZ t.gh; have l2:=oY t.gh;rw[hc] at l0;rw[hz] at l1;rw[hb] at l2;have h01:0<([(k:Int)]:List Int).length:=BA;have i0:JJ 1 H (.sl x.bm 1 (([(k:Int)]:List Int).map Bins.qencI)) (.n 0)=some (.fptr 1 (([(k:Int)]:List Int).map Bins.qencI) 0 0):=CQ (k:=1) h01;have lb:BU jA H 3 (.fptr 1 (([(k:Int)]:List Int).map Bins.qencI) 0 0)=some (.n (k:Int)):=(CG ag3 h01).trans rfl;refine BC l0 ?_;refine DV A8 ?_;simp -implicitDefEqProofs only[vQ,↓reduceIte,jB,jL,enP,RJ,KU,LQ,UO,TB,UM t.gm,l1,l2,CQ hi,DR fS ZI IW hi]
  try simp only[jK,jP] at i0 lb
  try refine BB i0 lb ?_
  refine⟨_,ADA G m hm h0 (i,k) hi hk H,?_⟩
  try refine BC @ARX ?_
  exact⟨AZ,t.hx⟩
 .obtain⟨i,hi,hz,hin,hh,hg⟩:=eH hv hc
  have hps:ZM m x=m.crs[i].pts:=by unfold ZM; rw[if_pos hc,hz,ZB hi]
  generalize RY m x=L at hL hln hl1|-
  refine⟨_,LY (enc:=NQ) (fun _ _ _ _=>⟨rfl,rfl⟩) ?_⟩;refine acT Tryz.func112 4 ?_;have t:=Hb.mk' h m x;refine BB @bxM @bxH ?_
  generalize h++[zZ 2 [DJ m]]++[zZ 3 [FQ x]]=H at t|-
  generalize (h++[zZ 2 [DJ m]]).length=b3 at t|-
  have l0:=ALC t.gh;rw[hc] at l0;refine BC l0 ?_
  refine BI (fun n F H'=>∃j v,n+j=L.length∧F 2=.ptr h.length 0 0∧F 3=.ptr b3 0 0∧F 5=v∧F 6=.n (j:Nat)∧Sm.ext H H'∧outG 1 NQ H ((L.take j).map (cdQ F7 m)) v H') L.length
   ⟨0,.sl .nil 0 [],BA,AQ,AQ,AQ,AQ,ext.rfl' _,by rw[qB]; exact outG.nil _ _ _ _⟩ ?_
  rintro n F H' ⟨j,v,hj,f2,f3,f5,f6,hx,ho⟩;have gm:=ED hx t.gm;have gh:=ED hx t.gh;have hbl:x.bins.length=L.length:=by rw[hL.bins,jJ]
  refine E8 f3 f6 (oY gh) hbl ?_;refine D8 ?_ ?_<;>intro hj'
  .obtain⟨hb,hbj⟩:=AT5 hL hj'
   obtain⟨hp,hpj⟩:=AZV hL hj';obtain⟨q1,q2⟩:=hL.ok _ (jH hj');have l1:=oZ gh;rw[hz] at l1;have hp':j<m.crs[i].pts.length:=by rw[<-hps]; exact hp
   have hpj':m.crs[i].pts[j]=((L[j].1:Nat):Int):=by
    rw[<-hpj]; congr 1; exact hps.symm
   have hlen:((L.take j).map (cdQ F7 m)).length<8388608:=by rw[jJ,jV]; omega
   obtain⟨v',H2,ha,ho2,_,he2,_,_⟩:=ho.append (P:=jA) AXO AN0 AXK AYK U hlen hx (cdQ F7 m L[j]);have ha':EG jA true H' 159 159 v (.sl .full 1 [[.sl .any 1 ((cdQ F7 m L[j]).map bA)]])=some (v',H2):=ha
   have hst:(L.take (j+1)).map (cdQ F7 m)=(L.take j).map (cdQ F7 m)++[cdQ F7 m L[j]]:=by
    rw[jY hj',qN]; rfl
   refine AO ?_;refine DV A8 ?_;simp -implicitDefEqProofs only[vQ,KH,NH,MF,CV,↓reduceIte,jB,jL,enP,RJ,UN,KU,MM,LQ,UO,TB,MB,f2,f3,f6,UM gm,aU gm,l1,CQ hi,CG O6 hi,UD,CQ hp',CG ag3 hp',Cov.encI0,hpj',CQ q1,DR fS ZI IW q1,oY gh,CQ hb,CG ag3 hb,hbj];refine⟨_,ADA G m hm h0 L[j] q1 q2 H',?_⟩
   try refine I7 f5 f6 @ARX ha' (DF j) ?_
   exact⟨n-1,U,j+1,v',U,AZ,AZ,AZ,AZ,he2,by rw[hst]; exact ho2⟩
  .rw[jI U] at ho
   refine BC f5 ?_;exact⟨t.hx.trans hx,ho.base t.hx.le⟩
end
theorem AYI (e:Ex):(cpE e).op=e.op:=by rw[TF]; rfl
theorem A6Y (e:Ex):(cpE e).n=e.n:=by rw[TF]; rfl
theorem AJB (e:Ex):(cpE e).name=e.name:=by rw[TF]; rfl
theorem wS (e:Ex):(cpE e).args=e.args.map cpE:=by rw[TF]; rfl
theorem AO6 (e:Ex):IA (cpE e)=IA e:=by
 unfold IA Cov.badO bE VG VF;rw[AYI,A6Y,AJB,wS,jJ]
theorem AAJ:∀l:List Ex,(∀e∈l,pre (cpE e)=(pre e).map cpE)->GH (l.map cpE)=(GH l).map cpE
 | [],_=>rfl
 | e::l,h=>by
   show pre (cpE e)++GH (l.map cpE)=(pre e++GH l).map cpE;rw[qN,h e BA,AAJ l fun x hx=>h x (by simp [hx])]
theorem AET (e:Ex):pre (cpE e)=(pre e).map cpE:=by
 induction e using Ex.induct with|h e ih=>?_
 rw[pre_eq,pre_eq e,wS,AAJ _ ih,jK]
theorem ACN:∀l:List Ex,(∀e∈l,dep (cpE e)=dep e)->deps (l.map cpE)=deps l
 | [],_=>rfl
 | e::l,h=>by
   show max (dep (cpE e)) (deps (l.map cpE))=max (dep e) (deps l);rw[h e BA,ACN l fun x hx=>h x (by simp [hx])]
theorem A0W (e:Ex):dep (cpE e)=dep e:=by
 induction e using Ex.induct with|h e ih=>?_
 rw[WF,WF e,wS,ACN _ ih]
theorem AQY (l:List Ex):errs (l.map cpE)=errs l:=by
 unfold errs;rw[List.foldl_map];congr 1;funext z e;rw[AO6]
theorem A0R (e:Ex):exE (cpE e)=exE e:=by
 unfold exE;rw[AET,AQY,A0W,jJ]
theorem ACY (hv:LW m x=true):eqC (cnL EI m x) (cnL F7 m x):=by
 have hL:=lD hv;have h0:=TT hv;unfold cnL AYJ;refine AL1 BA fun i h1 h2=>?_
 rw[List.getElem_map,List.getElem_map];obtain⟨a,b⟩:=hL.ok _ (jH (BN h1));rw[fI _ a b,fI _ a b];have vp:=kI h0 _ (jH a);have vb:=vp.bins _ (jH b);exact AQ1 (fun s hs=>rN (vb.each s hs).2.2 (vb.each s hs).1) (fun hb=>rN vp.badOk hb)
theorem ASN {P:Ex->Bool}(hP:∀e,P (cpE e)=P e):∀ {a b:List Ex},a.map cpE=b.map cpE->a.all P=b.all P
 | [],[],_=>rfl
 | [],_::_,h=>by cases h
 | _::_,[],h=>by cases h
 | x::xs,y::ys,h=>by
   simp only[jK,List.cons.injEq] at h;rw[wQ,wQ,ASN hP h.2,<-hP x,h.1,hP y]
theorem AQ0 {a b:List (List Ex)}(h:eqC a b):a.flatten.map cpE=b.flatten.map cpE:=by
 have:=congrArg List.flatten (show a.map (·.map cpE)=b.map (·.map cpE) from h);rw[List.map_flatten,List.map_flatten];exact this
theorem wU (m:Mo)(x:Hl):cnE EI m x=cnE F7 m x:=by
 unfold cnE;split
 .rename_i hv
  rw[ASN (P:=fun e=>exE e==0) (fun e=>by simp only[A0R]) (AQ0 (ACY hv))]
 .rfl
end Go.Proofs.YtiihpnicbekebaaGreatDoor.Ho
namespace Go.Proofs.YtiihpnicbekebaaGreatDoor.Bd.Cl
open Sm Bins Cov Xe Wd Bl Ho Go.RowKit
variable {vs:List Vr} {e:Ex} {H:Hp} {b:Nat} {r:List AV}
def vaE (a:ByteArray)(k:Nat):Ex:=JW (elN a k)
def aF (a:ByteArray):Nat->Ex
 | 0=>vaE a 0
 | k+1=>.mk 7 0 ⟨#[]⟩ .full [aF a k,vaE a (k+1)]
def chK (c:Ex->Ex)(a:ByteArray)(i:Ex)(n:Nat):Nat->Ex
 | 0=>cE 0
 | j+1=>.mk 22 0 ⟨#[]⟩ .full [.mk 15 0 ⟨#[]⟩ .full [c i,cE ((n-1-j:Nat):Int)],vaE a (n-1-j),chK c a i n j]
def fH (c:Ex->Ex)(a:ByteArray)(i:Ex)(n:Nat):Ex:=if i.op=1 then (if i.n<(n:Int) then vaE a i.n.toNat else cE 0) else chK c a i n n
structure Bw where
 c:Ex->Ex
 md:List Ex->SM
def scF (s:Bw)(vs:List Vr)(op n:Int)(name:ByteArray)(l:List Ex):Ex :=
 if op=24 then aF name (szA vs name-1) else if op=3 then fH s.c name (l.head?.getD (cE 0)) (szA vs name) else .mk op n name (s.md l) l
mutual
def IZ (s:Bw)(vs:List Vr):Ex->Ex
 | .mk op n name _ args=>scF s vs op n name (yU s vs args)
def yU (s:Bw)(vs:List Vr):List Ex->List Ex
 | []=>[]
 | e::es=>IZ s vs e::yU s vs es
end
theorem rB (s:Bw)(vs:List Vr):∀l:List Ex,yU s vs l=l.map (IZ s vs)
 | []=>by simp [yU]
 | e::es=>by simp [yU,rB s vs es]
theorem cG (s:Bw)(vs:List Vr)(e:Ex):IZ s vs e=scF s vs e.op e.n e.name (e.args.map (IZ s vs)):=by
 cases e; simp only[IZ,rB]; rfl
def sdP:Bw:=⟨cpE,fun _=>.any⟩
def Bw.Len (s:Bw):Prop:=∀e,(pre (s.c e)).length=(pre e).length∧(∀N,NmB N e->NmB N (s.c e))
theorem AHD:sdP.Len:=fun e=>⟨by show(pre (cpE e)).length=_; rw[AET,jJ],fun N h=>AJT e h⟩
theorem V5 (op n:Int)(name:ByteArray)(m:SM)(l:List Ex):(pre (.mk op n name m l)).length=1+(GH l).length:=by rw[pre_eq,List.length_cons]; show _+1=1+(GH l).length; rw[Nat.add_comm]; rfl
theorem lF:GH []=[]:=rfl
theorem PD (e:Ex)(l:List Ex):GH (e::l)=pre e++GH l:=rfl
theorem AG2 (a:ByteArray)(k:Nat):(pre (vaE a k)).length=1:=rfl
theorem A07 (n:Int):(pre (cE n)).length=1:=rfl
theorem yH (a:ByteArray):∀k,(pre (aF a k)).length=2*k+1
 | 0=>rfl
 | k+1=>by
   have ih:=yH a k;show(pre (.mk 7 0 ⟨#[]⟩ .full [aF a k,vaE a (k+1)])).length=_;rw[V5,PD,PD,lF,zA,zA,ih,AG2]; simp; omega
theorem AJD {s:Bw}(hs:s.Len)(a:ByteArray)(i:Ex)(n:Nat):∀j,(pre (chK s.c a i n j)).length=j*((pre i).length+4)+1
 | 0=>by rw[Nat.zero_mul]; rfl
 | j+1=>by
   have ih:=AJD hs a i n j;show(pre (.mk 22 0 ⟨#[]⟩ .full [.mk 15 0 ⟨#[]⟩ .full [s.c i,cE ((n-1-j:Nat):Int)],vaE a (n-1-j),chK s.c a i n j])).length=_;rw[V5,PD,PD,PD,lF,zA,zA,zA,ih,AG2,V5,PD,PD,lF,zA,zA,A07,(hs i).1,Nat.add_mul];simp; omega
theorem AA8 (x:Nat):¬(0:Int)<=((x,-1):Nat×Int).2:=by show ¬(0:Int)<=-1; decide
theorem AIJ:∀(l:List (Nat×Int)) (s:Nat),s<=401->s<=l.foldl (fun s x=>min (s+x.1) 401) s
 | [],s,_=>jF s
 | x::l,s,h=>by
   have:=AIJ l (min (s+x.1) 401) U;rw[qP]; omega
theorem AB0:∀(l:List (Nat×Int)) (s:Nat),l.foldl (fun s x=>min (s+x.1) 401) s<=400->l.foldl (fun s x=>min (s+x.1) 401) s=(l.map Prod.fst).foldl (·+·) s∧∀x∈l,x.1<=400
 | [],s,_=>⟨rfl,fun x hx=>by cases hx⟩
 | x::l,s,h=>by
   rw[qP] at h|-
   have h1:=AIJ l (min (s+x.1) 401) U;have e:min (s+x.1) 401=s+x.1:=U;obtain⟨i1,i2⟩:=AB0 l (min (s+x.1) 401) h;refine⟨by rw[i1,e]; rfl,fun y hy=>?_⟩;rcases zM.1 hy with rfl|hy
   .omega
   .exact i2 y hy
theorem yF {l:List (Nat×Int)}(h:cD l<=400):cD l=(l.map Prod.fst).foldl (·+·) 1∧∀x∈l,x.1<=400:=AB0 l 1 h
theorem rG:∀(l:List Ex) (z:Nat),z+(GH l).length=(l.map fun e=>(pre e).length).foldl (·+·) z
 | [],z=>rfl
 | e::l,z=>by
   rw[jK,qP,<-rG l,PD,zA]; omega
theorem ARC (a:ByteArray)(k:Nat):(elN a k).size=a.size+3:=by
 rw[tT,YB,zA,tT]; rfl
theorem kF {a:ByteArray}{k N:Nat}(h:a.size+3<=N):NmB N (vaE a k):=NmB.mk (by rw[ARC]; exact h) fun x hx=>by cases hx
theorem ADZ {a:ByteArray}{N:Nat}(h:a.size+3<=N):∀k,NmB N (aF a k)
 | 0=>kF h
 | k+1=>NmB.mk (qF _) fun x hx=>by
   simp only[zM,List.not_mem_nil,or_false] at hx;rcases hx with rfl|rfl
   .exact ADZ h k
   .exact kF h
theorem AJU {s:Bw}(hs:s.Len){a:ByteArray}{i:Ex}{n N:Nat}(h:a.size+3<=N)(hi:NmB N i):∀j,NmB N (chK s.c a i n j)
 | 0=>bP N 0
 | j+1=>NmB.mk (qF _) fun x hx=>by
   simp only[zM,List.not_mem_nil,or_false] at hx;rcases hx with rfl|rfl|rfl
   .refine NmB.mk (qF _) fun x hx=>?_
    simp only[zM,List.not_mem_nil,or_false] at hx;rcases hx with rfl|rfl
    .exact(hs i).2 N hi
    .exact bP N _
   .exact kF h
   .exact AJU hs h hi j
theorem AS2 {s:Bw}(hs:s.Len){a:ByteArray}{i:Ex}{n N:Nat}(h:a.size+3<=N)(hi:NmB N i):NmB N (fH s.c a i n):=by
 unfold fH;split
 .split
  .exact kF h
  .exact bP N 0
 .exact AJU hs h hi n
theorem AZR {s:Bw}(hs:s.Len)(vs:List Vr)(e:Ex):NdOk e->NmB 22 (IZ s vs e):=by
 induction e using Ex.induct with|h e ih=>?_
 intro hn;have hnm:=hn.name;rw[cG];unfold scF;split
 .exact ADZ U _
 split
 .refine AS2 hs U ?_
  cases hq:e.args with
  | nil=>exact bP _ _
  | cons a tl=>exact ih a (by rw[hq]; simp) (hn.arg (by rw[hq]; simp))
 .refine NmB.mk U fun x hx=>?_
  obtain⟨a,ha,rfl⟩:=zQ.1 hx;exact ih a ha (hn.arg ha)
theorem vS {a:Ex}(hn:NdOk e)(hu:QB vs e=false)(h:(IU vs e).1<=400)(ha:a∈e.args):(IU vs a).1<=400:=by
 rw[UB] at h;unfold xtF at h;split at h
 .rename_i ho; rw[dX hn.self (.inl ho)] at ha; cases ha
 split at h
 .rename_i ho; rw[dX hn.self (.inr (.inr ho))] at ha; cases ha
 split at h
 .exact(yF h).2 _ (zQ.2 ⟨a,ha,rfl⟩)
 .rename_i o1 o24 o3
  have o3:e.op=3:=BN o3;obtain⟨b,hb⟩:=VI hn.self o3;have hz:=VW hu (.inl o3);rw[hb] at ha h;rw[List.mem_singleton.1 ha];have hlast:TY ([b].map (IU vs))=IU vs b:=rfl;rw[hlast] at h;have one:0<=(IU vs b).2->(IU vs b).1<=400:=fun q=>by rw[AVT q]; decide
  split at h
  .exact one U
  split at h
  .exact one (by assumption)
  .have h:min (szA vs e.name*((IU vs b).1+4)+1) 401<=400:=h
   have h1:1*((IU vs b).1+4)<=szA vs e.name*((IU vs b).1+4):=Nat.mul_le_mul hz (jF _);omega
theorem eI {s:Bw}:NdOk e->QB vs e=false->((IZ s vs e).op=1↔0<=(IU vs e).2)∧(0<=(IU vs e).2->(IZ s vs e).n=(IU vs e).2):=by
 induction e using Ex.induct with|h e ih=>?_
 intro hn hu;rw[UB,cG];unfold xtF scF;by_cases o1:e.op=1
 .have:=(AZZ hn.self o1).1
  rw[if_pos o1,if_neg U,if_neg U];exact⟨⟨fun _=>this,fun _=>o1⟩,fun _=>rfl⟩
 rw[if_neg o1];by_cases o24:e.op=24
 .rw[if_pos o24,if_pos o24]
  have:∀k,(aF e.name k).op≠1:=fun k=>by
   cases k with
   | zero=>show(2:Int)≠1; decide
   | succ k=>show(7:Int)≠1; decide
  exact⟨⟨fun q=>absurd q (this _),fun q=>absurd q (AA8 _)⟩,fun q=>absurd q (AA8 _)⟩
 rw[if_neg o24,if_neg o24];by_cases o3:e.op=3
 .have o3n:¬e.op≠3:=fun q=>q o3
  rw[if_pos o3,if_neg o3n];obtain⟨b,hb⟩:=VI hn.self o3;have hz:=VW hu (.inl o3);have hm:b∈e.args:=by rw[hb]; simp
  obtain⟨i1,i2⟩:=ih b hm (hn.arg hm) (QM hu hm);rw[hb];have hlast:TY ([b].map (IU vs))=IU vs b:=rfl;have hhd:(([b].map (IZ s vs)).head?.getD (cE 0))=IZ s vs b:=rfl;rw[hlast,hhd];unfold fH;generalize IZ s vs b=x at i1 i2;generalize IU vs b=y at i1 i2;by_cases q:x.op=1
  .have h0:=i1.1 q
   have hn2:=i2 h0;rw[if_pos q,hn2];by_cases q2:(szA vs e.name:Int)<=y.2
   .rw[if_pos q2,if_neg U]
    exact⟨⟨fun _=>Int.le_refl 0,fun _=>rfl⟩,fun _=>rfl⟩
   .rw[if_neg q2,if_pos h0,if_pos U]
    exact⟨⟨fun q=>absurd q (by show(2:Int)≠1; decide),fun q=>absurd q (AA8 _)⟩,fun q=>absurd q (AA8 _)⟩
  .have h0:¬0<=y.2:=fun h=>q (i1.2 h)
   rw[if_neg q,if_neg U,if_neg h0]
   have:∀k,0<k->(chK s.c e.name x (szA vs e.name) k).op≠1:=fun k hk=>by
    cases k with
    | zero=>omega
    | succ k=>show(22:Int)≠1; decide
   exact⟨⟨fun q=>absurd q (this _ U),fun q=>absurd q (AA8 _)⟩,fun q=>absurd q (AA8 _)⟩
 .rw[if_pos o3,if_neg o3]
  exact⟨⟨fun q=>absurd q o1,fun q=>absurd q (AA8 _)⟩,fun q=>absurd q (AA8 _)⟩
theorem ATT {s:Bw}(hs:s.Len)(vs:List Vr)(e:Ex):NdOk e->QB vs e=false->(IU vs e).1<=400->(pre (IZ s vs e)).length=(IU vs e).1:=by
 induction e using Ex.induct with|h e ih=>?_
 intro hn hu hx;have ih':∀a∈e.args,(pre (IZ s vs a)).length=(IU vs a).1:=fun a ha=>ih a ha (hn.arg ha) (QM hu ha) (vS hn hu hx ha)
 rw[cG]
 rw[UB] at hx|-
 unfold xtF at hx|-
 unfold scF;by_cases o1:e.op=1
 .rw[if_pos o1,if_neg U,if_neg U,dX hn.self (.inl o1)]
  rfl
 rw[if_neg o1] at hx|-
 by_cases o24:e.op=24
 .have hz:=VW hu (.inr o24)
  rw[if_pos o24,if_pos o24,yH];show 2*(szA vs e.name-1)+1=2*szA vs e.name-1;omega
 rw[if_neg o24] at hx|-
 rw[if_neg o24];by_cases o3:e.op=3
 .have o3n:¬e.op≠3:=fun q=>q o3
  rw[if_neg o3n] at hx|-
  rw[if_pos o3];obtain⟨b,hb⟩:=VI hn.self o3;have hz:=VW hu (.inl o3);have hm:b∈e.args:=by rw[hb]; simp
  obtain⟨i1,i2⟩:=eI (s:=s) (hn.arg hm) (QM hu hm);have hl:=ih' b hm
  rw[hb] at hx|-
  have hlast:TY ([b].map (IU vs))=IU vs b:=rfl;have hhd:(([b].map (IZ s vs)).head?.getD (cE 0))=IZ s vs b:=rfl
  rw[hlast] at hx|-
  rw[hhd];unfold fH;generalize IZ s vs b=x at i1 i2 hl;generalize IU vs b=y at i1 i2 hl hx;by_cases q:x.op=1
  .have h0:=i1.1 q
   have hn2:=i2 h0;rw[if_pos q,hn2];by_cases q2:(szA vs e.name:Int)<=y.2
   .rw[if_pos q2,if_neg U]; rfl
   .rw[if_neg q2,if_pos h0,if_pos U]; rfl
  .have h0:¬0<=y.2:=fun h=>q (i1.2 h)
   have h1:¬(szA vs e.name:Int)<=y.2:=U
   rw[if_neg h1,if_neg h0] at hx|-
   rw[if_neg q,AJD hs,hl];have hx:min (szA vs e.name*(y.1+4)+1) 401<=400:=hx;show szA vs e.name*(y.1+4)+1=min (szA vs e.name*(y.1+4)+1) 401;omega
 .rw[if_pos o3] at hx|-
  rw[if_neg o3];have h1:=(yF hx).1;show(pre (.mk e.op e.n e.name (s.md (e.args.map (IZ s vs))) (e.args.map (IZ s vs)))).length=cD (e.args.map (IU vs));rw[h1,V5,rG,qM,qM];congr 1;exact List.map_congr_left fun a ha=>ih' a ha
theorem AOL {s:Bw}(hs:s.Len)(hn:NdOk e)(hu:QB vs e=false)(hx:(IU vs e).1<=400):wt (IZ s vs e)<=10000:=by
 have h1:=AXM 22 (IZ s vs e) (AZR hs vs e hn);rw[ATT hs vs e hn hu hx] at h1;have:(IU vs e).1*23<=400*23:=Nat.mul_le_mul_right _ hx;omega
def scC (vs:List Vr)(e:Ex):Int:=if QB vs e=true then 7 else if 400<(IU vs e).1 then 2 else exE (IZ sdP vs e)
def scV (s:Bw)(vs:List Vr)(e:Ex):AV:=.tup [.agg (if scC vs e=0 then AU (IZ s vs e) else FK),.n (scC vs e)]
theorem AY2 (n:ByteArray):CvR (.agg (OG n)) (.agg (AU (JW n))):=by
 rw[EW];exact CvR.agg (CvRL.cons (CvR.refl _) (CvRL.cons (CvR.refl _) (CvRL.cons (CvR.refl _) (CvRL.cons (CvR.sl (Cv.nil 0 4)) CvRL.nil))))
theorem A4U (op:Int)(m:SM)(xs:List (List AV)):G7 jA 79 [(0,.n op),(3,.sl m 4 xs)]=some (.agg [.n op,.n 0,.str ⟨#[]⟩,.sl m 4 xs]):=A8
theorem AQ8 (op:Int)(m:SM)(l:List Ex):AU (.mk op 0 ⟨#[]⟩ m l)=[.n op,.n 0,.str ⟨#[]⟩,.sl m 4 (l.map AU)]:=EW _
theorem bs3 (h:Hp)(a b c:Ex):C9 jA false h 23 3 [(0,.agg (AU a)),(1,.agg (AU b)),(2,.agg (AU c))]=some (.sl .full 4 [AU a,AU b,AU c],h):=by
 rw[EW a,EW b,EW c];exact(A8:C9 jA false h 23 3 [(0,.agg [.n a.op,.n a.n,.str a.name,.sl a.m 4 (a.args.map AU)]),(1,.agg [.n b.op,.n b.n,.str b.name,.sl b.m 4 (b.args.map AU)]),(2,.agg [.n c.op,.n c.n,.str c.name,.sl c.m 4 (c.args.map AU)])]=_)
theorem z4:([AV.int .i64 0,.n 0,.str ⟨#[]⟩,.sl .nil 0 []]:List AV)=FK:=rfl
section
variable (G:Nat->AV)
theorem QL (a:ByteArray)(k:Nat)(hk:k<9)(ha:a.size<=1048576)(h:Hp):PCall (En G) 302 [.str a,.n (k:Nat)] h (.agg (AU (vaE a k))):=by
 refine PCall.res ?_ (AY2 (elN a k));refine XJ 3 (fun n H=>rfl) ?_;refine acL Tryz.func302 [.cell 4 79] ?_;have g2:=A7 h (zZ 4 [FK]);have hx:=Sm.ext.r1 h (zZ 4 [FK]);refine BB O3 z4 ?_
 generalize h++[zZ 4 [FK]]=H1 at g2 hx|-
 refine(nC G a k hk H1 ha).use ?_;have s2:=TW (cs:=OG (elN a k)) g2 rfl rfl rfl;refine BB @AWV s2 ?_;rw[JO (b:=h.length) AQ (KE (CP g2) rfl)];exact⟨rfl,hx.set (jF _) _⟩
theorem XP (n:Int)(h:Hp):PCall (En G) 304 [.n n] h (.agg (AU (cE n))):=by
 refine PCall.res ?_ (nO n);refine XJ 3 (fun n H=>rfl) ?_;refine acL Tryz.func304 [.cell 2 79] ?_;have g2:=A7 h (zZ 4 [FK]);have s2:=TW (cs:=WV 1 n) g2 rfl rfl rfl;refine E8 O3 @ADE z4 s2 ?_;rw[JO (b:=h.length) AQ (KE (CP g2) rfl)];exact⟨rfl,((ext.rfl' h).app _).set (jF _) _⟩
theorem eO (op:Int)(m:SM)(l:List Ex)(h:Hp):PCall (En G) 303 [.n op,.sl m 4 (l.map AU)] h (.agg (AU (.mk op 0 ⟨#[]⟩ m l))):=by
 refine XJ 3 (fun n H=>Q4 n H 0 _) ?_;refine acL Tryz.func303 [.cell 4 79] ?_;have g2:=A7 h (zZ 4 [FK]);have s2:=PH (e:=.mk op 0 ⟨#[]⟩ m l) g2 rfl;rw[AQ8] at s2;refine E8 O3 @A4U z4 s2 ?_;rw[<-AQ8];rw[JO (b:=h.length) AQ (ND (CP g2))];exact⟨rfl,((ext.rfl' h).app _).set (jF _) _⟩
theorem ACX:∀(w:Nat) (e:Ex) (h:Hp),wt e<=w->wt e<=1048576->PCall (En G) 305 [.agg (AU e)] h (.agg (AU (cpE e))):=by
 intro w
 induction w with
 | zero=>intro e h h1 _; have:=LX e; omega
 | succ w ih =>
   intro e h h1 h2;have hlen:=TR e.args;have hwt:=LX e;refine PCall.res (r:=.agg (cpW e)) ?_ (ARO e);refine ACalls.pure (R:=fun v H=>Sm.ext h H∧FN h.length H 4 v=.agg (cpW e)) 4 ?_ (fun v H ⟨a,b⟩=>⟨a,b⟩);refine acL Tryz.func305 [.cell 2 79] ?_;have ge:=AL (x:=zZ 4 [[.n 0,.n 0,.str ⟨#[]⟩,.sl .nil 0 []]]) (A7 h (zZ 4 [AU e]));have g2:=A7 (h++[zZ 4 [AU e]]) (zZ 4 [[.n 0,.n 0,.str ⟨#[]⟩,.sl .nil 0 []]]);have hx:Sm.ext h (h++[zZ 4 [AU e]]++[zZ 4 [[.n 0,.n 0,.str ⟨#[]⟩,.sl .nil 0 []]]]):=((ext.rfl' h).app _).app _;have hb2:h.length<(h++[zZ 4 [AU e]]).length:=BA;refine BB @bxE O3 ?_
   generalize h++[zZ 4 [AU e]]++[zZ 4 [[.n 0,.n 0,.str ⟨#[]⟩,.sl .nil 0 []]]]=H0 at ge g2 hx|-
   generalize (h++[zZ 4 [AU e]]).length=b2 at g2 hb2|-
   have l2:=AC g2;refine BC (Rk.ldE' ge) ?_
   refine BI (fun n F H=>∃k u,n+k=e.args.length∧F 1=.ptr h.length 0 0∧F 2=.ptr b2 0 0∧F 3=u∧F 7=.sl e.m 4 (e.args.map AU)∧F 8=.n (e.args.length:Nat)∧F 9=.n (k:Nat)∧Sm.ext H0 H∧outG 4 AU H0 ((e.args.take k).map cpE) u H) e.args.length
    ⟨0,.sl .nil 0 [],BA,AQ,AQ,AQ,AQ,AQ,AQ,ext.rfl' _,outG.nil _ _ _ _⟩ ?_
   rintro n F H ⟨k,u,hk,f1,f2,f3,f7,f8,f9,he,ho⟩;refine BB f8 f9 ?_;refine D8 ?_ ?_<;>intro hk'
   .have hlt:=Rk.wt_arg hk'
    have he1:=he.app [zZ 4 [AU e.args[k]]];have ho1:=ho.app [zZ 4 [AU e.args[k]]];have gT:=ldE H e.args[k];simp -implicitDefEqProofs only[vQ,CV,List.map_nil,lAn,↓reduceIte,jB,enP,RN,jO,f7,f9,CQ hk',DR O5 JL EP hk',O3,iB _ _ [.n 0,.n 0,.str ⟨#[]⟩,.sl .nil 0 []] rfl,gT]
    generalize H++[zZ 4 [AU e.args[k]]]=H1 at he1 ho1|-
    refine(ih e.args[k] H1 U U).use ?_;have hbs:=dU H1 (cpE e.args[k]);obtain⟨v',H2,ha,ho2,_,he2,_,_⟩:=ho1.append SV JL ZG YG U NU he1 (cpE e.args[k]);have e3:(e.args.take k).map cpE++[cpE e.args[k]]=(e.args.take (k+1)).map cpE:=by rw[jY hk',List.map_append]; rfl
    rw[e3] at ho2;refine I7 f3 hbs ha f9 (DF k) ?_;exact⟨n-1,U,k+1,v',U,AZ,AZ,AZ,AZ,AZ,AZ,he2,ho2⟩
   .rw[jI U] at ho
    have ge1:=ED he ge;have g21:=ED he g2;have hle:=he.le;have hlf:=ho.leaf;have h0l:h.length<H0.length:=U
    have hst:DW jA H 23 (.ptr h.length 0 3) u=some (H.set h.length (zZ 4 [[.n e.op,.n e.n,.str e.name,u]])):=by
     rw[EW] at ge1;rcases ho with⟨_,rfl⟩|⟨_,o,_,rfl,_⟩
     .rw[I9 (cs:=[.sl .nil 0 []]) rfl (A8:szO jA 23=some 1) ge1 BA]; rfl
     .rw[I9 (cs:=[.own o 0 _]) rfl (A8:szO jA 23=some 1) ge1 BA]; rfl
    have g1':(H.set h.length (zZ 4 [[.n e.op,.n e.n,.str e.name,u]]))[h.length]?=some (zZ 4 [[.n e.op,.n e.n,.str e.name,u]]):=CP ge1;have g2':(H.set h.length (zZ 4 [[.n e.op,.n e.n,.str e.name,u]]))[b2]?=_:=CZ g21 U;have ho3:outG 4 AU H0 (e.args.map cpE) u (H.set h.length (zZ 4 [[.n e.op,.n e.n,.str e.name,u]])):=ho.setB h0l _;have hx3:Sm.ext h (H.set h.length (zZ 4 [[.n e.op,.n e.n,.str e.name,u]])):=(hx.trans he).set (jF _) _;refine E8 f1 f2 f3 hst ?_
    generalize H.set h.length (zZ 4 [[.n e.op,.n e.n,.str e.name,u]])=H3 at g1' g2' ho3 hx3|-
    have hlf4:([.n e.op,.n e.n,.str e.name,u]:List AV).all AV.leaf=true:=by simp [hlf]; exact⟨rfl,rfl,rfl⟩
    refine E8 f1 f2 (KE g1' rfl) (TW g2' rfl rfl hlf4) ?_;rw[JO (b:=b2) (EM f2) (KE (CP g2') rfl)];refine⟨hx3.set U _,?_⟩;have ho4:=ho3.setB (b:=b2) l2 (zZ 4 [[.n e.op,.n e.n,.str e.name,u]]);have hz:=KP frzEx ho4 h.length 1 (by have:=hx.le; omega);show AV.agg [.n e.op,.n e.n,.str e.name,FN h.length _ 3 u]=.agg (cpW e);rw[hz]; rfl
theorem AN4 (vs:List Vr)(m:SM)(hl:vs.length<=1048576)(hv:∀v∈vs,IJ v.name=true)(a:ByteArray)(ha:a.size<=1048576)(hz:1<=szA vs a)(h:Hp):PCall (En G) 255 [.agg [.sl m 4 (vs.map encV)],.str a] h (.agg (AU (aF a (szA vs a-1)))):=by
 have hsz:=tU vs a;refine ACalls.pure (R:=fun v H=>v=.agg (AU (aF a (szA vs a-1)))∧Sm.ext h H) 3 ?_ (fun v H ⟨a,b⟩=>⟨b,by rw[a]; exact Q4 _ _ 0 _⟩);refine acL Tryz.func255 [.cell 4 79] ?_;have gs:isS (h++[zZ 1 [[.sl m 4 (vs.map encV)]]]++[zZ 4 [FK]]) h.length m vs:=AL (A7 _ _);have gr:=A7 (h++[zZ 1 [[.sl m 4 (vs.map encV)]]]) (zZ 4 [FK]);have hx:Sm.ext h (h++[zZ 1 [[.sl m 4 (vs.map encV)]]]++[zZ 4 [FK]]):=((ext.rfl' h).app _).app _;have e1:(h++[zZ 1 [[.sl m 4 (vs.map encV)]]]).length=h.length+1:=BA;refine DT @bxS O3 z4 ?_
 rw[e1] at gr|-
 generalize h++[zZ 1 [[.sl m 4 (vs.map encV)]]]++[zZ 4 [FK]]=H1 at gs gr hx|-
 refine(QL G a 0 U ha H1).use ?_;have gs:=AL (x:=zZ 4 [AU (vaE a 0)]) gs;have lr:=AC gr;have gr:=AL (x:=zZ 4 [AU (vaE a 0)]) gr;have go:=A7 H1 (zZ 4 [AU (vaE a 0)]);have hx:=hx.app [zZ 4 [AU (vaE a 0)]];refine BB al79 st79 ?_
 generalize H1++[zZ 4 [AU (vaE a 0)]]=H2 at gs gr go hx|-
 generalize H1.length=ob at go lr|-
 refine ET 0 (fun F H=>F 4=.ptr (h.length+1) 0 0∧F 5=.ptr ob 0 0∧H[h.length+1]?=some (zZ 4 [FK])∧H[ob]?=some (zZ 4 [AU (aF a (szA vs a-1))])∧Sm.ext h H) (fun _ _=>False) ?_ ?_ (fun _ _ q=>q.elim)
 .refine BI (fun n F H=>∃k,n+(k+1)=szA vs a∧F 1=.str a∧F 2=.ptr h.length 0 0∧F 4=.ptr (h.length+1) 0 0∧F 5=.ptr ob 0 0∧F 6=.n ((k+1:Nat):Int)∧isS H h.length m vs∧H[h.length+1]?=some (zZ 4 [FK])∧H[ob]?=some (zZ 4 [AU (aF a k)])∧Sm.ext h H) (szA vs a-1)
   ⟨0,U,FI,FI,FI,FI,FI,gs,gr,go,hx⟩ ?_
  clear gs gr go hx;rintro n F H ⟨k,hk,f1,f2,f4,f5,f6,gs,gr,go,hx⟩;refine E8 f1 f2 f6 (isS.ld gs) ?_;refine(size_prog G vs m hl hv a ha H).use ?_;refine BC f6 ?_;refine D8 ?_ ?_<;>intro hc
  .have s2:=PH (e:=aF a (k+1)) go (EP _)
   refine AO ?_;refine DV A8 ?_;refine E8 f1 f5 f6 (ND go) ?_;refine⟨_,QL G a (k+1) U ha H,?_⟩;refine BC @bD ?_;refine⟨_,eO G 7 .full [aF a k,vaE a (k+1)] H,?_⟩;change DW jA H 79 (.ptr ob 0 0) (.agg (AU (.mk 7 0 ⟨#[]⟩ .full [aF a k,vaE a (k+1)])))=_ at s2;refine E8 f5 s2 f6 (DF (k+1)) ?_;exact⟨n-1,U,k+1,U,AZ,AZ,AZ,AZ,AZ,by unfold isS; rw[zX U]; exact gs,by rw[zX U]; exact gr,CP go,hx.set U _⟩
  .have e:szA vs a-1=k:=U
   refine AO ?_;exact⟨AZ,AZ,gr,by rw[e]; exact go,hx⟩
 rintro F H ⟨f4,f5,gr,go,hx⟩;simp -implicitDefEqProofs only[vQ,YI,CV,↓reduceIte,jB,enP,jO,f4,f5,ND go,PH gr rfl];rw[JO (b:=h.length+1) (Q8 f4) (ND (CP gr))];exact⟨rfl,hx.set U _⟩
end
theorem A19 {op n:Int}{s:ByteArray}{m:SM}{l:List (List AV)}(g:H[b]?=some (zZ 4 [[.n op,.n n,.str s,.sl m 4 l]])){o k:Nat}:
  DW jA H 23 (.ptr b 0 3) (.own o 0 k)=some (H.set b (zZ 4 [[.n op,.n n,.str s,.own o 0 k]])):=by
 rw[I9 (cs:=[.own o 0 k]) rfl (A8:szO jA 23=some 1) g BA]; rfl
section
variable (G:Nat->AV)
theorem AC1 (vs:List Vr)(m:SM)(hl:vs.length<=1048576)(hv:∀v∈vs,IJ v.name=true)(a:ByteArray)(ha:a.size<=1048576)(i:Ex)(hw:wt i<=1048576)(hi:i.op=1->0<=i.n)(h:Hp):PCall (En G) 256 [.agg [.sl m 4 (vs.map encV)],.str a,.agg (AU i)] h (.agg (AU (fH cpE a i (szA vs a)))):=by
 have hsz:=tU vs a;refine ACalls.pure (R:=fun v H=>v=.agg (AU (fH cpE a i (szA vs a)))∧Sm.ext h H) 3 ?_ (fun v H ⟨a,b⟩=>⟨b,by rw[a]; exact Q4 _ _ 0 _⟩);refine acL Tryz.func256 [.cell 6 79] ?_;have gs:isS (h++[zZ 1 [[.sl m 4 (vs.map encV)]]]++[zZ 4 [AU i]]++[zZ 4 [FK]]) h.length m vs:=AL (AL (A7 _ _));have ge:=AL (x:=zZ 4 [FK]) (A7 (h++[zZ 1 [[.sl m 4 (vs.map encV)]]]) (zZ 4 [AU i]));have gr:=A7 (h++[zZ 1 [[.sl m 4 (vs.map encV)]]]++[zZ 4 [AU i]]) (zZ 4 [FK]);have hx:Sm.ext h (h++[zZ 1 [[.sl m 4 (vs.map encV)]]]++[zZ 4 [AU i]]++[zZ 4 [FK]]):=(((ext.rfl' h).app _).app _).app _;have e1:(h++[zZ 1 [[.sl m 4 (vs.map encV)]]]).length=h.length+1:=BA;have e2:(h++[zZ 1 [[.sl m 4 (vs.map encV)]]]++[zZ 4 [AU i]]).length=h.length+2:=BA;refine E8 @bxS @bxE O3 z4 ?_
 rw[e1] at ge|-
 rw[e2] at gr|-
 generalize h++[zZ 1 [[.sl m 4 (vs.map encV)]]]++[zZ 4 [AU i]]++[zZ 4 [FK]]=H1 at gs ge gr hx|-
 clear e1 e2;refine BC (isS.ld gs) ?_;refine(size_prog G vs m hl hv a ha H1).use ?_;refine BC (ALZ ge) ?_;cases b1:(i.op==1)
 case true =>
  have ho:i.op=1:=BN b1;have h0:=hi ho;refine BB b1 (exN ge) ?_;cases b2:decide (i.n<((szA vs a:Nat):Int))
  .have q:=of_decide_eq_false b2
   refine BC b2 ?_;refine(XP G 0 H1).use ?_;refine BC (PH (e:=cE 0) gr rfl) ?_;rw[JO (b:=h.length+2) FI (ND (CP gr))];exact⟨by unfold fH; rw[if_pos ho,if_neg q],hx.set U _⟩
  .have q:=of_decide_eq_true b2
   obtain⟨k,hk⟩:=Int.eq_ofNat_of_zero_le h0;have hv2:=QL G a k U ha H1;rw[<-hk] at hv2;refine BB b2 (exN ge) ?_;refine hv2.use ?_;refine BC (PH (e:=vaE a k) gr rfl) ?_;rw[JO (b:=h.length+2) FI (ND (CP gr))];exact⟨by unfold fH; rw[if_pos ho,if_pos q,hk,Int.toNat_natCast],hx.set U _⟩
 have o1:¬i.op=1:=BN b1;refine BC b1 ?_;refine(XP G 0 H1).use ?_;have gs:=AL (x:=zZ 4 [AU (cE 0)]) gs;have ge:=AL (x:=zZ 4 [AU (cE 0)]) ge;have lr:=AC gr;have gr:=AL (x:=zZ 4 [AU (cE 0)]) gr;have go:=A7 H1 (zZ 4 [AU (cE 0)]);have hx:=hx.app [zZ 4 [AU (cE 0)]];have w1:IntKind.i64.wrap (((szA vs a:Nat):Int)-1)=((szA vs a:Nat):Int)-1:=wrap_i64 U U;refine DT al79 st79 w1 ?_
 generalize H1++[zZ 4 [AU (cE 0)]]=H2 at gs ge gr go hx|-
 generalize H1.length=ob at go lr|-
 refine ET 0 (fun F H=>F 6=.ptr (h.length+2) 0 0∧F 8=.ptr ob 0 0∧H[h.length+2]?=some (zZ 4 [FK])∧H[ob]?=some (zZ 4 [AU (chK cpE a i (szA vs a) (szA vs a))])∧Sm.ext h H) (fun _ _=>False) ?_ ?_ (fun _ _ q=>q.elim)
 .refine BI (fun n F H=>∃j,n+j=szA vs a∧F 1=.str a∧F 5=.ptr (h.length+1) 0 0∧F 6=.ptr (h.length+2) 0 0∧F 8=.ptr ob 0 0∧F 9=.n (((szA vs a:Nat):Int)-1-(j:Nat))∧H[h.length+1]?=some (zZ 4 [AU i])∧H[h.length+2]?=some (zZ 4 [FK])∧H[ob]?=some (zZ 4 [AU (chK cpE a i (szA vs a) j)])∧Sm.ext h H) (szA vs a)
   ⟨0,U,FI,FI,FI,FI,by simp -implicitDefEqProofs only[AY,↓reduceIte]; simp,ge,gr,go,hx⟩ ?_
  clear gs ge gr go hx;rintro n F H ⟨j,hj,f1,f5,f6,f8,f9,ge,gr,go,hx⟩;refine BC f9 ?_;refine CE ?_ ?_<;>intro hc
  .have hc:j<szA vs a:=by have:=of_decide_eq_true hc; omega
   have ek:((szA vs a:Nat):Int)-1-(j:Nat)=((szA vs a-1-j:Nat):Int):=U;have w2:IntKind.i64.wrap (((szA vs a-1-j:Nat):Int)-1)=((szA vs a:Nat):Int)-1-((j+1:Nat):Int):=by rw[wrap_i64 U U]; omega
   rw[ek] at f9;have s2:=PH (e:=chK cpE a i (szA vs a) (j+1)) go (EP _);refine AO ?_;refine DV A8 ?_;refine MV f1 f5 f8 f9 (JI ge) (ND go) ?_;refine⟨_,ACX G (wt i) i H (jF _) hw,?_⟩
   try refine E8 f1 f8 f9 (ND go) ?_
   refine⟨_,XP G _ H,?_⟩
   try refine I7 @bD f1 f8 f9 (ND go) ?_
   refine⟨_,eO G 15 .full [cpE i,cE ((szA vs a-1-j:Nat):Int)] H,?_⟩
   try refine E8 f1 f8 f9 (ND go) ?_
   refine⟨_,QL G a (szA vs a-1-j) U ha H,?_⟩
   try refine I7 bs3 f1 f8 f9 (ND go) ?_
   refine⟨_,eO G 22 .full [.mk 15 0 ⟨#[]⟩ .full [cpE i,cE ((szA vs a-1-j:Nat):Int)],vaE a (szA vs a-1-j),chK cpE a i (szA vs a) j] H,?_⟩;change DW jA H 79 (.ptr ob 0 0) (.agg (AU (.mk 22 0 ⟨#[]⟩ .full [.mk 15 0 ⟨#[]⟩ .full [cpE i,cE ((szA vs a-1-j:Nat):Int)],vaE a (szA vs a-1-j),chK cpE a i (szA vs a) j])))=_ at s2;refine E8 f8 s2 f9 w2 ?_;exact⟨n-1,U,j+1,U,AZ,AZ,AZ,AZ,AZ,by rw[zX U]; exact ge,by rw[zX U]; exact gr,CP go,hx.set U _⟩
  .have hc:¬j<szA vs a:=fun q=>by rw[decide_eq_true U] at hc; cases hc
   have e:j=szA vs a:=U;rw[e] at go;refine AO ?_;exact⟨AZ,AZ,gr,go,hx⟩
 rintro F H ⟨f6,f8,gr,go,hx⟩;simp -implicitDefEqProofs only[vQ,YI,CV,↓reduceIte,jB,enP,jO,f6,f8,ND go,PH gr rfl];rw[JO (b:=h.length+2) (Q8 f6) (ND (CP gr))];exact⟨by unfold fH; rw[if_neg o1],hx.set U _⟩
theorem AK6 (vs:List Vr)(m:SM)(hl:vs.length<=1048576)(hv:∀v∈vs,IJ v.name=true)(e:Ex):NdOk e->QB vs e=false->(IU vs e).1<=400->∀h:Hp,PCall (En G) 177 [.agg [.sl m 4 (vs.map encV)],.agg (AU e)] h (.agg (AU (IZ sdP vs e))):=by
 induction e using Ex.induct with|h e ih=>?_
 intro hn hu hsm h;have hnm:=hn.name;have hal:=hn.len;refine ACalls.pure (R:=fun v H=>Sm.ext h H∧FN h.length H 4 v=.agg (AU (IZ sdP vs e))) 4 ?_ (fun v H ⟨a,b⟩=>⟨a,b⟩);refine acL Tryz.func177 [.cell 4 79] ?_;have hscl:=cG sdP vs e;unfold scF at hscl;have gs:isS (h++[zZ 1 [[.sl m 4 (vs.map encV)]]]++[zZ 4 [AU e]]++[zZ 4 [FK]]) h.length m vs:=AL (AL (A7 _ _));have ge:=AL (x:=zZ 4 [FK]) (A7 (h++[zZ 1 [[.sl m 4 (vs.map encV)]]]) (zZ 4 [AU e]));have gr:=A7 (h++[zZ 1 [[.sl m 4 (vs.map encV)]]]++[zZ 4 [AU e]]) (zZ 4 [FK]);have hx:Sm.ext h (h++[zZ 1 [[.sl m 4 (vs.map encV)]]]++[zZ 4 [AU e]]++[zZ 4 [FK]]):=(((ext.rfl' h).app _).app _).app _;have e1:(h++[zZ 1 [[.sl m 4 (vs.map encV)]]]).length=h.length+1:=BA;have e2:(h++[zZ 1 [[.sl m 4 (vs.map encV)]]]++[zZ 4 [AU e]]).length=h.length+2:=BA;refine E8 @bxS @bxE O3 z4 ?_
 rw[e1] at ge|-
 rw[e2] at gr|-
 generalize h++[zZ 1 [[.sl m 4 (vs.map encV)]]]++[zZ 4 [AU e]]++[zZ 4 [FK]]=H1 at gs ge gr hx|-
 clear e1 e2;refine BC (ALZ ge) ?_;cases b24:(e.op==24)
 case true =>
  have ho:e.op=24:=BN b24;rw[if_pos ho] at hscl;refine DT b24 (isS.ld gs) (aY ge) ?_;refine(AN4 G vs m hl hv e.name U (VW hu (.inr ho)) H1).use ?_;refine BC (PH (e:=aF e.name (szA vs e.name-1)) gr rfl) ?_;rw[JO (b:=h.length+2) AQ (ND (CP gr))];exact⟨hx.set U _,by rw[hscl]; exact Q4 _ _ 1 _⟩
 have o24:¬e.op=24:=BN b24;rw[if_neg o24] at hscl;have lr:=AC gr;refine DT b24 (UR ge) (A2Z H1 e.args.length U) ?_;have ho:iE h ((e.args.map (IZ sdP vs)).take 0) (.own H1.length 0 0) (H1++[zZ 4 (zD e.args.length FK)]):=⟨H1.length,zD e.args.length FK,hx.le,rfl,BA⟩;have gs:=AL (x:=zZ 4 (zD e.args.length FK)) gs;have ge:=AL (x:=zZ 4 (zD e.args.length FK)) ge;have gr:=AL (x:=zZ 4 (zD e.args.length FK)) gr;have hx:=hx.app [zZ 4 (zD e.args.length FK)];have hb0:∀b,isB (.own H1.length 0 0) b->h.length+2<b:=fun b hb=>by cases hb; omega
 generalize H1++[zZ 4 (zD e.args.length FK)]=H2 at gs ge gr hx ho|-
 refine BC (UR ge) ?_;generalize AV.own H1.length 0 0=v0 at ho hb0;have hsl:(e.args.map (IZ sdP vs)).length=e.args.length:=jJ _;refine ET 0 (fun F H=>∃v,F 2=.ptr h.length 0 0∧F 3=.ptr (h.length+1) 0 0∧F 4=.ptr (h.length+2) 0 0∧F 5=v∧isS H h.length m vs∧H[h.length+1]?=some (zZ 4 [AU e])∧H[h.length+2]?=some (zZ 4 [FK])∧Sm.ext h H∧iE h (e.args.map (IZ sdP vs)) v H∧∀b,isB v b->h.length+2<b) (fun _ _=>False) ?_ ?_ (fun _ _ q=>q.elim)
 .refine BI (fun n F H=>∃j v,n+j=e.args.length∧F 2=.ptr h.length 0 0∧F 3=.ptr (h.length+1) 0 0∧F 4=.ptr (h.length+2) 0 0∧F 5=v∧F 20=.sl e.m 4 (e.args.map AU)∧F 21=.n (e.args.length:Nat)∧F 22=.n (j:Nat)∧isS H h.length m vs∧H[h.length+1]?=some (zZ 4 [AU e])∧H[h.length+2]?=some (zZ 4 [FK])∧Sm.ext h H∧iE h ((e.args.map (IZ sdP vs)).take j) v H∧∀b,isB v b->h.length+2<b) e.args.length
   ⟨0,v0,BA,AQ,AQ,AQ,AQ,AQ,AQ,AQ,gs,ge,gr,hx,ho,hb0⟩ ?_
  clear gs ge gr hx ho hb0;rintro n F H ⟨j,v,hj,f2,f3,f4,f5,f20,f21,f22,gs,ge,gr,hx,ho,hb0⟩;refine BB f21 f22 ?_;refine D8 ?_ ?_<;>intro hj'
  .have hmem:e.args[j]∈e.args:=List.getElem_mem hj'
   have ga:=A7 H (zZ 4 [AU e.args[j]]);have gs:=AL (x:=zZ 4 [AU e.args[j]]) gs;have ge:=AL (x:=zZ 4 [AU e.args[j]]) ge;have gr:=AL (x:=zZ 4 [AU e.args[j]]) gr;have hx:=hx.app [zZ 4 [AU e.args[j]]]
   have ho:iE h ((e.args.map (IZ sdP vs)).take j) v (H++[zZ 4 [AU e.args[j]]]):=by
    obtain⟨o,tail,q1,q2,q3⟩:=ho;exact⟨o,tail,q1,q2,AL q3⟩
   simp -implicitDefEqProofs only[vQ,CV,↓reduceIte,jB,enP,RN,jO,f20,f22,CQ hj',DR O5 JL EP hj',al79,st79]
   generalize H++[zZ 4 [AU e.args[j]]]=H3 at gs ge gr hx ga ho|-
   refine E8 f2 f5 (isS.ld gs) (JI ga) ?_;refine(ih e.args[j] hmem (hn.arg hmem) (QM hu hmem) (vS hn hu hsm hmem) H3).use ?_;obtain⟨v',H',a1,a2,a3,a4,a5⟩:=AAV ho hx (by rw[List.length_take]; omega) (IZ sdP vs e.args[j]);have hit:j<(e.args.map (IZ sdP vs)).length:=U;have hget:(e.args.map (IZ sdP vs))[j]=IZ sdP vs e.args[j]:=BA;rw[<-hget,<-jY hit] at a2;have lr3:=AC gr;refine E8 @dU a1 f22 (DF j) ?_;refine⟨n-1,U,j+1,v',U,AZ,AZ,AZ,AZ,AZ,AZ,AZ,a4 _ _ gs (fun q=>?_),a4 _ _ ge (fun q=>?_),a4 _ _ gr (fun q=>?_),a3,a2,fun b hb=>?_⟩
   .have:=hb0 _ q; omega
   .have:=hb0 _ q; omega
   .have:=hb0 _ q; omega
   .have:=a5 b hb; omega
  .rw[jI U] at ho
   refine AO ?_;exact⟨v,AZ,AZ,AZ,AZ,gs,ge,gr,hx,ho,hb0⟩
 clear gs ge gr hx ho hb0;rintro F H ⟨v,f2,f3,f4,f5,gs,ge,gr,hx,ho,hb0⟩;obtain⟨o,tail,q1,rfl,q3⟩:=ho;have hbo:=hb0 o rfl;refine BB f3 (ALZ ge) ?_;cases b3:(e.op==3)
 case true =>
  have o3:e.op=3:=BN b3;rw[if_pos o3] at hscl;obtain⟨b,hb⟩:=VI hn.self o3;have hm:b∈e.args:=by rw[hb]; simp
  have hargs:e.args.map (IZ sdP vs)=[IZ sdP vs b]:=by rw[hb]; rfl
  rw[hargs] at hscl q3;have hw:=AOL AHD (hn.arg hm) (QM hu hm) (vS hn hu hsm hm);obtain⟨c1,c2⟩:=eI (s:=sdP) (hn.arg hm) (QM hu hm);have hlen:(e.args.map (IZ sdP vs)).length=1:=by rw[hargs]; rfl
  rw[hlen] at f5;have ix0:JJ 4 H (.own o 0 1) (.n 0)=some (.ptr o 0 0):=H8 q3 (show 0<1 from Nat.one_pos)
  have ld0:BU jA H 79 (.ptr o 0 0)=some (.agg (AU (IZ sdP vs b))):=by
   rw[EH O5 JL q3 (row:=AU (IZ sdP vs b)) rfl (by rw[EP]; exact jF 4),List.drop_zero,jI (by rw[EP]; exact jF 4)]
  refine BC b3 ?_;refine DV A8 ?_;refine PG f2 f3 f4 f5 (isS.ld gs) (aY ge) ix0 ld0 ?_;refine⟨_,AC1 G vs m hl hv e.name U (IZ sdP vs b) U (fun q=>by rw[c2 (c1.1 q)]; exact c1.1 q) H,?_⟩;refine BB f4 (PH (e:=fH cpE e.name (IZ sdP vs b) (szA vs e.name)) gr rfl) ?_;rw[JO (b:=h.length+2) (EM f4) (ND (CP gr))];exact⟨hx.set U _,by rw[hscl]; exact Q4 _ _ 1 _⟩
 have o3:¬e.op=3:=BN b3;rw[if_neg o3] at hscl;generalize hys:e.args.map (IZ sdP vs)=ys at *;have ge2:=ge;rw[EW] at ge2;have hst:=A19 ge2 (o:=o) (k:=ys.length);have g1':(H.set (h.length+1) (zZ 4 [[.n e.op,.n e.n,.str e.name,.own o 0 ys.length]]))[h.length+1]?=some (zZ 4 [[.n e.op,.n e.n,.str e.name,.own o 0 ys.length]]):=CP ge2;have g2':(H.set (h.length+1) (zZ 4 [[.n e.op,.n e.n,.str e.name,.own o 0 ys.length]]))[h.length+2]?=some (zZ 4 [FK]):=by rw[zX U]; exact gr
 have q3':(H.set (h.length+1) (zZ 4 [[.n e.op,.n e.n,.str e.name,.own o 0 ys.length]]))[o]?=some (zZ 4 (ys.map AU++tail)):=by rw[zX U]; exact q3
 have hx':=hx.set (b:=h.length+1) U (zZ 4 [[.n e.op,.n e.n,.str e.name,.own o 0 ys.length]]);refine I7 b3 f3 f4 f5 hst ?_
 generalize H.set (h.length+1) (zZ 4 [[.n e.op,.n e.n,.str e.name,.own o 0 ys.length]])=H3 at g1' g2' q3' hx'|-
 have hlf4:([.n e.op,.n e.n,.str e.name,.own o 0 ys.length]:List AV).all AV.leaf=true:=rfl;refine E8 f3 f4 (KE g1' rfl) (TW g2' rfl rfl hlf4) ?_;rw[JO (b:=h.length+2) (EM f4) (KE (CP g2') rfl)];refine⟨hx'.set U _,?_⟩;have ho4:iE h ys (.own o 0 ys.length) (H3.set (h.length+2) (zZ 4 [[.n e.op,.n e.n,.str e.name,.own o 0 ys.length]])):=⟨o,tail,q1,rfl,by rw[zX U]; exact q3'⟩;have hz:=AAU ho4 1;show AV.agg [.n e.op,.n e.n,.str e.name,FN h.length _ 3 (.own o 0 ys.length)]=_;rw[hz,hscl,EW]; rfl
theorem A5A (h:Hp):GM jA h 233=some (.ptr h.length 0 0,h++[zZ 1 [[.sl .nil 0 []]]]):=FV (row:=[.sl .nil 0 []]) A8
theorem A41 (m:SM)(xs:List (List AV)):G7 jA 233 [(0,.sl m 4 xs)]=some (.agg [.sl m 4 xs]):=A8
theorem A2A (h:Hp)(m:SM)(vs:List Vr):DW jA (h++[zZ 1 [[.sl .nil 0 []]]]) 233 (.ptr h.length 0 0) (.agg [.sl m 4 (vs.map encV)])=some (h++[zZ 1 [[.sl m 4 (vs.map encV)]]]):=by
 rw[I9 (cs:=[.sl m 4 (vs.map encV)]) (row:=[.sl .nil 0 []]) rfl AXT (A7 _ _) (jF 1),KC]; rfl
theorem bdZ:G7 jA 79 []=some (.agg FK):=A8
theorem stZ (g:H[b]?=some (zZ 4 [FK])):DW jA H 79 (.ptr b 0 0) (.agg FK)=some (H.set b (zZ 4 [FK])):=TW g rfl rfl rfl
theorem oX {p:Pr}(hb:H[b]?=some (zZ 5 [DL p])):BU jA H 27 (.ptr b 0 0)=some (.agg (DL p)):=by rw[EH oA iA hb (row:=DL p) rfl (by rw[N9]; exact jF 5)]; rfl
theorem A2N {p:Pr}(P:PV p):∀v∈p.vars,IJ v.name=true:=fun v hv=>(WZ (P.vr v hv)).1
theorem AOM {s:Bw}(h:scC vs e=0):scV s vs e=.tup [.agg (AU (IZ s vs e)),.n 0]:=by unfold scV; rw[if_pos h,h]
theorem AEH {s:Bw}{z:Int}(h:scC vs e=z)(hz:z≠0):scV s vs e=.tup [.agg FK,.n z]:=by unfold scV; rw[if_neg (by rw[h]; exact hz),h]
theorem ATU (s:Bw)(vs:List Vr)(e:Ex)(n:Nat)(H:Hp):FN n H 4 (scV s vs e)=scV s vs e:=by
 unfold scV;split
 .show AV.tup [FN n H 3 (.agg (AU _)),.n _]=_
  rw[Q4 n H 0]
 .rfl
theorem ADX (hG:GOk G)(p:Pr)(hs:PrS p)(hv:NI p=0)(e:Ex)(he:exE e=0)(h:Hp):PCall (En G) 97 [.agg (DL p),.agg (AU e)] h (scV sdP p.vars e):=by
 have P:=PV.of hv;have hn:=NdOk.of he;have hvb:=A2N P;have hvl:=hs.vars;have hw:=mV he;refine ACalls.pure (R:=fun v H=>v=scV sdP p.vars e∧Sm.ext h H) 4 ?_ (fun v H ⟨a,b⟩=>⟨b,by rw[a]; exact ATU _ _ _ _ _⟩);refine acL Tryz.func97 [.cell 4 79,.tmp 5] ?_;have gp:=AL (x:=zZ 4 [FK]) (AL (x:=zZ 4 [AU e]) (A7 h (zZ 5 [DL p])));have ge:=AL (x:=zZ 4 [FK]) (A7 (h++[zZ 5 [DL p]]) (zZ 4 [AU e]));have gr:=A7 (h++[zZ 5 [DL p]]++[zZ 4 [AU e]]) (zZ 4 [FK]);have hx:Sm.ext h (h++[zZ 5 [DL p]]++[zZ 4 [AU e]]++[zZ 4 [FK]]):=(((ext.rfl' h).app _).app _).app _;have e1:(h++[zZ 5 [DL p]]).length=h.length+1:=BA;have e2:(h++[zZ 5 [DL p]]++[zZ 4 [AU e]]).length=h.length+2:=BA;refine E8 @YH @bxE O3 z4 ?_
 rw[e1] at ge|-
 rw[e2] at gr|-
 generalize h++[zZ 5 [DL p]]++[zZ 4 [AU e]]++[zZ 4 [FK]]=H1 at gp ge gr hx|-
 clear e1 e2;refine BC (oX gp) ?_;refine(Bd.valid_prog G hG p hs H1).use ?_;refine BB (show(NI p != 0)=false by rw[hv]; rfl) (JI ge) ?_;refine(N8 G hG e H1 U).use ?_;have lr:=AC gr;refine I7 (show(exE e != 0)=false by rw[he]; rfl) (ALA gp) A41 A5A A2A ?_;have gs:isS (H1++[zZ 1 [[.sl p.vm 4 (p.vars.map encV)]]]) H1.length p.vm p.vars:=A7 _ _;have ge:=AL (x:=zZ 1 [[.sl p.vm 4 (p.vars.map encV)]]) ge;have gr:=AL (x:=zZ 1 [[.sl p.vm 4 (p.vars.map encV)]]) gr;have hx:=hx.app [zZ 1 [[.sl p.vm 4 (p.vars.map encV)]]]
 generalize H1++[zZ 1 [[.sl p.vm 4 (p.vars.map encV)]]]=H2 at gs ge gr hx|-
 generalize H1.length=sb at gs lr|-
 have bad:∀(z:Int) (F:Fr),scC p.vars e=z->z≠0->F 4=.ptr (h.length+2) 0 0->F 5=.n z->LU jA [.cell 4 79,.tmp 5] (fun v H=>v=scV sdP p.vars e∧Sm.ext h H) .ret F (H2.set (h.length+2) (zZ 4 [FK])):=fun z F q1 q2 f4 f5=>by
  rw[SA (ba:=h.length+2) f4 (KE (CP gr) rfl),f5];exact⟨by rw[AEH q1 q2],hx.set U _⟩
 refine BB (isS.ld gs) (JI ge) ?_;refine(APT G p.vars p.vm hvl hvb e hn H2).use ?_;cases bu:QB p.vars e
 case true =>
  refine BB @bdZ (stZ gr) ?_;exact bad 7 _ (by unfold scC; rw[if_pos bu]) D5 FI FI
 have hc1:scC p.vars e=if 400<(IU p.vars e).1 then 2 else exE (IZ sdP p.vars e):=by unfold scC; rw[if_neg (by rw[bu]; decide)]
 refine BB (isS.ld gs) (JI ge) ?_;refine(ALY G p.vars p.vm hvl hvb e hn bu H2).use ?_;have fx:oC jA 235 (.agg (exR (IU p.vars e))) 0=some (.n ((IU p.vars e).1:Nat)):=A8;refine BB @ATF fx ?_;cases bx:decide ((((IU p.vars e).1:Nat):Int)>400)
 case true =>
  have q:=of_decide_eq_true bx;refine DT bx @bdZ (stZ gr) ?_;exact bad 2 _ (by rw[hc1,if_pos U]) D5 FI FI
 have q:=of_decide_eq_false bx;rw[if_neg U] at hc1;have hx400:(IU p.vars e).1<=400:=U;refine DT bx (isS.ld gs) (JI ge) ?_;refine(AK6 G p.vars p.vm hvl hvb e hn bu hx400 H2).use ?_;have hwo:=AOL AHD hn bu hx400;have go:=A7 H2 (zZ 4 [AU (IZ sdP p.vars e)]);have gr':=AL (x:=zZ 4 [AU (IZ sdP p.vars e)]) gr;have hx':=hx.app [zZ 4 [AU (IZ sdP p.vars e)]];refine BB al79 st79 ?_
 generalize H2++[zZ 4 [AU (IZ sdP p.vars e)]]=H3 at go gr' hx'|-
 refine BC (ND go) ?_;refine(N8 G hG (IZ sdP p.vars e) H3 U).use ?_;cases bz:(exE (IZ sdP p.vars e) != 0)
 case true =>
  have qz:exE (IZ sdP p.vars e)≠0:=BN bz;refine DT bz @bdZ (stZ gr') ?_;rw[SA (ba:=h.length+2) FI (KE (CP gr') rfl)];refine AO ?_;exact⟨by rw[AEH hc1 qz],hx'.set U _⟩
 have qz:exE (IZ sdP p.vars e)=0:=BN bz;simp -implicitDefEqProofs only[vQ,CV,↓reduceIte,jB,enP,jO,bz,ND go,PH gr' rfl];rw[SA (ba:=h.length+2) FI (ND (CP gr'))];refine AO ?_;exact⟨by rw[AOM (hc1.trans qz)],hx'.set U _⟩
end
theorem AY7 {a b a' b':List AV}(h1:CvRow a a')(h2:CvRow b b'):Cv (.sl .full 4 [a,b]) (.sl .full 4 [a',b']):=Cv.rows rfl fun i r r' p q=>by
 match i,p,q with
 | 0,p,q=>cases p; cases q; exact h1
 | 1,p,q=>cases p; cases q; exact h2
def R4 (r:List AV):Prop:=∃a n s m k xs,r=[.n a,.n n,.str s,.sl m k xs]
theorem R4.enc (e:Ex):R4 (AU e):=⟨_,_,_,_,_,_,EW e⟩
theorem R4.len (h:R4 r):r.length=4:=by obtain⟨_,_,_,_,_,_,rfl⟩:=h; rfl
theorem R4.leaf {r:List AV}(h:R4 r):r.all AV.leaf=true:=by obtain⟨_,_,_,_,_,_,rfl⟩:=h; rfl
theorem A7G (h:Hp){s:List AV}(hr:R4 r)(hs:R4 s):C9 jA false h 23 2 [(0,.agg r),(1,.agg s)]=some (.sl .full 4 [r,s],h):=by
 obtain⟨_,_,_,_,_,_,rfl⟩:=hr;obtain⟨_,_,_,_,_,_,rfl⟩:=hs
 kernel_rfl
abbrev isW (i:Ex)(k:Nat):List AV:=[.n 15,.n 0,.str ⟨#[]⟩,.sl .full 4 [AU i,WV 1 (k:Nat)]]
def chW (a:ByteArray)(i:Ex)(n:Nat):Nat->List AV
 | 0=>WV 1 0
 | j+1=>[.n 22,.n 0,.str ⟨#[]⟩,.sl .full 4 [isW i (n-1-j),AU (vaE a (n-1-j)),chW a i n j]]
theorem R4.is (i:Ex)(k:Nat):R4 (isW i k):=⟨_,_,_,_,_,_,rfl⟩
theorem R4.ch (a:ByteArray)(i:Ex)(n:Nat):∀j,R4 (chW a i n j)
 | 0=>⟨_,_,_,_,_,_,rfl⟩
 | _+1=>⟨_,_,_,_,_,_,rfl⟩
theorem AN9 (h:Hp)(hr:R4 r):DW jA (h++[zZ 4 [[.n 0,.n 0,.str ⟨#[]⟩,.sl .nil 0 []]]]) 79 (.ptr h.length 0 0) (.agg r)=some (h++[zZ 4 [r]]):=by
 rw[TW (A7 _ _) rfl hr.len hr.leaf,KC]
def csW (a:ByteArray)(i:Ex)(n:Nat):List AV:=if i.op=1 then (if i.n<(n:Int) then AU (vaE a i.n.toNat) else WV 1 0) else chW a i n n
theorem R4.cs (a:ByteArray)(i:Ex)(n:Nat):R4 (csW a i n):=by
 unfold csW;split
 .split
  .exact R4.enc _
  .exact⟨_,_,_,_,_,_,rfl⟩
 .exact R4.ch a i n n
end Go.Proofs.YtiihpnicbekebaaGreatDoor.Bd.Cl
namespace Go.Proofs.YtiihpnicbekebaaGreatDoor.Ho
open Sm Bins Cov Go.RowKit
variable {ins:Ex->List Rng->Ex} {m:Mo} {x:Hl}
def cI (l:List Ex):List AV:=[fzG 4 AU l]
theorem AIG:Frz cI:=fun _ _ _ l=>by cases l<;>exact⟨rfl,rfl⟩
theorem ARZ (h:Hp)(l:List Ex):C9 jA false h 100 1 [(0,fzG 4 AU l)]=some (.sl .full 1 [cI l],h):=by
 cases l with
 | nil=>show C9 jA false h 100 1 [(0,.sl .nil 0 [])]=some (.sl .full 1 [[.sl .nil 0 []]],h); kernel_rfl
 | cons x xs=>exact AJF h .any _
def cnW (ins:Ex->List Rng->Ex)(m:Mo)(x:Hl):AV:=.tup [if cnE ins m x=0 then .sl .any 1 ((cnL ins m x).map cI) else .sl .nil 0 [],.n (cnE ins m x)]
theorem A03 (ins:Ex->List Rng->Ex)(m:Mo)(x:Hl):CvR (cnW ins m x) (cnV ins m x):=by
 unfold cnW cnV;split
 .exact CvR.tup (CvRL.cons (CvR.sl (Cv.map fun l _=>AQJ l)) (CvRL.cons (CvR.refl _) CvRL.nil))
 .exact CvR.refl _
theorem AWA (h:LW m x=false):cnW ins m x=.tup [.sl .nil 0 [],.n 1]:=by
 have:cnE ins m x=1:=by unfold cnE; rw[if_neg (by rw[h]; decide)]
 unfold cnW;rw[this]; rfl
theorem AV9 (h:LW m x=true)(hc:(cnL ins m x).flatten.all (fun e=>exE e==0)=false):cnW ins m x=.tup [.sl .nil 0 [],.n 2]:=by
 have:cnE ins m x=2:=by unfold cnE; rw[if_pos h,if_neg (by rw[hc]; decide)]
 unfold cnW;rw[this]; rfl
theorem A02 (h:LW m x=true)(hc:(cnL ins m x).flatten.all (fun e=>exE e==0)=true):cnW ins m x=.tup [.sl .any 1 ((cnL ins m x).map cI),.n 0]:=by
 have:cnE ins m x=0:=by unfold cnE; rw[if_pos h,if_pos hc]
 unfold cnW;rw[this]; rfl
def PK (N:Nat)(cs:List (List (List Ex)))(t:Nat):List (List Ex):=(List.range t).map (rowA N cs)
theorem kX (N:Nat)(cs:List (List (List Ex)))(t:Nat):PK N cs (t+1)=PK N cs t++[rowA N cs t]:=by simp [PK,List.range_succ]
theorem rD (N:Nat)(cs:List (List (List Ex)))(t:Nat):(PK N cs t).length=t:=by simp [PK]
theorem AKF (N:Nat)(cs:List (List (List Ex))){t:Nat}(ht:t<N):∃rest,PK N cs N=PK N cs t++rowA N cs t::rest:=by
 have h1:PK N cs (t+1)=(PK N cs N).take (t+1):=by
  unfold PK;rw[<-List.map_take,List.take_range,Nat.min_eq_left U]
 refine⟨(PK N cs N).drop (t+1),?_⟩;have h2:=List.take_append_drop (t+1) (PK N cs N);rw[<-h1,kX,List.append_assoc] at h2;exact h2.symm
section
variable (G:Nat->AV)
theorem pS (m:Mo)(hm:MoOk m)(x:Hl)(hn:x.bins.length<=1048576)(h:Hp):PCall (En G) 51 [.agg (DJ m),.agg (FQ x)] h (cnV F7 m x):=by
 refine PCall.res ?_ (A03 F7 m x);refine ACalls.pure (R:=fun v H=>Sm.ext h H∧FN h.length H 3 v=cnW F7 m x) 3 ?_ (fun v H ⟨a,b⟩=>⟨a,b⟩);refine H6 (H:=hint [] [(80,[79])]) (enM G) Tryz.func51 rfl (by kernel_rfl) (by kernel_rfl) (Nat.le_of_ble_eq_true (by kernel_rfl)) ?_;show awp _ _ _ _ _ (LU _ [.tmp 4,.tmp 5] _);have t:=Hb.mk' h m x;refine BB @bxM @bxH ?_
 generalize h++[zZ 2 [DJ m]]++[zZ 3 [FQ x]]=H at t|-
 generalize (h++[zZ 2 [DJ m]]).length=hb at t|-
 refine BB (ldM t.gm) (ldH t.gh) ?_;refine(valid_ref G m hm x hn H).use ?_;cases hv:LW m x
 .refine AO ?_
  exact⟨t.hx,by rw[AWA hv]; rfl⟩
 have h0:=TT hv;have hL:=lD hv;obtain⟨s,hp⟩:=AKV G m hm x hv H;have hcl:cnL F7 m x=NE ((RY m x).map (cdQ F7 m)):=rfl;have hln:=hL.n4;have hl1:=hL.n1
 have hev:∀q∈RY m x,(∀r∈cdQ F7 m q,r.length<=2∧∀e∈r,WN e)∧1<=(cdQ F7 m q).length∧(cdQ F7 m q).length<=8:=fun q hq=>by
  obtain⟨a,b⟩:=hL.ok q hq;have hw:=(hm.pts _ (jH a)).ex;exact⟨nN h0 a b fun l hl=>⟨(AJP hw hl).1,(AJO (AJP hw hl)).1⟩,wZ h0 a b⟩
 generalize RY m x=L at hL hcl hln hl1 hev hp;have hcl4:(L.map (cdQ F7 m)).length<=4:=by rw[jJ]; exact hln
 have hcl1:1<=(L.map (cdQ F7 m)).length:=by rw[jJ]; exact hl1
 have hc8:∀c∈L.map (cdQ F7 m),1<=c.length∧c.length<=8:=fun c hc=>by
  obtain⟨q,hq,rfl⟩:=zQ.1 hc;exact(hev q hq).2
 have hc2:∀c∈L.map (cdQ F7 m),∀r∈c,r.length<=2:=fun c hc r hr=>by
  obtain⟨q,hq,rfl⟩:=zQ.1 hc;exact((hev q hq).1 r hr).1
 have hcw:∀c∈L.map (cdQ F7 m),∀r∈c,∀e∈r,WN e:=fun c hc r hr=>by
  obtain⟨q,hq,rfl⟩:=zQ.1 hc;exact((hev q hq).1 r hr).2
 generalize L.map (cdQ F7 m)=cs at hcl hcl4 hcl1 hc8 hc2 hcw hp;clear hev;have hN8:OX cs<=8:=V9 cs 0 _ (Nat.zero_le _) fun c hc=>(hc8 c hc).2
 have hN1:1<=OX cs:=by
  have hm0:cs[0]∈cs:=jH U;have:=lS hm0;have:=(hc8 _ hm0).1;omega
 refine BB (ldM t.gm) (ldH t.gh) ?_;refine hp.use ?_;clear hp;refine AO ?_;refine ET 0 (fun F H'=>F 6=.sl s 1 (cs.map NQ)∧F 7=.n (OX cs:Nat)∧H'=H) (fun _ _=>False) ?_ ?_ (fun _ _ q=>q.elim)
 .refine BI (fun n F H'=>∃i,n+i=cs.length∧F 6=.sl s 1 (cs.map NQ)∧F 7=.n (OX (cs.take i):Nat)∧F 8=.n (i:Nat)∧H'=H) cs.length
   ⟨0,BA,AQ,AQ,AQ,rfl⟩ ?_
  rintro n F H' ⟨i,hi,f6,f7,f8,rfl⟩;refine DT AHX f6 f8 ?_;refine D8 ?_ ?_<;>intro hi'
  .have hm:max ((OX (cs.take i):Nat):Int) ((cs[i].length:Nat):Int)=((OX (cs.take (i+1)):Nat):Int):=by rw[rW cs i hi']; omega
   simp -implicitDefEqProofs only[vQ,jR,jS,CV,xQ,lO,↓reduceIte,jB,enP,WM,ABJ,zY,L8,f6,f7,f8,CQ hi',CG ADQ hi',nA,jJ,hm,DF i];exact⟨n-1,U,i+1,U,AZ,AZ,AZ,AZ⟩
  .rw[jI U] at f7
   refine AO ?_;exact⟨AZ,AZ,AZ⟩
 rintro F H' ⟨f6,f7,rfl⟩;have hcr:cnL F7 m x=PK (OX cs) cs (OX cs):=hcl;clear hcl;have hlm:∀c∈cs,c.length<=OX cs:=fun c hc=>lS hc
 generalize OX cs=N at f7 hN8 hN1 hcr hlm;refine AO ?_
 refine BI (fun n F H=>∃k v,n+k=N∧F 6=.sl s 1 (cs.map NQ)∧F 7=.n (N:Nat)∧F 9=v∧F 10=.n (k:Nat)∧Sm.ext H' H∧outG 1 cI H' (PK N cs k) v H∧(PK N cs k).flatten.all (fun e=>exE e==0)=true) N
  ⟨0,.sl .nil 0 [],BA,EM f6,EM f7,AQ,AQ,ext.rfl' _,outG.nil _ _ _ _,rfl⟩ ?_
 clear f6 f7;rintro n F H1 ⟨k,v,hk,f6,f7,f9,f10,hx,ho,hok⟩;refine BB f7 f10 ?_;refine CE ?_ ?_<;>intro hc
 rotate_left
 .have hk':k=N:=by have:¬k<N:=BN hc
                   omega
  subst hk';refine BC f9 ?_;refine⟨t.hx.trans hx,?_⟩;rw[A02 hv (by rw[hcr]; exact hok)];have:=KP AIG (ho.base t.hx.le) h.length 0 (jF _);show AV.tup [FN h.length H1 2 v,_]=_;rw[this,hcr];have hne:PK k cs k≠[]:=by intro q; have:=congrArg List.length q; rw[rD,List.length_nil] at this; omega
  cases hq:PK k cs k with
  | nil=>exact absurd hq hne
  | cons a b=>rfl
 have hk':k<N:=BN hc;obtain⟨rest,hrest⟩:=AKF N cs hk';have hfail:(rowA N cs k).all (fun e=>exE e==0)=false->cnW F7 m x=.tup [.sl .nil 0 [],.n 2]:=fun q=>AV9 hv (by rw[hcr,hrest,List.flatten_append,List.all_append,hok,List.flatten_cons,List.all_append,q]; rfl)
 have hwr:∀e∈rowA N cs k,WN e:=fun e he=>by
  unfold rowA at he;obtain⟨c,hc,he⟩:=List.mem_flatMap.1 he;unfold V3 at he;split at he
  .cases hx:c[k-(N-c.length)]? with
   | none=>rw[hx] at he; cases he
   | some r0=>rw[hx] at he; exact hcw c hc r0 (List.mem_of_getElem? hx) e he
  .cases he
 refine AO ?_;refine ET 4 (fun F H=>∃u,F 6=.sl s 1 (cs.map NQ)∧F 7=.n (N:Nat)∧F 9=v∧F 10=.n (k:Nat)∧F 11=u∧Sm.ext H1 H∧outG 4 AU H1 (rowA N cs k) u H) (fun _ _=>False) ?_ ?_ (fun _ _ q=>q.elim)
 .refine BI (fun n F H=>∃i u,n+i=cs.length∧F 6=.sl s 1 (cs.map NQ)∧F 7=.n (N:Nat)∧F 9=v∧F 10=.n (k:Nat)∧F 11=u∧F 12=.n (i:Nat)∧Sm.ext H1 H∧outG 4 AU H1 (rowA N (cs.take i) k) u H) cs.length
   ⟨0,.sl .nil 0 [],BA,EM f6,EM f7,EM f9,EM f10,AQ,AQ,ext.rfl' _,outG.nil _ _ _ _⟩ ?_
  clear f6 f7 f9 f10;rintro n2 F H2 ⟨i,u,hi,f6,f7,f9,f10,f11,f12,hx2,hou⟩;refine DT AHX f6 f12 ?_;refine D8 ?_ ?_<;>intro hi'
  .have hcN:=hlm _ (jH hi')
   have hc8':=hc8 _ (jH hi');have hc2':=hc2 _ (jH hi');have hst:=rE N k cs i hi'
   have hlen1:(rowA N (cs.take i) k).length<=2*i:=by
    have:=XE (n:=N) (t:=k) (B:=2) (cs:=cs.take i) fun c hc=>hc2 c (List.mem_of_mem_take hc)
    rw[List.length_take,Nat.min_eq_left U] at this; exact this
   have hw1:IntKind.i64.wrap (((k:Nat):Int)-((N:Nat):Int))=(k:Int)-(N:Int):=wrap_i64 U U;have hw2:∀l:Nat,l<=8->IntKind.i64.wrap ((k:Int)-(N:Int)+((l:Nat):Int))=(k:Int)-(N:Int)+(l:Int):=fun l hl=>wrap_i64 U U
   simp -implicitDefEqProofs only[vQ,jR,jS,CV,OA,↓reduceIte,jB,enP,WM,ABJ,zY,L8,f6,f7,f10,f12,CQ hi',CG ADQ hi',nA,jJ,hw1,hw2 cs[i].length hc8'.2];refine TJ (fun F H=>∃u,F 6=.sl s 1 (cs.map NQ)∧F 7=.n (N:Nat)∧F 9=v∧F 10=.n (k:Nat)∧F 11=u∧F 12=.n (i:Nat)∧Sm.ext H1 H∧outG 4 AU H1 (rowA N (cs.take (i+1)) k) u H) (fun _ _=>False) (fun he=>?_) (fun he=>?_) ?_ (fun _ _ q=>q.elim)
   .have he':N-cs[i].length<=k:=by have:=of_decide_eq_true he; omega
    have hkk:(k:Int)-(N:Int)+((cs[i].length:Nat):Int)=((k-(N-cs[i].length):Nat):Int):=U;have hkl:k-(N-cs[i].length)<cs[i].length:=U
    have hrc:V3 N k cs[i]=cs[i][k-(N-cs[i].length)]:=by
     unfold V3;rw[if_pos he',List.getElem?_eq_getElem hkl]; rfl
    have hr2:=hc2' _ (jH hkl);obtain⟨u',H3,ha,ho2,_,he2,_,_⟩:=QE (P:=jA) .any hou SV JL ZG YG U (ys:=cs[i][k-(N-cs[i].length)]) U hx2;rw[<-hrc,<-hst] at ho2;refine bS ABJ f6 f11 f12 hkk hi' ADQ @nA hkl @AYF ha ?_;exact⟨u',AZ,AZ,AZ,AZ,AZ,AZ,he2,ho2⟩
   .have he':¬N-cs[i].length<=k:=by have:=of_decide_eq_false he; omega
    have hrc:V3 N k cs[i]=[]:=by unfold V3; rw[if_neg he']
    rw[hrc,lAn] at hst;refine AO ?_;exact⟨u,AZ,AZ,AZ,AZ,AZ,AZ,hx2,by rw[hst]; exact hou⟩
   clear f6 f7 f9 f10 f11 f12 hx2 hou;rintro F H2 ⟨u,f6,f7,f9,f10,f11,f12,hx2,hou⟩;refine BB f12 (DF i) ?_;exact⟨n2-1,U,i+1,u,U,AZ,AZ,AZ,AZ,AZ,AZ,hx2,hou⟩
  .rw[jI U] at hou
   refine AO ?_;exact⟨u,AZ,AZ,AZ,AZ,AZ,hx2,hou⟩
 clear f6 f7 f9 f10;rintro F H2 ⟨u,f6,f7,f9,f10,f11,hx2,hou⟩
 have hlenA:(rowA N cs k).length<=8:=by
  have:=XE (n:=N) (t:=k) (B:=2) (cs:=cs) hc2;omega
 have hdl:=hou.len AE8;have hrs:=kX N cs k;generalize rowA N cs k=A at hou hfail hwr hrest hlenA hdl hrs;refine AO ?_;refine ET 6 (fun F H=>F 6=.sl s 1 (cs.map NQ)∧F 7=.n (N:Nat)∧F 9=v∧F 10=.n (k:Nat)∧F 11=u∧H=H2∧A.all (fun e=>exE e==0)=true) (fun F H=>F 4=.sl .nil 0 []∧F 5=.n 2∧H=H2∧A.all (fun e=>exE e==0)=false) ?_ ?_ ?_
 .refine BI (fun n F H=>∃i,n+i=A.length∧F 6=.sl s 1 (cs.map NQ)∧F 7=.n (N:Nat)∧F 9=v∧F 10=.n (k:Nat)∧F 11=u∧F 14=.n (i:Nat)∧H=H2∧A.all (fun e=>exE e==0)=(A.drop i).all (fun e=>exE e==0)) A.length
   ⟨0,BA,EM f6,EM f7,EM f9,EM f10,EM f11,AQ,rfl,rfl⟩ ?_
  clear f6 f7 f9 f10 f11;rintro n2 F H3 ⟨i,hi,f6,f7,f9,f10,f11,f14,rfl,hq⟩;refine DT f11 f14 hdl ?_;refine D8 ?_ ?_<;>intro hi'
  .obtain⟨o,rfl,hob⟩:∃o,u=.own o 0 A.length∧H3[o]?=some (zZ 4 (A.map AU)):=by
    rcases hou with⟨e1,_⟩|⟨_,o,_,h2,h3⟩
    .rw[e1] at hi'; simp at hi'
    .exact⟨o,h2,h3⟩
   have ii:JJ 4 H3 (.own o 0 A.length) (.n (i:Nat))=some (.ptr o i 0):=by rw[H8 hob hi',Nat.zero_add]
   have dd:BU jA H3 79 (.ptr o i 0)=some (.agg (AU A[i])):=by
    rw[EH O5 JL hob (Cov.row_map hi') (by rw[EP]; exact jF 4),zI,<-EP A[i],List.take_length]
   rw[List.drop_eq_getElem_cons hi',List.all_cons] at hq;refine E8 f11 f14 ii dd ?_;refine(dJ G A[i] _ (hwr _ (jH hi'))).use ?_;simp -implicitDefEqProofs only[vQ,jR,jS,CV,↓reduceIte,enP,zY,L8,bne];cases hz:(exE A[i]==0)
   .rw[hz,Bool.false_and] at hq
    refine AO ?_;exact⟨AZ,AZ,AZ,hq⟩
   .rw[hz,Bool.true_and] at hq
    refine BB f14 (DF i) ?_;exact⟨n2-1,U,i+1,U,AZ,AZ,AZ,AZ,AZ,AZ,AZ,hq⟩
  .rw[List.drop_eq_nil_of_le U] at hq
   refine AO ?_;exact⟨AZ,AZ,AZ,AZ,AZ,AZ,hq⟩
 .clear f6 f7 f9 f10 f11
  rintro F H3 ⟨f6,f7,f9,f10,f11,rfl,hq⟩;have hok2:(PK N cs (k+1)).flatten.all (fun e=>exE e==0)=true:=by grind
  have hl1:(PK N cs k).length<8388608:=by rw[rD]; omega
  rcases hou with⟨e1,rfl⟩|⟨e1,o,e2,rfl,e3⟩
  .have hz:=AIE (H:=H3) (i:=79) (k:=0) (m:=.nil) (xs:=[])
   obtain⟨v',H4,ha,ho2,_,he2,_,_⟩:=(outG_ext ho hx2).append (P:=jA) kL kO pT nP U hl1 (hx.trans hx2) A;have ha':EG jA true H3 100 100 v (.sl .full 1 [cI A])=some (v',H4):=ha
   have hb:C9 jA false H3 100 1 [(0,.sl .nil 0 [])]=some (.sl .full 1 [cI A],H3):=by
    have:=ARZ H3 A
    rw[e1] at this|-
    exact this
   refine PG f9 f10 f11 @U4 hz hb ha' (DF k) ?_;exact⟨n-1,U,k+1,v',U,AZ,AZ,AZ,AZ,he2,by rw[hrs]; exact ho2,hok2⟩
  .have hz:=mE (i:=79) (off:=0) (len:=A.length) e3 BA (by rw[zI,jI BA]; exact PU A)
   rw[zI,jI BA] at hz;have hx4:=hx2.set e2 .dead;obtain⟨v',H4,ha,ho2,_,he2,_,_⟩:=(outG_ext ho hx4).append (P:=jA) kL kO pT nP U hl1 (hx.trans hx4) A;have ha':EG jA true (H3.set o .dead) 100 100 v (.sl .full 1 [cI A])=some (v',H4):=ha
   have hb:C9 jA false (H3.set o .dead) 100 1 [(0,.sl .any 4 (A.map AU))]=some (.sl .full 1 [cI A],H3.set o .dead):=by
    have:=ARZ (H3.set o .dead) A
    cases hA:A with
    | nil=>exact absurd hA e1
    | cons a b=>rw[hA] at this; exact this
   refine PG f9 f10 f11 @U4 hz hb ha' (DF k) ?_;exact⟨n-1,U,k+1,v',U,AZ,AZ,AZ,AZ,he2,by rw[hrs]; exact ho2,hok2⟩
 .rintro F H3 ⟨f4,f5,rfl,hq⟩
  refine BB f4 f5 ?_;exact⟨t.hx.trans (hx.trans hx2),by rw[hfail hq]; rfl⟩
end
end Go.Proofs.YtiihpnicbekebaaGreatDoor.Ho
