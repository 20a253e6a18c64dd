/- Part 6 of the proof (J4, J5, J6, S5, S6, J7, O37);no condition. -/
import Derived.Test.YtiihpnicbekebaaGreatDoorCR5
set_option linter.unusedVariables false
set_option linter.unusedSimpArgs false
set_option maxRecDepth 8000
set_option maxHeartbeats 8000000
open Go.Proofs.YtiihpnicbekebaaGreatDoor.Sm.ABlk renaming live→qG
open Bool renaming false_eq_true→zZ,not_false→jE
open Go.Proofs.Tryz renaming prog→jA
open Int renaming eq_ofNat_of_zero_le→wI,toNat_natCast→qM
open List renaming all_eq_true→zJ,append_nil→jM,contains_nil→jS,drop_zero→zI,foldl_cons→qU,getElem?_set_ne→zW,getElem_mem→jH,length_append→jW,length_cons→zF,length_drop→wV,length_map→jI,length_nil→zH,length_take→jR,map_append→qC,map_congr_left→wB,map_cons→jJ,map_map→qE,map_nil→jL,mem_cons→zO,mem_map→zQ,replicate→zK,take_of_length_le→jK,take_succ_eq_append_getElem→jV
open Nat renaming add_zero→jT,le_of_ble_eq_true→jB,le_refl→jF,reduceBEq→jU,reduceEqDiff→jC,zero_add→jG,zero_le→qF
open Option renaming getD_none→jQ,getD_some→jD
namespace Go.Proofs.YtiihpnicbekebaaGreatDoor.Bd.Cl
open Sm Bins Cov Xe Wd Bl Ho Go.RowKit
variable {vs:List Vr} {e:Ex}
def vaE (a:ByteArray)(k:Nat):Ex:=JV (elN a k)
def WE (a:ByteArray):Nat->Ex
 | 0=>vaE a 0
 | k+1=>.mk 7 0 ⟨#[]⟩ .full [WE a k,vaE a (k+1)]
def chK (c:Ex->Ex)(a:ByteArray)(i:Ex)(n:Nat):Nat->Ex
 | 0=>cE 0
 | j+1=>.mk 22 0 ⟨#[]⟩ .full [.mk 15 0 ⟨#[]⟩ .full [c i,cE ((n-1-j:Nat):Int)],vaE a (n-1-j),chK c a i n j]
def YD (c:Ex->Ex)(a:ByteArray)(i:Ex)(n:Nat):Ex:=if i.op=1 then (if i.n<(n:Int) then vaE a i.n.toNat else cE 0) else chK c a i n n
structure Bw where
 c:Ex->Ex
 md:List Ex->SM
def scF (s:Bw)(vs:List Vr)(op n:Int)(a:ByteArray)(l:List Ex):Ex :=
 if op=24 then WE a (szA vs a-1) else if op=3 then YD s.c a (l.head?.getD (cE 0)) (szA vs a) else .mk op n a (s.md l) l
mutual
def ET (s:Bw)(vs:List Vr):Ex->Ex
 | .mk c n b _ a=>scF s vs c n b (ACX s vs a)
def ACX (s:Bw)(vs:List Vr):List Ex->List Ex
 | []=>[]
 | e::es=>ET s vs e::ACX s vs es
end
theorem uK (s:Bw)(vs:List Vr):∀l:List Ex,ACX s vs l=l.map (ET s vs)
 | []=>by simp [ACX]
 | e::es=>by simp [ACX,uK s vs es]
theorem Q5 (s:Bw)(vs:List Vr)(e:Ex):ET s vs e=scF s vs e.op e.n e.name (e.args.map (ET s vs)):=by
 cases e;simp only[ET,uK];rfl
def sdP:Bw:=⟨cpE,fun _=>.any⟩
def sdR:Bw:=⟨id,fun l=>Cov.nm l⟩
theorem A43 (e:Ex):cpE (cpE e)=cpE e:=by
 induction e using Ex.induct with|h e ih=>?_
 rw[TA (cpE e),XD,ABE,VZ,YB,qE];have:e.args.map (cpE ∘ cpE)=e.args.map cpE:=wB fun a b=>ih a b
 rw[this,<-TA]
def Bw.Ok (s:Bw):Prop:=∀e,cpE (s.c e)=cpE e
theorem nO:sdP.Ok:=A43
theorem AHC:sdR.Ok:=fun _=>rfl
theorem AMB {op n:Int}{a:ByteArray}{m m':SM}{l l':List Ex}(h:l.map cpE=l'.map cpE):cpE (.mk op n a m l)=cpE (.mk op n a m' l'):=by
 rw[TA,TA (.mk op n a m' l')];show Ex.mk op n a (Cov.nm (l.map cpE)) (l.map cpE)=Ex.mk op n a (Cov.nm (l'.map cpE)) (l'.map cpE);rw[h]
theorem AI4 {s t:Bw}(d:s.Ok)(f:t.Ok){a:ByteArray}{i i':Ex}(b:cpE i=cpE i')(n:Nat):∀j,cpE (chK s.c a i n j)=cpE (chK t.c a i' n j)
 | 0=>rfl
 | j+1=>by
   have g:=AI4 d f b n j (a:=a);refine AMB ?_;simp only[jJ,jL,g];rw[AMB (op:=15) (m:=.full) (m':=.full) (l:=[s.c i,cE ((n-1-j:Nat):Int)]) (l':=[t.c i',cE ((n-1-j:Nat):Int)])];simp only[jJ,jL,d i,f i',b]
theorem AHG {s t:Bw}(i:s.Ok)(j:t.Ok)(vs:List Vr)(e:Ex):cpE (ET s vs e)=cpE (ET t vs e):=by
 induction e using Ex.induct with|h e ih=>?_
 rw[Q5,Q5 t];have c:(e.args.map (ET s vs)).map cpE=(e.args.map (ET t vs)).map cpE:=by simp_all
 unfold scF;split
 .rfl
 split
 .have b:cpE ((e.args.map (ET s vs)).head?.getD (cE 0))=cpE ((e.args.map (ET t vs)).head?.getD (cE 0)):=by
   cases g:e.args with
   | nil=>rfl
   | cons a k=>exact ih a (by rw[g];simp)
  generalize (e.args.map (ET s vs)).head?.getD (cE 0)=x at b|-
  generalize (e.args.map (ET t vs)).head?.getD (cE 0)=y at b|-
  have f:x.op=y.op:=by rw[<-XD x,b,XD]
  have d:x.n=y.n:=by rw[<-ABE x,b,ABE]
  unfold YD;rw[f,d];split
  .rfl
  .exact AI4 i j b _ _
 .exact AMB c
def Bw.Len (s:Bw):Prop:=∀e,(pre (s.c e)).length=(pre e).length/\(∀N,NmB N e->NmB N (s.c e))
theorem AKH:sdP.Len:=fun e=>⟨by show(pre (cpE e)).length=_;rw[hJ,List.length_map],fun N h=>AMO e h⟩
theorem AV0:sdR.Len:=fun e=>⟨rfl,fun N h=>h⟩
theorem XY (op n:Int)(a:ByteArray)(m:SM)(l:List Ex):(pre (.mk op n a m l)).length=1+(FT l).length:=by rw[pre_eq,List.length_cons];show _+1=1+(FT l).length;rw[Nat.add_comm];rfl
theorem oD:FT []=[]:=rfl
theorem QU (e:Ex)(l:List Ex):FT (e::l)=pre e++FT l:=rfl
theorem AJ5 (a:ByteArray)(k:Nat):(pre (vaE a k)).length=1:=rfl
theorem A2I (n:Int):(pre (cE n)).length=1:=rfl
theorem ACK (a:ByteArray):∀k,(pre (WE a k)).length=2*k+1
 | 0=>rfl
 | k+1=>by
   have b:=ACK a k;show(pre (.mk 7 0 ⟨#[]⟩ .full [WE a k,vaE a (k+1)])).length=_;rw[XY,QU,QU,oD,jW,jW,b,AJ5];simp;omega
theorem AMC {s:Bw}(b:s.Len)(a:ByteArray)(i:Ex)(n:Nat):∀j,(pre (chK s.c a i n j)).length=j*((pre i).length+4)+1
 | 0=>by rw[Nat.zero_mul];rfl
 | j+1=>by
   have d:=AMC b a i n j;show(pre (.mk 22 0 ⟨#[]⟩ .full [.mk 15 0 ⟨#[]⟩ .full [s.c i,cE ((n-1-j:Nat):Int)],vaE a (n-1-j),chK s.c a i n j])).length=_;rw[XY,QU,QU,QU,oD,jW,jW,jW,d,AJ5,XY,QU,QU,oD,jW,jW,A2I,(b i).1,Nat.add_mul];simp;omega
theorem AD4 (x:Nat):¬(0:Int)<=((x,-1):Nat×Int).2:=by show ¬(0:Int)<=-1;decide
theorem ALQ:∀(l:List (Nat×Int)) (s:Nat),s<=401->s<=l.foldl (fun s x=>min (s+x.1) 401) s
 | [],s,_=>jF s
 | x::l,s,h=>by
   have:=ALQ l (min (s+x.1) 401) U;rw[qU];omega
theorem AET:∀(l:List (Nat×Int)) (s:Nat),l.foldl (fun s x=>min (s+x.1) 401) s<=400->l.foldl (fun s x=>min (s+x.1) 401) s=(l.map Prod.fst).foldl (·+·) s/\∀x∈l,x.1<=400
 | [],s,_=>⟨rfl,fun x b=>by cases b⟩
 | x::l,s,h=>by
   rw[qU] at h|-
   have f:=ALQ l (min (s+x.1) 401) U;have e:min (s+x.1) 401=s+x.1:=U;obtain⟨c,d⟩:=AET l (min (s+x.1) 401) h;refine⟨by rw[c,e];rfl,fun y a=>?_⟩;rcases zO.1 a with rfl|a
   .omega
   .exact d y a
theorem ACJ {l:List (Nat×Int)}(h:WC l<=400):WC l=(l.map Prod.fst).foldl (·+·) 1/\∀x∈l,x.1<=400:=AET l 1 h
theorem uO:∀(l:List Ex) (z:Nat),z+(FT l).length=(l.map fun e=>(pre e).length).foldl (·+·) z
 | [],z=>rfl
 | e::l,z=>by
   rw[jJ,qU,<-uO l,QU,jW];omega
theorem ATK (a:ByteArray)(k:Nat):(elN a k).size=a.size+3:=by
 rw[yH,RJ,jW,yH];rfl
theorem mY {a:ByteArray}{k N:Nat}(h:a.size+3<=N):NmB N (vaE a k):=NmB.mk (by rw[ATK];exact h) fun x b=>by cases b
theorem AGV {a:ByteArray}{N:Nat}(h:a.size+3<=N):∀k,NmB N (WE a k)
 | 0=>mY h
 | k+1=>NmB.mk (qF _) fun x b=>by
   simp only[zO,List.not_mem_nil,or_false] at b;rcases b with rfl|rfl
   .exact AGV h k
   .exact mY h
theorem AMP {s:Bw}(f:s.Len){a:ByteArray}{i:Ex}{n N:Nat}(h:a.size+3<=N)(d:NmB N i):∀j,NmB N (chK s.c a i n j)
 | 0=>dM N 0
 | j+1=>NmB.mk (qF _) fun x b=>by
   simp only[zO,List.not_mem_nil,or_false] at b;rcases b with rfl|rfl|rfl
   .refine NmB.mk (qF _) fun x b=>?_
    simp only[zO,List.not_mem_nil,or_false] at b;rcases b with rfl|rfl
    .exact(f i).2 N d
    .exact dM N _
   .exact mY h
   .exact AMP f h d j
theorem AU5 {s:Bw}(d:s.Len){a:ByteArray}{i:Ex}{n N:Nat}(h:a.size+3<=N)(b:NmB N i):NmB N (YD s.c a i n):=by
 unfold YD;split
 .split
  .exact mY h
  .exact dM N 0
 .exact AMP d h b n
theorem A06 {s:Bw}(g:s.Len)(vs:List Vr)(e:Ex):NdOk e->NmB 22 (ET s vs e):=by
 induction e using Ex.induct with|h e ih=>?_
 intro b;have f:=b.name;rw[Q5];unfold scF;split
 .exact AGV U _
 split
 .refine AU5 g U ?_
  cases d:e.args with
  | nil=>exact dM _ _
  | cons a j=>exact ih a (by rw[d];simp) (b.arg (by rw[d];simp))
 .refine NmB.mk U fun x i=>?_
  obtain⟨a,c,rfl⟩:=zQ.1 i;exact ih a c (b.arg c)
theorem mQ {a:Ex}(g:NdOk e)(k:OC vs e=false)(h:(FU vs e).1<=400)(c:a∈e.args):(FU vs a).1<=400:=by
 rw[QJ] at h;unfold xtF at h;split at h
 .rename_i i;rw[fS g.self (.inl i)] at c;cases c
 split at h
 .rename_i i;rw[fS g.self (.inr (.inr i))] at c;cases c
 split at h
 .exact(ACJ h).2 _ (zQ.2 ⟨a,c,rfl⟩)
 .rename_i B p f
  have f:e.op=3:=BL f;obtain⟨b,j⟩:=RS g.self f;have l:=SK k (.inl f);rw[j] at c h;rw[List.mem_singleton.1 c];have d:UI ([b].map (FU vs))=FU vs b:=rfl;rw[d] at h;have one:0<=(FU vs b).2->(FU vs b).1<=400:=fun q=>by rw[ALZ q];decide
  split at h
  .exact one U
  split at h
  .exact one (by assumption)
  .have h:min (szA vs e.name*((FU vs b).1+4)+1) 401<=400:=h
   have A:1*((FU vs b).1+4)<=szA vs e.name*((FU vs b).1+4):=Nat.mul_le_mul l (jF _);omega
theorem aK {s:Bw}:NdOk e->OC vs e=false->((ET s vs e).op=1↔0<=(FU vs e).2)/\(0<=(FU vs e).2->(ET s vs e).n=(FU vs e).2):=by
 induction e using Ex.induct with|h e ih=>?_
 intro j C;rw[QJ,Q5];unfold xtF scF;by_cases o1:e.op=1
 .have:=(AHW j.self o1).1
  rw[if_pos o1,if_neg U,if_neg U];exact⟨⟨fun _=>this,fun _=>o1⟩,fun _=>rfl⟩
 rw[if_neg o1];by_cases o24:e.op=24
 .rw[if_pos o24,if_pos o24]
  have:∀k,(WE e.name k).op≠1:=fun k=>by
   cases k with
   | zero=>show(2:Int)≠1;decide
   | succ k=>show(7:Int)≠1;decide
  exact⟨⟨fun q=>absurd q (this _),fun q=>absurd q (AD4 _)⟩,fun q=>absurd q (AD4 _)⟩
 rw[if_neg o24,if_neg o24];by_cases o3:e.op=3
 .have A:¬e.op≠3:=fun q=>q o3
  rw[if_pos o3,if_neg A];obtain⟨b,B⟩:=RS j.self o3;have E:=SK C (.inl o3);have i:b∈e.args:=by rw[B];simp
  obtain⟨f,p⟩:=ih b i (j.arg i) (NT C i);rw[B];have a:UI ([b].map (FU vs))=FU vs b:=rfl;have g:(([b].map (ET s vs)).head?.getD (cE 0))=ET s vs b:=rfl;rw[a,g];unfold YD;generalize ET s vs b=x at f p;generalize FU vs b=y at f p;by_cases q:x.op=1
  .have d:=f.1 q
   have l:=p d;rw[if_pos q,l];by_cases q2:(szA vs e.name:Int)<=y.2
   .rw[if_pos q2,if_neg U]
    exact⟨⟨fun _=>Int.le_refl 0,fun _=>rfl⟩,fun _=>rfl⟩
   .rw[if_neg q2,if_pos d,if_pos U]
    exact⟨⟨fun q=>absurd q (by show(2:Int)≠1;decide),fun q=>absurd q (AD4 _)⟩,fun q=>absurd q (AD4 _)⟩
  .have d:¬0<=y.2:=fun h=>q (f.2 h)
   rw[if_neg q,if_neg U,if_neg d]
   have:∀k,0<k->(chK s.c e.name x (szA vs e.name) k).op≠1:=fun k hk=>by
    cases k with
    | zero=>omega
    | succ k=>show(22:Int)≠1;decide
   exact⟨⟨fun q=>absurd q (this _ U),fun q=>absurd q (AD4 _)⟩,fun q=>absurd q (AD4 _)⟩
 .rw[if_pos o3,if_neg o3]
  exact⟨⟨fun q=>absurd q o1,fun q=>absurd q (AD4 _)⟩,fun q=>absurd q (AD4 _)⟩
theorem AV4 {s:Bw}(I:s.Len)(vs:List Vr)(e:Ex):NdOk e->OC vs e=false->(FU vs e).1<=400->(pre (ET s vs e)).length=(FU vs e).1:=by
 induction e using Ex.induct with|h e ih=>?_
 intro g i c;have j:∀a∈e.args,(pre (ET s vs a)).length=(FU vs a).1:=fun a f=>ih a f (g.arg f) (NT i f) (mQ g i c f)
 rw[Q5]
 rw[QJ] at c|-
 unfold xtF at c|-
 unfold scF;by_cases o1:e.op=1
 .rw[if_pos o1,if_neg U,if_neg U,fS g.self (.inl o1)]
  rfl
 rw[if_neg o1] at c|-
 by_cases o24:e.op=24
 .have J:=SK i (.inr o24)
  rw[if_pos o24,if_pos o24,ACK];show 2*(szA vs e.name-1)+1=2*szA vs e.name-1;omega
 rw[if_neg o24] at c|-
 rw[if_neg o24];by_cases o3:e.op=3
 .have G:¬e.op≠3:=fun q=>q o3
  rw[if_neg G] at c|-
  rw[if_pos o3];obtain⟨b,H⟩:=RS g.self o3;have J:=SK i (.inl o3);have C:b∈e.args:=by rw[H];simp
  obtain⟨l,F⟩:=aK (s:=s) (g.arg C) (NT i C);have B:=j b C
  rw[H] at c|-
  have d:UI ([b].map (FU vs))=FU vs b:=rfl;have A:(([b].map (ET s vs)).head?.getD (cE 0))=ET s vs b:=rfl
  rw[d] at c|-
  rw[A];unfold YD;generalize ET s vs b=x at l F B;generalize FU vs b=y at l F B c;by_cases q:x.op=1
  .have k:=l.1 q
   have E:=F k;rw[if_pos q,E];by_cases q2:(szA vs e.name:Int)<=y.2
   .rw[if_pos q2,if_neg U];rfl
   .rw[if_neg q2,if_pos k,if_pos U];rfl
  .have k:¬0<=y.2:=fun h=>q (l.2 h)
   have p:¬(szA vs e.name:Int)<=y.2:=U
   rw[if_neg p,if_neg k] at c|-
   rw[if_neg q,AMC I,B];have c:min (szA vs e.name*(y.1+4)+1) 401<=400:=c;show szA vs e.name*(y.1+4)+1=min (szA vs e.name*(y.1+4)+1) 401;omega
 .rw[if_pos o3] at c|-
  rw[if_neg o3];have p:=(ACJ c).1;show(pre (.mk e.op e.n e.name (s.md (e.args.map (ET s vs))) (e.args.map (ET s vs)))).length=WC (e.args.map (FU vs));rw[p,XY,uO,qE,qE];congr 1;exact wB fun a f=>j a f
theorem AHF {s:Bw}(b:s.Len)(a:NdOk e)(f:OC vs e=false)(c:(FU vs e).1<=400):wt (ET s vs e)<=10000:=by
 have d:=AZI 22 (ET s vs e) (A06 b vs e a);rw[AV4 b vs e a f c] at d;have:(FU vs e).1*23<=400*23:=Nat.mul_le_mul_right _ c;omega
def scC (vs:List Vr)(e:Ex):Int:=if OC vs e=true then 7 else if 400<(FU vs e).1 then 2 else exE (ET sdP vs e)
theorem AL2 {a b:Ex}(h:cpE a=cpE b):exE a=exE b:=by rw[<-AA4 a,h,AA4]
theorem AV6 (vs:List Vr)(e:Ex):exE (ET sdR vs e)=exE (ET sdP vs e):=AL2 (AHG AHC nO vs e)
def scV (s:Bw)(vs:List Vr)(e:Ex):AV:=.tup [.agg (if scC vs e=0 then AQ (ET s vs e) else EQ),.n (scC vs e)]
end Go.Proofs.YtiihpnicbekebaaGreatDoor.Bd.Cl
namespace Go.Proofs.YtiihpnicbekebaaGreatDoor.Bd.Cl
open Sm Bins Cov Xe Wd Bl Ho Go.RowKit
variable {H:Hp} {b:Nat} {r:List AV}
theorem AP5 (n:ByteArray):CvR (.agg (MW n)) (.agg (AQ (JV n))):=by
 rw[FK];exact CvR.agg (CvRL.cons (CvR.refl _) (CvRL.cons (CvR.refl _) (CvRL.cons (CvR.refl _) (CvRL.cons (CvR.sl (Cv.nil 0 4)) CvRL.nil))))
theorem AUI (op:Int)(m:SM)(xs:List (List AV)):JC jA 79 [(0,.n op),(3,.sl m 4 xs)]=some (.agg [.n op,.n 0,.str ⟨#[]⟩,.sl m 4 xs]):=BC
theorem pV (op:Int)(m:SM)(l:List Ex):AQ (.mk op 0 ⟨#[]⟩ m l)=[.n op,.n 0,.str ⟨#[]⟩,.sl m 4 (l.map AQ)]:=FK _
theorem bs3 (h:Hp)(a b c:Ex):DJ jA false h 23 3 [(0,.agg (AQ a)),(1,.agg (AQ b)),(2,.agg (AQ c))]=some (.sl .full 4 [AQ a,AQ b,AQ c],h):=by
 rw[FK a,FK b,FK c];exact(BC:DJ jA false h 23 3 [(0,.agg [.n a.op,.n a.n,.str a.name,.sl a.m 4 (a.args.map AQ)]),(1,.agg [.n b.op,.n b.n,.str b.name,.sl b.m 4 (b.args.map AQ)]),(2,.agg [.n c.op,.n c.n,.str c.name,.sl c.m 4 (c.args.map AQ)])]=_)
theorem z4:([AV.int .i64 0,.n 0,.str ⟨#[]⟩,.sl .nil 0 []]:List AV)=EQ:=rfl
section
variable (G:Nat->AV)
theorem TF (a:ByteArray)(k:Nat)(hk:k<9)(e:a.size<=1048576)(h:Hp):PCall (En G) 302 [.str a,.n (k:Nat)] h (.agg (AQ (vaE a k))):=by
 refine PCall.res ?_ (AP5 (elN a k));refine SE 3 (fun n H=>rfl) ?_;refine acL Tryz.func302 [.cell 4 79] ?_;have c:=AZ h (qG 4 [EQ]);have d:=Sm.ext.r1 h (qG 4 [EQ]);refine A7 NY z4 ?_
 generalize h++[qG 4 [EQ]]=H1 at c d|-
 refine(qS G a k hk H1 e).use ?_;have f:=OW (cs:=MW (elN a k)) c rfl rfl rfl;refine A7 @APE f ?_;rw[IM (b:=h.length) AO (G5 (CJ c) rfl)];exact⟨rfl,d.set (jF _) _⟩
theorem ZH (n:Int)(h:Hp):PCall (En G) 304 [.n n] h (.agg (AQ (cE n))):=by
 refine PCall.res ?_ (XE n);refine SE 3 (fun n H=>rfl) ?_;refine acL Tryz.func304 [.cell 2 79] ?_;have a:=AZ h (qG 4 [EQ]);have c:=OW (cs:=SB 1 n) a rfl rfl rfl;refine EG NY @rS z4 c ?_;rw[IM (b:=h.length) AO (G5 (CJ a) rfl)];exact⟨rfl,((ext.rfl' h).app _).set (jF _) _⟩
theorem iA (op:Int)(m:SM)(l:List Ex)(h:Hp):PCall (En G) 303 [.n op,.sl m 4 (l.map AQ)] h (.agg (AQ (.mk op 0 ⟨#[]⟩ m l))):=by
 refine SE 3 (fun n H=>PG n H 0 _) ?_;refine acL Tryz.func303 [.cell 4 79] ?_;have a:=AZ h (qG 4 [EQ]);have c:=OX (e:=.mk op 0 ⟨#[]⟩ m l) a rfl;rw[pV] at c;refine EG NY @AUI z4 c ?_;rw[<-pV];rw[IM (b:=h.length) AO (LX (CJ a))];exact⟨rfl,((ext.rfl' h).app _).set (jF _) _⟩
theorem AFT:∀(w:Nat) (e:Ex) (h:Hp),wt e<=w->wt e<=1048576->PCall (En G) 305 [.agg (AQ e)] h (.agg (AQ (cpE e))):=by
 intro w
 induction w with
 | zero=>intro e h h1 _;have:=N7 e;omega
 | succ w ih =>
   intro e h h1 h2;have Y:=XQ e.args;have a1:=N7 e;refine PCall.res (r:=.agg (cpW e)) ?_ (ATS e);refine ACalls.pure (R:=fun v H=>Sm.ext h H/\FH h.length H 4 v=.agg (cpW e)) 4 ?_ (fun v H ⟨a,b⟩=>⟨a,b⟩);refine acL Tryz.func305 [.cell 2 79] ?_;have L:=AU (x:=qG 4 [[.n 0,.n 0,.str ⟨#[]⟩,.sl .nil 0 []]]) (AZ h (qG 4 [AQ e]));have E:=AZ (h++[qG 4 [AQ e]]) (qG 4 [[.n 0,.n 0,.str ⟨#[]⟩,.sl .nil 0 []]]);have T:Sm.ext h (h++[qG 4 [AQ e]]++[qG 4 [[.n 0,.n 0,.str ⟨#[]⟩,.sl .nil 0 []]]]):=((ext.rfl' h).app _).app _;have N:h.length<(h++[qG 4 [AQ e]]).length:=BA;refine A7 @bxE NY ?_
   generalize h++[qG 4 [AQ e]]++[qG 4 [[.n 0,.n 0,.str ⟨#[]⟩,.sl .nil 0 []]]]=H0 at L E T|-
   generalize (h++[qG 4 [AQ e]]).length=b2 at E N|-
   have l2:=AX E;refine AY (Rk.ldE' L) ?_
   refine BB (fun n F H=>∃k u,n+k=e.args.length/\F 1=.ptr h.length 0 0/\F 2=.ptr b2 0 0/\F 3=u/\F 7=.sl e.m 4 (e.args.map AQ)/\F 8=.n (e.args.length:Nat)/\F 9=.n (k:Nat)/\Sm.ext H0 H/\outG 4 AQ H0 ((e.args.take k).map cpE) u H) e.args.length
    ⟨0,.sl .nil 0 [],BA,AO,AO,AO,AO,AO,AO,ext.rfl' _,outG.nil _ _ _ _⟩ ?_
   rintro n F H ⟨k,u,hk,V,I,X,f7,f8,J,i,p⟩;refine A7 f8 J ?_;refine DX ?_ ?_<;>intro d
   .have a0:=Rk.wt_arg d
    have j:=i.app [qG 4 [AQ e.args[k]]];have q:=p.app [qG 4 [AQ e.args[k]]];have gT:=ldE H e.args[k];simp only[vQ,CQ,↓reduceIte,jC,enP,PU,jQ,f7,J,CP d,DL NI GZ EC d,NY,gQ _ _ [.n 0,.n 0,.str ⟨#[]⟩,.sl .nil 0 []] rfl,gT]
    generalize H++[qG 4 [AQ e.args[k]]]=H1 at j q|-
    refine(ih e.args[k] H1 U U).use ?_;have hbs:=QX H1 (cpE e.args[k]);obtain⟨v',H2,ha,A,_,O,_,_⟩:=q.append NJ GZ QA P9 U NZ j (cpE e.args[k]);have Z:(e.args.take k).map cpE++[cpE e.args[k]]=(e.args.take (k+1)).map cpE:=by rw[jV d,qC];rfl
    rw[Z] at A;refine H7 X hbs ha J (C9 k) ?_;exact⟨n-1,U,k+1,v',U,AC,AC,AC,AC,AC,AC,O,A⟩
   .rw[jK U] at p
    have c:=DW i L;have K:=DW i E;have hle:=i.le;have P:=p.leaf;have M:h.length<H0.length:=U
    have S:D8 jA H 23 (.ptr h.length 0 3) u=some (H.set h.length (qG 4 [[.n e.op,.n e.n,.str e.name,u]])):=by
     rw[FK] at c;rcases p with⟨_,rfl⟩|⟨_,o,_,rfl,_⟩
     .rw[JU (cs:=[.sl .nil 0 []]) rfl (BC:szO jA 23=some 1) c BA];rfl
     .rw[JU (cs:=[.own o 0 _]) rfl (BC:szO jA 23=some 1) c BA];rfl
    have g:(H.set h.length (qG 4 [[.n e.op,.n e.n,.str e.name,u]]))[h.length]?=some (qG 4 [[.n e.op,.n e.n,.str e.name,u]]):=CJ c;have f:(H.set h.length (qG 4 [[.n e.op,.n e.n,.str e.name,u]]))[b2]?=_:=DF K U;have B:outG 4 AQ H0 (e.args.map cpE) u (H.set h.length (qG 4 [[.n e.op,.n e.n,.str e.name,u]])):=p.setB M _;have C:Sm.ext h (H.set h.length (qG 4 [[.n e.op,.n e.n,.str e.name,u]])):=(T.trans i).set (jF _) _;refine EG V I X S ?_
    generalize H.set h.length (qG 4 [[.n e.op,.n e.n,.str e.name,u]])=H3 at g f B C|-
    have l:([.n e.op,.n e.n,.str e.name,u]:List AV).all AV.leaf=true:=by simp [P];exact⟨rfl,rfl,rfl⟩
    refine EG V I (G5 g rfl) (OW f rfl rfl l) ?_;rw[IM (b:=b2) (D7 I) (G5 (CJ f) rfl)];refine⟨C.set U _,?_⟩;have Q:=B.setB (b:=b2) l2 (qG 4 [[.n e.op,.n e.n,.str e.name,u]]);have hz:=LP frzEx Q h.length 1 (by have:=T.le;omega);show AV.agg [.n e.op,.n e.n,.str e.name,FH h.length _ 3 u]=.agg (cpW e);rw[hz];rfl
theorem AQJ (c:List Vr)(m:SM)(J:c.length<=1048576)(L:∀v∈c,F7 v.name=true)(a:ByteArray)(A:a.size<=1048576)(O:1<=szA c a)(h:Hp):PCall (En G) 255 [.agg [.sl m 4 (c.map encV)],.str a] h (.agg (AQ (WE a (szA c a-1)))):=by
 have K:=gJ c a;refine ACalls.pure (R:=fun v H=>v=.agg (AQ (WE a (szA c a-1)))/\Sm.ext h H) 3 ?_ (fun v H ⟨a,b⟩=>⟨b,by rw[a];exact PG _ _ 0 _⟩);refine acL Tryz.func255 [.cell 4 79] ?_;have i:isS (h++[qG 1 [[.sl m 4 (c.map encV)]]]++[qG 4 [EQ]]) h.length m c:=AU (AZ _ _);have d:=AZ (h++[qG 1 [[.sl m 4 (c.map encV)]]]) (qG 4 [EQ]);have g:Sm.ext h (h++[qG 1 [[.sl m 4 (c.map encV)]]]++[qG 4 [EQ]]):=((ext.rfl' h).app _).app _;have E:(h++[qG 1 [[.sl m 4 (c.map encV)]]]).length=h.length+1:=BA;refine DC @bxS NY z4 ?_
 rw[E] at d|-
 generalize h++[qG 1 [[.sl m 4 (c.map encV)]]]++[qG 4 [EQ]]=H1 at i d g|-
 refine(TF G a 0 U A H1).use ?_;have i:=AU (x:=qG 4 [AQ (vaE a 0)]) i;have M:=AX d;have d:=AU (x:=qG 4 [AQ (vaE a 0)]) d;have f:=AZ H1 (qG 4 [AQ (vaE a 0)]);have g:=g.app [qG 4 [AQ (vaE a 0)]];refine A7 al79 st79 ?_
 generalize H1++[qG 4 [AQ (vaE a 0)]]=H2 at i d f g|-
 generalize H1.length=ob at f M|-
 refine EK 0 (fun F H=>F 4=.ptr (h.length+1) 0 0/\F 5=.ptr ob 0 0/\H[h.length+1]?=some (qG 4 [EQ])/\H[ob]?=some (qG 4 [AQ (WE a (szA c a-1))])/\Sm.ext h H) (fun _ _=>False) ?_ ?_ (fun _ _ q=>q.elim)
 .refine BB (fun n F H=>∃k,n+(k+1)=szA c a/\F 1=.str a/\F 2=.ptr h.length 0 0/\F 4=.ptr (h.length+1) 0 0/\F 5=.ptr ob 0 0/\F 6=.n ((k+1:Nat):Int)/\isS H h.length m c/\H[h.length+1]?=some (qG 4 [EQ])/\H[ob]?=some (qG 4 [AQ (WE a k)])/\Sm.ext h H) (szA c a-1)
   ⟨0,U,EZ,EZ,EZ,EZ,EZ,i,d,f,g⟩ ?_
  clear i d f g;rintro n F H ⟨k,hk,B,I,p,j,l,i,d,f,g⟩;refine EG B I l (isS.ld i) ?_;refine(size_prog G c m J L a A H).use ?_;refine AY l ?_;refine DX ?_ ?_<;>intro N
  .have C:=OX (e:=WE a (k+1)) f (EC _)
   refine AB ?_;refine DR BC ?_;refine EG B j l (LX f) ?_;refine⟨_,TF G a (k+1) U A H,?_⟩;refine AY @ZY ?_;refine⟨_,iA G 7 .full [WE a k,vaE a (k+1)] H,?_⟩;change D8 jA H 79 (.ptr ob 0 0) (.agg (AQ (.mk 7 0 ⟨#[]⟩ .full [WE a k,vaE a (k+1)])))=_ at C;refine EG j C l (C9 (k+1)) ?_;exact⟨n-1,U,k+1,U,AC,AC,AC,AC,AC,by unfold isS;rw[zW U];exact i,by rw[zW U];exact d,CJ f,g.set U _⟩
  .have e:szA c a-1=k:=U
   refine AB ?_;exact⟨AC,AC,d,by rw[e];exact f,g⟩
 rintro F H ⟨p,j,d,f,g⟩;simp only[vQ,VF,CQ,↓reduceIte,jC,enP,jQ,p,j,LX f,OX d rfl];rw[IM (b:=h.length+1) (UD p) (LX (CJ d))];exact⟨rfl,g.set U _⟩
end
theorem A3A {op n:Int}{s:ByteArray}{m:SM}{l:List (List AV)}(g:H[b]?=some (qG 4 [[.n op,.n n,.str s,.sl m 4 l]])){o k:Nat}:
  D8 jA H 23 (.ptr b 0 3) (.own o 0 k)=some (H.set b (qG 4 [[.n op,.n n,.str s,.own o 0 k]])):=by
 rw[JU (cs:=[.own o 0 k]) rfl (BC:szO jA 23=some 1) g BA];rfl
section
variable (G:Nat->AV)
theorem AFX (c:List Vr)(m:SM)(Y:c.length<=1048576)(hv:∀v∈c,F7 v.name=true)(a:ByteArray)(M:a.size<=1048576)(i:Ex)(hw:wt i<=1048576)(X:i.op=1->0<=i.n)(h:Hp):PCall (En G) 256 [.agg [.sl m 4 (c.map encV)],.str a,.agg (AQ i)] h (.agg (AQ (YD cpE a i (szA c a)))):=by
 have Z:=gJ c a;refine ACalls.pure (R:=fun v H=>v=.agg (AQ (YD cpE a i (szA c a)))/\Sm.ext h H) 3 ?_ (fun v H ⟨a,b⟩=>⟨b,by rw[a];exact PG _ _ 0 _⟩);refine acL Tryz.func256 [.cell 6 79] ?_;have B:isS (h++[qG 1 [[.sl m 4 (c.map encV)]]]++[qG 4 [AQ i]]++[qG 4 [EQ]]) h.length m c:=AU (AU (AZ _ _));have g:=AU (x:=qG 4 [EQ]) (AZ (h++[qG 1 [[.sl m 4 (c.map encV)]]]) (qG 4 [AQ i]));have d:=AZ (h++[qG 1 [[.sl m 4 (c.map encV)]]]++[qG 4 [AQ i]]) (qG 4 [EQ]);have l:Sm.ext h (h++[qG 1 [[.sl m 4 (c.map encV)]]]++[qG 4 [AQ i]]++[qG 4 [EQ]]):=(((ext.rfl' h).app _).app _).app _;have O:(h++[qG 1 [[.sl m 4 (c.map encV)]]]).length=h.length+1:=BA;have P:(h++[qG 1 [[.sl m 4 (c.map encV)]]]++[qG 4 [AQ i]]).length=h.length+2:=BA;refine EG @bxS @bxE NY z4 ?_
 rw[O] at g|-
 rw[P] at d|-
 generalize h++[qG 1 [[.sl m 4 (c.map encV)]]]++[qG 4 [AQ i]]++[qG 4 [EQ]]=H1 at B g d l|-
 clear O P;refine AY (isS.ld B) ?_;refine(size_prog G c m Y hv a M H1).use ?_;refine AY (W9 g) ?_;cases J:(i.op==1)
 case true =>
  have N:i.op=1:=BL J;have V:=X N;refine A7 J (exN g) ?_;cases K:decide (i.n<((szA c a:Nat):Int))
  .have q:=of_decide_eq_false K
   refine AY K ?_;refine(ZH G 0 H1).use ?_;refine AY (OX (e:=cE 0) d rfl) ?_;rw[IM (b:=h.length+2) EZ (LX (CJ d))];exact⟨by unfold YD;rw[if_pos N,if_neg q],l.set U _⟩
  .have q:=of_decide_eq_true K
   obtain⟨k,hk⟩:=wI V;have I:=TF G a k U M H1;rw[<-hk] at I;refine A7 K (exN g) ?_;refine I.use ?_;refine AY (OX (e:=vaE a k) d rfl) ?_;rw[IM (b:=h.length+2) EZ (LX (CJ d))];exact⟨by unfold YD;rw[if_pos N,if_pos q,hk,qM],l.set U _⟩
 have o1:¬i.op=1:=BL J;refine AY J ?_;refine(ZH G 0 H1).use ?_;have B:=AU (x:=qG 4 [AQ (cE 0)]) B;have g:=AU (x:=qG 4 [AQ (cE 0)]) g;have lr:=AX d;have d:=AU (x:=qG 4 [AQ (cE 0)]) d;have f:=AZ H1 (qG 4 [AQ (cE 0)]);have l:=l.app [qG 4 [AQ (cE 0)]];have w1:IntKind.i64.wrap (((szA c a:Nat):Int)-1)=((szA c a:Nat):Int)-1:=wrap_i64 U U;refine DC al79 st79 w1 ?_
 generalize H1++[qG 4 [AQ (cE 0)]]=H2 at B g d f l|-
 generalize H1.length=ob at f lr|-
 refine EK 0 (fun F H=>F 6=.ptr (h.length+2) 0 0/\F 8=.ptr ob 0 0/\H[h.length+2]?=some (qG 4 [EQ])/\H[ob]?=some (qG 4 [AQ (chK cpE a i (szA c a) (szA c a))])/\Sm.ext h H) (fun _ _=>False) ?_ ?_ (fun _ _ q=>q.elim)
 .refine BB (fun n F H=>∃j,n+j=szA c a/\F 1=.str a/\F 5=.ptr (h.length+1) 0 0/\F 6=.ptr (h.length+2) 0 0/\F 8=.ptr ob 0 0/\F 9=.n (((szA c a:Nat):Int)-1-(j:Nat))/\H[h.length+1]?=some (qG 4 [AQ i])/\H[h.length+2]?=some (qG 4 [EQ])/\H[ob]?=some (qG 4 [AQ (chK cpE a i (szA c a) j)])/\Sm.ext h H) (szA c a)
   ⟨0,U,EZ,EZ,EZ,EZ,by simp only[A8,↓reduceIte];simp,g,d,f,l⟩ ?_
  clear B g d f l;rintro n F H ⟨j,hj,C,T,L,p,A,g,d,f,l⟩;refine AY A ?_;refine BH ?_ ?_<;>intro E
  .have E:j<szA c a:=by have:=of_decide_eq_true E;omega
   have S:((szA c a:Nat):Int)-1-(j:Nat)=((szA c a-1-j:Nat):Int):=U;have w2:IntKind.i64.wrap (((szA c a-1-j:Nat):Int)-1)=((szA c a:Nat):Int)-1-((j+1:Nat):Int):=by rw[wrap_i64 U U];omega
   rw[S] at A;have Q:=OX (e:=chK cpE a i (szA c a) (j+1)) f (EC _);refine AB ?_;refine DR BC ?_;refine KO C T p A (IC g) (LX f) ?_;refine⟨_,AFT G (wt i) i H (jF _) hw,?_⟩
   try refine EG C p A (LX f) ?_
   refine⟨_,ZH G _ H,?_⟩
   try refine H7 @ZY C p A (LX f) ?_
   refine⟨_,iA G 15 .full [cpE i,cE ((szA c a-1-j:Nat):Int)] H,?_⟩
   try refine EG C p A (LX f) ?_
   refine⟨_,TF G a (szA c a-1-j) U M H,?_⟩
   try refine H7 bs3 C p A (LX f) ?_
   refine⟨_,iA G 22 .full [.mk 15 0 ⟨#[]⟩ .full [cpE i,cE ((szA c a-1-j:Nat):Int)],vaE a (szA c a-1-j),chK cpE a i (szA c a) j] H,?_⟩;change D8 jA H 79 (.ptr ob 0 0) (.agg (AQ (.mk 22 0 ⟨#[]⟩ .full [.mk 15 0 ⟨#[]⟩ .full [cpE i,cE ((szA c a-1-j:Nat):Int)],vaE a (szA c a-1-j),chK cpE a i (szA c a) j])))=_ at Q;refine EG p Q A w2 ?_;exact⟨n-1,U,j+1,U,AC,AC,AC,AC,AC,by rw[zW U];exact g,by rw[zW U];exact d,CJ f,l.set U _⟩
  .have E:¬j<szA c a:=fun q=>by rw[decide_eq_true U] at E;cases E
   have e:j=szA c a:=U;rw[e] at f;refine AB ?_;exact⟨AC,AC,d,f,l⟩
 rintro F H ⟨L,p,d,f,l⟩;simp only[vQ,VF,CQ,↓reduceIte,jC,enP,jQ,L,p,LX f,OX d rfl];rw[IM (b:=h.length+2) (UD L) (LX (CJ d))];exact⟨by unfold YD;rw[if_neg o1],l.set U _⟩
theorem AN3 (c:List Vr)(m:SM)(hl:c.length<=1048576)(hv:∀v∈c,F7 v.name=true)(e:Ex):NdOk e->OC c e=false->(FU c e).1<=400->∀h:Hp,PCall (En G) 177 [.agg [.sl m 4 (c.map encV)],.agg (AQ e)] h (.agg (AQ (ET sdP c e))):=by
 induction e using Ex.induct with|h e ih=>?_
 intro J P a0 h;have af:=J.name;have ad:=J.len;refine ACalls.pure (R:=fun v H=>Sm.ext h H/\FH h.length H 4 v=.agg (AQ (ET sdP c e))) 4 ?_ (fun v H ⟨a,b⟩=>⟨a,b⟩);refine acL Tryz.func177 [.cell 4 79] ?_;have d:=Q5 sdP c e;unfold scF at d;have p:isS (h++[qG 1 [[.sl m 4 (c.map encV)]]]++[qG 4 [AQ e]]++[qG 4 [EQ]]) h.length m c:=AU (AU (AZ _ _));have g:=AU (x:=qG 4 [EQ]) (AZ (h++[qG 1 [[.sl m 4 (c.map encV)]]]) (qG 4 [AQ e]));have i:=AZ (h++[qG 1 [[.sl m 4 (c.map encV)]]]++[qG 4 [AQ e]]) (qG 4 [EQ]);have l:Sm.ext h (h++[qG 1 [[.sl m 4 (c.map encV)]]]++[qG 4 [AQ e]]++[qG 4 [EQ]]):=(((ext.rfl' h).app _).app _).app _;have e1:(h++[qG 1 [[.sl m 4 (c.map encV)]]]).length=h.length+1:=BA;have e2:(h++[qG 1 [[.sl m 4 (c.map encV)]]]++[qG 4 [AQ e]]).length=h.length+2:=BA;refine EG @bxS @bxE NY z4 ?_
 rw[e1] at g|-
 rw[e2] at i|-
 generalize h++[qG 1 [[.sl m 4 (c.map encV)]]]++[qG 4 [AQ e]]++[qG 4 [EQ]]=H1 at p g i l|-
 clear e1 e2;refine AY (W9 g) ?_;cases I:(e.op==24)
 case true =>
  have A:e.op=24:=BL I;rw[if_pos A] at d;refine DC I (isS.ld p) (OO g) ?_;refine(AQJ G c m hl hv e.name U (SK P (.inr A)) H1).use ?_;refine AY (OX (e:=WE e.name (szA c e.name-1)) i rfl) ?_;rw[IM (b:=h.length+2) AO (LX (CJ i))];exact⟨l.set U _,by rw[d];exact PG _ _ 1 _⟩
 have ac:¬e.op=24:=BL I;rw[if_neg ac] at d;have lr:=AX i;refine DC I (OQ g) (A3X H1 e.args.length U) ?_;have A:lU h ((e.args.map (ET sdP c)).take 0) (.own H1.length 0 0) (H1++[qG 4 (zK e.args.length EQ)]):=⟨H1.length,zK e.args.length EQ,l.le,rfl,BA⟩;have p:=AU (x:=qG 4 (zK e.args.length EQ)) p;have g:=AU (x:=qG 4 (zK e.args.length EQ)) g;have i:=AU (x:=qG 4 (zK e.args.length EQ)) i;have l:=l.app [qG 4 (zK e.args.length EQ)];have f:∀b,isB (.own H1.length 0 0) b->h.length+2<b:=fun b O=>by cases O;omega
 generalize H1++[qG 4 (zK e.args.length EQ)]=H2 at p g i l A|-
 refine AY (OQ g) ?_;generalize AV.own H1.length 0 0=v0 at A f;have ag:(e.args.map (ET sdP c)).length=e.args.length:=jI _;refine EK 0 (fun F H=>∃v,F 2=.ptr h.length 0 0/\F 3=.ptr (h.length+1) 0 0/\F 4=.ptr (h.length+2) 0 0/\F 5=v/\isS H h.length m c/\H[h.length+1]?=some (qG 4 [AQ e])/\H[h.length+2]?=some (qG 4 [EQ])/\Sm.ext h H/\lU h (e.args.map (ET sdP c)) v H/\∀b,isB v b->h.length+2<b) (fun _ _=>False) ?_ ?_ (fun _ _ q=>q.elim)
 .refine BB (fun n F H=>∃j v,n+j=e.args.length/\F 2=.ptr h.length 0 0/\F 3=.ptr (h.length+1) 0 0/\F 4=.ptr (h.length+2) 0 0/\F 5=v/\F 20=.sl e.m 4 (e.args.map AQ)/\F 21=.n (e.args.length:Nat)/\F 22=.n (j:Nat)/\isS H h.length m c/\H[h.length+1]?=some (qG 4 [AQ e])/\H[h.length+2]?=some (qG 4 [EQ])/\Sm.ext h H/\lU h ((e.args.map (ET sdP c)).take j) v H/\∀b,isB v b->h.length+2<b) e.args.length
   ⟨0,v0,BA,AO,AO,AO,AO,AO,AO,AO,p,g,i,l,A,f⟩ ?_
  clear p g i l A f;rintro n F H ⟨j,v,hj,f2,S,K,T,f20,f21,f22,p,g,i,l,A,f⟩;refine A7 f21 f22 ?_;refine DX ?_ ?_<;>intro N
  .have B:e.args[j]∈e.args:=jH N
   have ga:=AZ H (qG 4 [AQ e.args[j]]);have p:=AU (x:=qG 4 [AQ e.args[j]]) p;have g:=AU (x:=qG 4 [AQ e.args[j]]) g;have i:=AU (x:=qG 4 [AQ e.args[j]]) i;have l:=l.app [qG 4 [AQ e.args[j]]]
   have A:lU h ((e.args.map (ET sdP c)).take j) v (H++[qG 4 [AQ e.args[j]]]):=by
    obtain⟨o,C,q1,q2,Q⟩:=A;exact⟨o,C,q1,q2,AU Q⟩
   simp only[vQ,CQ,↓reduceIte,jC,enP,PU,jQ,f20,f22,CP N,DL NI GZ EC N,al79,st79]
   generalize H++[qG 4 [AQ e.args[j]]]=H3 at p g i l ga A|-
   refine EG f2 T (isS.ld p) (IC ga) ?_;refine(ih e.args[j] B (J.arg B) (NT P B) (mQ J P a0 B) H3).use ?_;obtain⟨v',H',a1,a2,a3,a4,a5⟩:=ADS A l (by rw[jR];omega) (ET sdP c e.args[j]);have hit:j<(e.args.map (ET sdP c)).length:=U;have X:(e.args.map (ET sdP c))[j]=ET sdP c e.args[j]:=BA;rw[<-X,<-jV hit] at a2;have ai:=AX i;refine EG @QX a1 f22 (C9 j) ?_;refine⟨n-1,U,j+1,v',U,AC,AC,AC,AC,AC,AC,AC,a4 _ _ p (fun q=>?_),a4 _ _ g (fun q=>?_),a4 _ _ i (fun q=>?_),a3,a2,fun b O=>?_⟩
   .have:=f _ q;omega
   .have:=f _ q;omega
   .have:=f _ q;omega
   .have:=a5 b O;omega
  .rw[jK U] at A
   refine AB ?_;exact⟨v,AC,AC,AC,AC,p,g,i,l,A,f⟩
 clear p g i l A f;rintro F H ⟨v,f2,S,K,T,p,g,i,l,A,f⟩;obtain⟨o,C,q1,rfl,Q⟩:=A;have ae:=f o rfl;refine A7 S (W9 g) ?_;cases b3:(e.op==3)
 case true =>
  have o3:e.op=3:=BL b3;rw[if_pos o3] at d;obtain⟨b,O⟩:=RS J.self o3;have hm:b∈e.args:=by rw[O];simp
  have E:e.args.map (ET sdP c)=[ET sdP c b]:=by rw[O];rfl
  rw[E] at d Q;have hw:=AHF AKH (J.arg hm) (NT P hm) (mQ J P a0 hm);obtain⟨c1,c2⟩:=aK (s:=sdP) (J.arg hm) (NT P hm);have Y:(e.args.map (ET sdP c)).length=1:=by rw[E];rfl
  rw[Y] at T;have aa:JD 4 H (.own o 0 1) (.n 0)=some (.ptr o 0 0):=GN Q (show 0<1 from Nat.one_pos)
  have ab:BO jA H 79 (.ptr o 0 0)=some (.agg (AQ (ET sdP c b))):=by
   rw[EN NI GZ Q (row:=AQ (ET sdP c b)) rfl (by rw[EC];exact jF 4),zI,jK (by rw[EC];exact jF 4)]
  refine AY b3 ?_;refine DR BC ?_;refine OZ f2 S K T (isS.ld p) (OO g) aa ab ?_;refine⟨_,AFX G c m hl hv e.name U (ET sdP c b) U (fun q=>by rw[c2 (c1.1 q)];exact c1.1 q) H,?_⟩;refine A7 K (OX (e:=YD cpE e.name (ET sdP c b) (szA c e.name)) i rfl) ?_;rw[IM (b:=h.length+2) (D7 K) (LX (CJ i))];exact⟨l.set U _,by rw[d];exact PG _ _ 1 _⟩
 have o3:¬e.op=3:=BL b3;rw[if_neg o3] at d;generalize ah:e.args.map (ET sdP c)=ys at *;have M:=g;rw[FK] at M;have a9:=A3A M (o:=o) (k:=ys.length);have V:(H.set (h.length+1) (qG 4 [[.n e.op,.n e.n,.str e.name,.own o 0 ys.length]]))[h.length+1]?=some (qG 4 [[.n e.op,.n e.n,.str e.name,.own o 0 ys.length]]):=CJ M;have L:(H.set (h.length+1) (qG 4 [[.n e.op,.n e.n,.str e.name,.own o 0 ys.length]]))[h.length+2]?=some (qG 4 [EQ]):=by rw[zW U];exact i
 have a7:(H.set (h.length+1) (qG 4 [[.n e.op,.n e.n,.str e.name,.own o 0 ys.length]]))[o]?=some (qG 4 (ys.map AQ++C)):=by rw[zW U];exact Q
 have a6:=l.set (b:=h.length+1) U (qG 4 [[.n e.op,.n e.n,.str e.name,.own o 0 ys.length]]);refine H7 b3 S K T a9 ?_
 generalize H.set (h.length+1) (qG 4 [[.n e.op,.n e.n,.str e.name,.own o 0 ys.length]])=H3 at V L a7 a6|-
 have Z:([.n e.op,.n e.n,.str e.name,.own o 0 ys.length]:List AV).all AV.leaf=true:=rfl;refine EG S K (G5 V rfl) (OW L rfl rfl Z) ?_;rw[IM (b:=h.length+2) (D7 K) (G5 (CJ L) rfl)];refine⟨a6.set U _,?_⟩;have a8:lU h ys (.own o 0 ys.length) (H3.set (h.length+2) (qG 4 [[.n e.op,.n e.n,.str e.name,.own o 0 ys.length]])):=⟨o,C,q1,rfl,by rw[zW U];exact a7⟩;have hz:=ADR a8 1;show AV.agg [.n e.op,.n e.n,.str e.name,FH h.length _ 3 (.own o 0 ys.length)]=_;rw[hz,d,FK];rfl
theorem A54 (h:Hp):IG jA h 233=some (.ptr h.length 0 0,h++[qG 1 [[.sl .nil 0 []]]]):=F9 (row:=[.sl .nil 0 []]) BC
theorem A5V (m:SM)(xs:List (List AV)):JC jA 233 [(0,.sl m 4 xs)]=some (.agg [.sl m 4 xs]):=BC
theorem A3B (h:Hp)(m:SM)(a:List Vr):D8 jA (h++[qG 1 [[.sl .nil 0 []]]]) 233 (.ptr h.length 0 0) (.agg [.sl m 4 (a.map encV)])=some (h++[qG 1 [[.sl m 4 (a.map encV)]]]):=by
 rw[JU (cs:=[.sl m 4 (a.map encV)]) (row:=[.sl .nil 0 []]) rfl AZO (AZ _ _) (jF 1),KI];rfl
theorem bdZ:JC jA 79 []=some (.agg EQ):=BC
theorem stZ (g:H[b]?=some (qG 4 [EQ])):D8 jA H 79 (.ptr b 0 0) (.agg EQ)=some (H.set b (qG 4 [EQ])):=OW g rfl rfl rfl
theorem TR {p:Pr}(a:H[b]?=some (qG 5 [CW p])):BO jA H 27 (.ptr b 0 0)=some (.agg (CW p)):=by rw[EN fU cH a (row:=CW p) rfl (by rw[MG];exact jF 5)];rfl
theorem AZT {p:Pr}(P:PV p):∀v∈p.vars,F7 v.name=true:=fun v a=>(U2 (P.vr v a)).1
theorem yQ {s:Bw}{a:List Vr}{e:Ex}(h:scC a e=0):scV s a e=.tup [.agg (AQ (ET s a e)),.n 0]:=by unfold scV;rw[if_pos h,h]
theorem gS {s:Bw}{a:List Vr}{e:Ex}{z:Int}(h:scC a e=z)(c:z≠0):scV s a e=.tup [.agg EQ,.n z]:=by unfold scV;rw[if_neg (by rw[h];exact c),h]
theorem AKI (s:Bw)(a:List Vr)(e:Ex)(n:Nat)(H:Hp):FH n H 4 (scV s a e)=scV s a e:=by
 unfold scV;split
 .show AV.tup [FH n H 3 (.agg (AQ _)),.n _]=_
  rw[PG n H 0]
 .rfl
theorem AGT (M:GOk G)(p:Pr)(T:PrS p)(V:JS p=0)(e:Ex)(N:exE e=0)(h:Hp):PCall (En G) 97 [.agg (CW p),.agg (AQ e)] h (scV sdP p.vars e):=by
 have P:=PV.of V;have J:=NdOk.of N;have j:=AZT P;have k:=T.vars;have hw:=AIO N;refine ACalls.pure (R:=fun v H=>v=scV sdP p.vars e/\Sm.ext h H) 4 ?_ (fun v H ⟨a,b⟩=>⟨b,by rw[a];exact AKI _ _ _ _ _⟩);refine acL Tryz.func97 [.cell 4 79,.tmp 5] ?_;have L:=AU (x:=qG 4 [EQ]) (AU (x:=qG 4 [AQ e]) (AZ h (qG 5 [CW p])));have g:=AU (x:=qG 4 [EQ]) (AZ (h++[qG 5 [CW p]]) (qG 4 [AQ e]));have f:=AZ (h++[qG 5 [CW p]]++[qG 4 [AQ e]]) (qG 4 [EQ]);have A:Sm.ext h (h++[qG 5 [CW p]]++[qG 4 [AQ e]]++[qG 4 [EQ]]):=(((ext.rfl' h).app _).app _).app _;have Q:(h++[qG 5 [CW p]]).length=h.length+1:=BA;have S:(h++[qG 5 [CW p]]++[qG 4 [AQ e]]).length=h.length+2:=BA;refine EG @PZ @bxE NY z4 ?_
 rw[Q] at g|-
 rw[S] at f|-
 generalize h++[qG 5 [CW p]]++[qG 4 [AQ e]]++[qG 4 [EQ]]=H1 at L g f A|-
 clear Q S;refine AY (TR L) ?_;refine(Bd.valid_prog G M p T H1).use ?_;refine A7 (show(JS p != 0)=false by rw[V];rfl) (IC g) ?_;refine(PY G M e H1 U).use ?_;have lr:=AX f;refine H7 (show(exE e != 0)=false by rw[N];rfl) (YU L) A5V A54 A3B ?_;have C:isS (H1++[qG 1 [[.sl p.vm 4 (p.vars.map encV)]]]) H1.length p.vm p.vars:=AZ _ _;have g:=AU (x:=qG 1 [[.sl p.vm 4 (p.vars.map encV)]]) g;have f:=AU (x:=qG 1 [[.sl p.vm 4 (p.vars.map encV)]]) f;have A:=A.app [qG 1 [[.sl p.vm 4 (p.vars.map encV)]]]
 generalize H1++[qG 1 [[.sl p.vm 4 (p.vars.map encV)]]]=H2 at C g f A|-
 generalize H1.length=sb at C lr|-
 have bad:∀(z:Int) (F:Fr),scC p.vars e=z->z≠0->F 4=.ptr (h.length+2) 0 0->F 5=.n z->ML jA [.cell 4 79,.tmp 5] (fun v H=>v=scV sdP p.vars e/\Sm.ext h H) .ret F (H2.set (h.length+2) (qG 4 [EQ])):=fun z F q1 q2 X Y=>by
  rw[bC (ba:=h.length+2) X (G5 (CJ f) rfl),Y];exact⟨by rw[gS q1 q2],A.set U _⟩
 refine A7 (isS.ld C) (IC g) ?_;refine(AR9 G p.vars p.vm k j e J H2).use ?_;cases B:OC p.vars e
 case true =>
  refine A7 @bdZ (stZ f) ?_;exact bad 7 _ (by unfold scC;rw[if_pos B]) DU EZ EZ
 have i:scC p.vars e=if 400<(FU p.vars e).1 then 2 else exE (ET sdP p.vars e):=by unfold scC;rw[if_neg (by rw[B];decide)]
 refine A7 (isS.ld C) (IC g) ?_;refine(AOR G p.vars p.vm k j e J B H2).use ?_;have Z:sG jA 235 (.agg (exR (FU p.vars e))) 0=some (.n ((FU p.vars e).1:Nat)):=BC;refine A7 @AVL Z ?_;cases E:decide ((((FU p.vars e).1:Nat):Int)>400)
 case true =>
  have q:=of_decide_eq_true E;refine DC E @bdZ (stZ f) ?_;exact bad 2 _ (by rw[i,if_pos U]) DU EZ EZ
 have q:=of_decide_eq_false E;rw[if_neg U] at i;have d:(FU p.vars e).1<=400:=U;refine DC E (isS.ld C) (IC g) ?_;refine(AN3 G p.vars p.vm k j e J B d H2).use ?_;have a0:=AHF AKH J B d;have K:=AZ H2 (qG 4 [AQ (ET sdP p.vars e)]);have c:=AU (x:=qG 4 [AQ (ET sdP p.vars e)]) f;have l:=A.app [qG 4 [AQ (ET sdP p.vars e)]];refine A7 al79 st79 ?_
 generalize H2++[qG 4 [AQ (ET sdP p.vars e)]]=H3 at K c l|-
 refine AY (LX K) ?_;refine(PY G M (ET sdP p.vars e) H3 U).use ?_;cases I:(exE (ET sdP p.vars e) != 0)
 case true =>
  have O:exE (ET sdP p.vars e)≠0:=BL I;refine DC I @bdZ (stZ c) ?_;rw[bC (ba:=h.length+2) EZ (G5 (CJ c) rfl)];refine AB ?_;exact⟨by rw[gS i O],l.set U _⟩
 have O:exE (ET sdP p.vars e)=0:=BL I;simp only[vQ,CQ,↓reduceIte,jC,enP,jQ,I,LX K,OX c rfl];rw[bC (ba:=h.length+2) EZ (LX (CJ c))];refine AB ?_;exact⟨by rw[yQ (i.trans O)],l.set U _⟩
end
theorem AAI (nm:ByteArray)(l:List Rng):CvRow (ivW nm l) (AQ (IU (JV nm) l)):=by
 rw[oV,<-ASD,qE];exact CvRow.cons rfl (Cv.refl _) (CvRow.cons rfl (Cv.refl _) (CvRow.cons rfl (Cv.refl _) (CvRow.cons rfl (Cv.map fun x _=>AEB x) CvRow.nil)))
def sumW (nm:ByteArray)(R:List Rng):Nat->List AV
 | 0=>ivW nm (Ho.part R 0)
 | k+1=>[.n 20,.n 0,.str ⟨#[]⟩,.sl .full 4 [sumW nm R k,ivW nm (Ho.part R (k+1))]]
theorem dZ (nm:ByteArray)(R:List Rng)(k:Nat):(sumW nm R k).length=4:=by cases k<;>rfl
theorem uH (nm:ByteArray)(R:List Rng)(k:Nat):(sumW nm R k).all AV.leaf=true:=by cases k<;>rfl
theorem yF {a b c d:List AV}(e:CvRow a c)(h2:CvRow b d):Cv (.sl .full 4 [a,b]) (.sl .full 4 [c,d]):=Cv.rows rfl fun i r f p q=>by
 match i,p,q with
 | 0,p,q=>cases p;cases q;exact e
 | 1,p,q=>cases p;cases q;exact h2
theorem AKB (nm:ByteArray)(R:List Rng):∀k,CvRow (sumW nm R k) (AQ (O1 (JV nm) R k))
 | 0=>AAI nm _
 | k+1=>by
   show CvRow _ (AQ (orE _ _));rw[eI];exact CvRow.cons rfl (Cv.refl _) (CvRow.cons rfl (Cv.refl _) (CvRow.cons rfl (Cv.refl _) (CvRow.cons rfl (yF (AKB nm R k) (AAI nm _)) CvRow.nil)))
theorem AQL (nm:ByteArray)(R:List Rng)(k:Nat):CvR (.agg (sumW nm R k)) (.agg (AQ (O1 (JV nm) R k))):=by
 cases k with
 | zero=>exact ASC nm _
 | succ k =>
   show CvR _ (.agg (AQ (orE _ _)));rw[eI];exact CvR.agg (CvRL.cons (CvR.refl _) (CvRL.cons (CvR.refl _) (CvRL.cons (CvR.refl _) (CvRL.cons (CvR.sl (yF (AKB nm R k) (AAI nm _))) CvRL.nil))))
theorem AQK (nm:ByteArray)(R:List Rng)(k n:Nat)(H:Hp):FH n H 3 (.agg (sumW nm R k))=.agg (sumW nm R k):=by cases k<;>rfl
theorem AXB (nm:ByteArray)(l:List Rng):KN ((ivL nm l).map YJ)=true:=by
 unfold KN;rw[zJ];intro row a;obtain⟨x,_,rfl⟩:=List.mem_map.1 a
 cases x with
 | inl n=>rfl
 | inr e=>show(AQ e).all AV.frozen=true;rw[FK];rfl
theorem AEV:∀R:List Rng,(cY R).map cE=cEs R
 | []=>rfl
 | r::R=>by
   show([r.lo,r.hi]++cY R).map cE=_;rw[qC,AEV R,UC];rfl
theorem AF2:∀(R:List Rng) (k:Nat),(cEs R).drop (2*k)=cEs (R.drop k)
 | R,0=>BA
 | [],k+1=>by simp [cEs]
 | r::R,k+1=>by
   rw[UC,show 2*(k+1)=2*k+1+1 by omega,List.drop_succ_cons,List.drop_succ_cons,AF2 R k];rfl
theorem xC:∀(R:List Rng) (k:Nat),(cEs R).take (2*k)=cEs (R.take k)
 | R,0=>by simp [cEs]
 | [],k+1=>by simp [cEs]
 | r::R,k+1=>by
   rw[UC,show 2*(k+1)=2*k+1+1 by omega,List.take_succ_cons,List.take_succ_cons,xC R k];rfl
theorem ATX (R:List Rng)(k n:Nat)(h:n=min (32*k+32) (2*R.length)-32*k):((cEs R).drop (32*k)).take n=cEs (Ho.part R k):=by
 have a:32*k=2*(16*k):=U;unfold Ho.part;rw[a,AF2,<-xC,List.take_eq_take_iff,V3,wV];omega
theorem ARA {P:Program}{t e:TypeId}{k:Nat}(g:P.underlying t=some (.slice e))(f:szO P e=some k){h:Hp}{kk:IntKind}{off len l u:Nat}{xs:List (List AV)}(d:h[b]?=some (qG k xs))(i:l<=u)(h2:u<=len):
  IP P h t (.own b off len) (some (.int kk (l:Int))) (some (.int kk (u:Int))) none=some (.own b (off+l) (u-l)):=by
 have a:GU (some (.int kk (l:Int))) (some 0)=some l:=by simp [GU]
 have c:GU (some (.int kk (u:Int))) (some len)=some u:=by simp [GU]
 simp only[IP,g,a,c,f,d,true_and];rw[if_pos U]
section
variable (G:Nat->AV)
theorem KU (n:Int)(h:Hp):PCall (En G) 207 [.n n] h (.agg (AQ (cE n))):=by
 refine PCall.res ?_ (XE n);refine SE 3 (fun n H=>rfl) ?_;refine acL Tryz.func207 [.cell 2 79] ?_;have a:=AZ h (qG 4 [EQ]);have c:=OW (cs:=SB 1 n) a rfl rfl rfl;refine A7 NY @rS ?_;rw[show([AV.int .i64 0,.n 0,.str ⟨#[]⟩,.sl .nil 0 []]:List AV)=EQ from rfl];refine AY c ?_;rw[IM (b:=h.length) AO (G5 (CJ a) rfl)];exact⟨rfl,((ext.rfl' h).app _).set (jF _) _⟩
theorem RY (ws:List Wg)(m:SM)(n:Int)(C:ws.length<=1048576)(h:Hp):PCall (En G) 206 [.sl m 4 (ws.map I9),.n n] h (.bool (LM n ws)):=by
 refine acT Tryz.func206 4 ?_;refine AB ?_
 refine BB (fun k F H=>∃i,k+i=ws.length/\(∀(j:Nat) (d:j<i) (C:j<ws.length),U6 n ws[j]=false)/\F 0=.sl m 4 (ws.map I9)/\F 1=.n n/\F 5=.n (i:Nat)/\H=h) ws.length
  ⟨0,BA,fun j d=>absurd d U,AO,AO,AO,rfl⟩ ?_
 rintro k F H ⟨i,Q,E,B,J,q,rfl⟩;refine DC vB B q ?_;refine DX ?_ ?_<;>intro a
 .have R:∀j (c:Nat),BO jA H 3 (.fptr 4 (ws.map I9) i c)=some j↔(I9 ws[i])[c]?=some j:=fun j c=>by rw[BR ag3 a]
  have M:BO jA H 3 (.fptr 4 (ws.map I9) i 0)=some (.n ws[i].lo):=by rw[BR ag3 a];rfl
  have O:BO jA H 3 (.fptr 4 (ws.map I9) i 1)=some (.n ws[i].hi):=by rw[BR ag3 a];rfl
  have P:BO jA H 3 (.fptr 4 (ws.map I9) i 2)=some (.n ws[i].w):=by rw[BR ag3 a];rfl
  have step:U6 n ws[i]=false->∃l,l<k/\∃A,l+A=ws.length/\(∀(j:Nat) (d:j<A) (C:j<ws.length),U6 n ws[j]=false)/\A=i+1:=fun I=>⟨k-1,U,i+1,U,fun j d C=>by
   rcases Nat.lt_or_ge j i with K|K
   .exact E j K C
   .obtain rfl:j=i:=U
    exact I,rfl⟩
  cases p:decide (ws[i].lo<=n)
  .obtain⟨l,e,A,f,g,rfl⟩:=step (by unfold U6;rw[p];rfl)
   refine OZ vG B J q a M p (C9 i) ?_;exact⟨l,e,i+1,f,g,AC,AC,AC,AC⟩
  .refine OZ vG B J q a M O p ?_
   refine BH ?_ ?_<;>intro L
   .have I:U6 n ws[i]=true:=by unfold U6;rw[p,L];rfl
    refine V8 vG @aY B q a P ?_;exact⟨by rw[zR a (fun j d=>E j d U) I],AC⟩
   .obtain⟨l,e,A,f,g,rfl⟩:=step (by unfold U6;rw[p,L];rfl)
    refine A7 q (C9 i) ?_;exact⟨l,e,i+1,f,g,AC,AC,AC,AC⟩
 .refine AB ?_
  exact⟨by rw[zE fun x N=>by obtain⟨j,d,rfl⟩:=List.getElem_of_mem N;exact E j U d],AC⟩
end
theorem A77 (h:Hp)(n:ByteArray):DJ jA false h 23 1 [(0,.agg (MW n))]=some (.sl .full 4 [MW n],h):=BC
theorem A5I (h:Hp)(a b:Int)(s:ByteArray)(m:SM)(xs:List (List AV))(c d:Int)(e:ByteArray)(m':SM)(ys:List (List AV)):
 DJ jA false h 23 2 [(0,.agg [.n a,.n b,.str s,.sl m 4 xs]),(1,.agg [.n c,.n d,.str e,.sl m' 4 ys])]=some (.sl .full 4 [[.n a,.n b,.str s,.sl m 4 xs],[.n c,.n d,.str e,.sl m' 4 ys]],h):=BC
theorem A8D (h:Hp)(nm:ByteArray)(R:List Rng)(k:Nat)(l:List Rng):DJ jA false h 23 2 [(0,.agg (sumW nm R k)),(1,.agg (ivW nm l))]=some (.sl .full 4 [sumW nm R k,ivW nm l],h):=by
 cases k with
 | zero=>exact A5I h _ _ _ _ _ _ _ _ _ _
 | succ k=>exact A5I h _ _ _ _ _ _ _ _ _ _
theorem A8E (xs:List (List AV)):JC jA 79 [(0,.n 23),(3,.sl .any 4 xs)]=some (.agg [.n 23,.n 0,.str ⟨#[]⟩,.sl .any 4 xs]):=BC
def rW (nm:ByteArray)(R:List Rng):Nat->List AV
 | 0=>AQ (cE 0)
 | k+1=>sumW nm R k
theorem yW (nm:ByteArray)(R:List Rng)(k:Nat):(rW nm R k).length=4:=by
 cases k with
 | zero=>exact EC _
 | succ k=>exact dZ nm R k
theorem AWE (nm:ByteArray)(R:List Rng)(k:Nat):(rW nm R k).all AV.leaf=true:=by
 cases k with
 | zero=>exact S9 _
 | succ k=>exact uH nm R k
theorem A1C (nm:ByteArray)(R:List Rng)(k n:Nat)(H:Hp):FH n H 3 (.agg (rW nm R k))=.agg (rW nm R k):=by
 cases k with
 | zero=>exact PG n H 0 _
 | succ k=>exact AQK nm R k n H
theorem A1D (nm:ByteArray)(R:List Rng):CvR (.agg (rW nm R (parts R))) (.agg (AQ (gK nm R))):=by
 unfold gK;by_cases h:R=[]
 .rw[if_pos h,show parts R=0 by rw[h];rfl];exact CvR.refl _
 .rw[if_neg h]
  have a:0<R.length:=List.length_pos_iff.2 h;have:parts R=(parts R-1)+1:=by unfold parts;omega
  rw[this];exact AQL nm R _
section
variable (G:Nat->AV)
theorem ACH (p:Pr)(hs:PrS p)(P:PV p)(d:Ds)(hr:QY p.vars d.var=true)(T:d.ws.length<=1048576)(h:Hp):PCall (En G) 115 [.agg (CW p),.agg (IY d)] h (.agg (AQ (gL p d))):=by
 obtain⟨k,hk,aa,hm⟩:=WT hr;obtain⟨_,w1,w8,_⟩:=U2 (P.vr _ (jH hk));obtain⟨w,hw⟩:=wI (U:0<=p.vars[k].width)
 have ae:gL p d=gK p.vars[k].name (runs d.ws (2^w)):=by
  unfold gL;rw[aa,qM,List.getElem?_eq_getElem hk];simp only;rw[hw,qM]
 have hW:(2:Nat)^w<=256:=by
  have:w<=8:=U
  calc (2:Nat)^w<=2^8:=Nat.pow_le_pow_right DU this
   _=256:=rfl
 have e2:(2:Int)^w=((2^w:Nat):Int):=by rw[Int.natCast_pow];rfl
 have C:IQ jA 3 .shl (.n 1) (.n (w:Nat))=some (.n ((2^w:Nat):Int)):=by rw[AVY w U,e2]
 rw[ae];have al:=AT9 d.ws (2^w);have an:=AEV (runs d.ws (2^w));have av:(runs d.ws (2^w)).length<=256:=by have:=gX (UO d.ws (2^w));have:=eG d.ws (2^w);show(TP (UO d.ws (2^w))).length<=_;omega
 have am:∀i,(fP d.ws (2^w) i).length<=2*i:=fun i=>by
  induction i with
  | zero=>exact jF 0
  | succ i ih =>
    simp only[fP,jW];split
    .rw[jW]
     have a1:∀(c:Prop) [Decidable c] (z:Int),(if c then [z] else []).length<=1:=fun c _ z=>by split<;>simp
     have:=a1 (i=0\/LM ((i:Int)-1) d.ws=false) i;have:=a1 (i+1=2^w\/LM ((i:Int)+1) d.ws=false) i;omega
    .simp;omega
 refine PCall.res (r:=.agg (rW p.vars[k].name (runs d.ws (2^w)) (parts (runs d.ws (2^w))))) ?_ (A1D _ _);refine ACalls.pure (R:=fun v H=>v=.agg (rW p.vars[k].name (runs d.ws (2^w)) (parts (runs d.ws (2^w))))/\Sm.ext h H) 3 ?_ (fun v H ⟨a,b⟩=>⟨b,by rw[a];exact A1C _ _ _ _ _⟩);refine IK (H:=hint [] [(85,[10])]) (enM G) Tryz.func115 rfl (by kernel_rfl) (by kernel_rfl) (jB (by kernel_rfl)) ?_;show awp _ _ _ _ _ (ML _ [.cell 4 79] _);have gp:=AU (x:=qG 4 [EQ]) (AU (x:=qG 2 [IY d]) (AZ h (qG 5 [CW p])));have gd:=AU (x:=qG 4 [EQ]) (AZ (h++[qG 5 [CW p]]) (qG 2 [IY d]));have Y:=AZ (h++[qG 5 [CW p]]++[qG 2 [IY d]]) (qG 4 [EQ]);have hx:Sm.ext h (h++[qG 5 [CW p]]++[qG 2 [IY d]]++[qG 4 [EQ]]):=(((ext.rfl' h).app _).app _).app _;have e4:(h++[qG 5 [CW p]]++[qG 2 [IY d]]).length=h.length+2:=BA;have e3:(h++[qG 5 [CW p]]).length=h.length+1:=BA;refine DC @PZ @bxD NY ?_;rw[show([AV.int .i64 0,.n 0,.str ⟨#[]⟩,.sl .nil 0 []]:List AV)=EQ from rfl]
 rw[e4] at Y|-
 rw[e3] at gd|-
 generalize h++[qG 5 [CW p]]++[qG 2 [IY d]]++[qG 4 [EQ]]=H0 at gp gd Y hx|-
 have af:BO jA H0 3 (.ptr (h.length+1) 0 0)=some (.n (k:Nat)):=by rw[BK ag3 gd (row:=IY d) rfl];show some (AV.int .i64 d.var)=_;rw[aa]
 have gd:=AU (x:=qG 4 [encV p.vars[k]]) gd;have gv:=AZ H0 (qG 4 [encV p.vars[k]]);have ar:=AX Y;simp only[vQ,jS,jU,CQ,WO,↓reduceIte,jC,enP,bM,mO,jQ,zZ,ND,YU gp,af,CP hk,Bd.ldV hk,Bd.al61,Bd.st61];have Y:=AU (x:=qG 4 [encV p.vars[k]]) Y;have hx:=hx.app [qG 4 [encV p.vars[k]]]
 generalize H0++[qG 4 [encV p.vars[k]]]=H1 at gd Y gv hx|-
 generalize H0.length=vb at gv ar|-
 clear af e3 e4 gp;have L:∀ {H:Hp},Sm.ext H1 H->BO jA H 3 (.ptr vb 0 1)=some (.n (w:Nat)):=fun q=>by rw[BK ag3 (DW q gv) rfl];show some (AV.int .i64 p.vars[k].width)=_;rw[hw]
 have K:∀ {H:Hp},Sm.ext H1 H->BO jA H 120 (.ptr (h.length+1) 0 1)=some (.sl d.wm 4 (d.ws.map I9)):=fun q=>by rw[BK AGK (DW q gd) rfl];rfl
 have ag:∀ {H:Hp},Sm.ext H1 H->BO jA H 9 (.ptr vb 0 0)=some (.str p.vars[k].name):=fun q=>by rw[BK ag9 (DW q gv) rfl];rfl
 refine EK 0 (fun F H=>∃u,F 4=.ptr (h.length+2) 0 0/\F 5=.ptr vb 0 0/\F 6=u/\Sm.ext H1 H/\outG 4 AQ H1 ((fP d.ws (2^w) (2^w)).map cE) u H) (fun _ _=>False) ?_ ?_ (fun _ _ q=>q.elim)
 .refine BB (fun n F H=>∃i u,n+i=2^w/\F 3=.ptr (h.length+1) 0 0/\F 4=.ptr (h.length+2) 0 0/\F 5=.ptr vb 0 0/\F 6=u/\F 7=.n (i:Nat)/\Sm.ext H1 H/\outG 4 AQ H1 ((fP d.ws (2^w) i).map cE) u H) (2^w)
   ⟨0,.sl .nil 0 [],BA,AO,AO,AO,AO,AO,ext.rfl' _,outG.nil _ _ _ _⟩ ?_
  rintro n F H ⟨i,u,hi,f3,f4,N,S,A,f,E⟩;have ax:=am i;refine EG N A (L f) @C ?_;refine DX ?_ ?_<;>intro ay
  .have j:IntKind.i64.wrap (((i:Nat):Int)+1)=((i+1:Nat):Int):=wrap_succ U
   have ek:((i:Int)+1)=((i+1:Nat):Int):=U;have zi:IntKind.i64.wrap (((i:Nat):Int)-1)=((i:Nat):Int)-1:=wrap_i64 U U;refine DC f3 A (K f) ?_;refine(RY G d.ws d.wm ((i:Nat):Int) T H).use ?_
   cases hp:LM ((i:Nat):Int) d.ws with
   | false =>
     have hb:fP d.ws (2^w) (i+1)=fP d.ws (2^w) i:=by simp only[fP];rw[if_neg (by rw[hp];decide),jM]
     rw[<-hb] at E;refine A7 A j ?_;exact⟨n-1,U,i+1,u,U,AC,AC,AC,AC,AC,f,E⟩
   | true =>
     have g:fP d.ws (2^w) (i+1)=fP d.ws (2^w) i++((if i=0\/LM ((i:Int)-1) d.ws=false then [(i:Int)] else [])++(if i+1=2^w\/LM ((i:Int)+1) d.ws=false then [(i:Int)] else [])):=by
      simp only[fP];rw[if_pos hp]
     rw[ek] at g;cases b0:(((i:Nat):Int)==0)
     .have a4:i≠0:=fun q=>by subst q;exact absurd b0 DU
      refine H7 f3 A (K f) b0 zi ?_;refine(RY G d.ws d.wm (((i:Nat):Int)-1) T H).use ?_
      cases bp:LM (((i:Nat):Int)-1) d.ws with
      | false =>
        rw[if_pos (.inr bp)] at g;refine AY A ?_;obtain⟨u1,Ha,a1,a2,_,M,_,_⟩:=E.append (P:=jA) NJ GZ QA P9 U (by rw[jI];omega) f (cE (i:Nat));refine(KU G _ _).use ?_;refine EG S A @QX a1 ?_;cases I:(((i+1:Nat):Int)==((2^w:Nat):Int))
        .have B:¬i+1=2^w:=fun q=>by rw[q] at I;simp at I
         refine OZ f3 N A (L M) (K M) @C j I ?_;refine(RY G d.ws d.wm ((i+1:Nat):Int) T _).use ?_
         cases br:LM ((i+1:Nat):Int) d.ws with
         | false =>
           rw[if_pos (.inr br)] at g;obtain⟨V,Hb,O,Q,_,X,_,_⟩:=a2.append (P:=jA) NJ GZ QA P9 U (by simp only[jW,jI,zF,zH];omega) M (cE (i:Nat));refine AY A ?_;refine(KU G _ _).use ?_;refine EG A @QX O j ?_;refine⟨n-1,U,i+1,V,U,AC,AC,AC,AC,AC,X,?_⟩;rw[g];simpa using Q
         | true =>
           rw[if_neg (by rw[br];simp [B])] at g;refine A7 A j ?_;refine⟨n-1,U,i+1,u1,U,AC,AC,AC,AC,AC,M,?_⟩;rw[g];simpa using a2
        .have B:i+1=2^w:=by have:((i+1:Nat):Int)=((2^w:Nat):Int):=BL I
                            omega
         rw[if_pos (.inl B)] at g;obtain⟨V,Hb,O,Q,_,X,_,_⟩:=a2.append (P:=jA) NJ GZ QA P9 U (by simp only[jW,jI,zF,zH];omega) M (cE (i:Nat));refine KZ f3 N A (L M) @C j I ?_;refine(KU G _ _).use ?_;refine EG A @QX O j ?_;refine⟨n-1,U,i+1,V,U,AC,AC,AC,AC,AC,X,?_⟩;rw[g];simpa using Q
      | true =>
        rw[if_neg (by rw[bp];simp [a4])] at g;cases I:(((i+1:Nat):Int)==((2^w:Nat):Int))
        .have B:¬i+1=2^w:=fun q=>by rw[q] at I;simp at I
         refine OZ f3 N A (L f) (K f) @C j I ?_;refine(RY G d.ws d.wm ((i+1:Nat):Int) T _).use ?_
         cases br:LM ((i+1:Nat):Int) d.ws with
         | false =>
           rw[if_pos (.inr br)] at g;obtain⟨V,Hb,O,Q,_,X,_,_⟩:=E.append (P:=jA) NJ GZ QA P9 U (by simp only[jW,jI,zF,zH];omega) f (cE (i:Nat));refine AY A ?_;refine(KU G _ _).use ?_;refine H7 S A @QX O j ?_;refine⟨n-1,U,i+1,V,U,AC,AC,AC,AC,AC,X,?_⟩;rw[g];simpa using Q
         | true =>
           rw[if_neg (by rw[br];simp [B])] at g;refine DC S A j ?_;refine⟨n-1,U,i+1,u,U,AC,AC,AC,AC,AC,f,?_⟩;rw[g];simpa using E
        .have B:i+1=2^w:=by have:((i+1:Nat):Int)=((2^w:Nat):Int):=BL I
                            omega
         rw[if_pos (.inl B)] at g;obtain⟨V,Hb,O,Q,_,X,_,_⟩:=E.append (P:=jA) NJ GZ QA P9 U (by simp only[jW,jI,zF,zH];omega) f (cE (i:Nat));refine KZ f3 N A (L f) @C j I ?_;refine(KU G _ _).use ?_;refine H7 S A @QX O j ?_;refine⟨n-1,U,i+1,V,U,AC,AC,AC,AC,AC,X,?_⟩;rw[g];simpa using Q
     .have a4:i=0:=BL b0
      rw[if_pos (.inl a4)] at g;refine A7 A b0 ?_;obtain⟨u1,Ha,a1,a2,_,M,_,_⟩:=E.append (P:=jA) NJ GZ QA P9 U (by rw[jI];omega) f (cE (i:Nat));refine(KU G _ _).use ?_;refine EG S A @QX a1 ?_;cases I:(((i+1:Nat):Int)==((2^w:Nat):Int))
      .have B:¬i+1=2^w:=fun q=>by rw[q] at I;simp at I
       refine OZ f3 N A (L M) (K M) @C j I ?_;refine(RY G d.ws d.wm ((i+1:Nat):Int) T _).use ?_
       cases br:LM ((i+1:Nat):Int) d.ws with
       | false =>
         rw[if_pos (.inr br)] at g;obtain⟨V,Hb,O,Q,_,X,_,_⟩:=a2.append (P:=jA) NJ GZ QA P9 U (by simp only[jW,jI,zF,zH];omega) M (cE (i:Nat));refine AY A ?_;refine(KU G _ _).use ?_;refine EG A @QX O j ?_;refine⟨n-1,U,i+1,V,U,AC,AC,AC,AC,AC,X,?_⟩;rw[g];simpa using Q
       | true =>
         rw[if_neg (by rw[br];simp [B])] at g;refine A7 A j ?_;refine⟨n-1,U,i+1,u1,U,AC,AC,AC,AC,AC,M,?_⟩;rw[g];simpa using a2
      .have B:i+1=2^w:=by have:((i+1:Nat):Int)=((2^w:Nat):Int):=BL I
                          omega
       rw[if_pos (.inl B)] at g;obtain⟨V,Hb,O,Q,_,X,_,_⟩:=a2.append (P:=jA) NJ GZ QA P9 U (by simp only[jW,jI,zF,zH];omega) M (cE (i:Nat));refine KZ f3 N A (L M) @C j I ?_;refine(KU G _ _).use ?_;refine EG A @QX O j ?_;refine⟨n-1,U,i+1,V,U,AC,AC,AC,AC,AC,X,?_⟩;rw[g];simpa using Q
  .have ei:i=2^w:=U
   rw[ei] at E;refine AB ?_;exact⟨u,AC,AC,AC,f,E⟩
 .rintro F H ⟨u,f4,N,S,f,E⟩
  rw[al,an] at E
  generalize runs d.ws (2^w)=R at E av|-
  have l:(cEs R).length=2*R.length:=V3 R
  have ab:KA jA 23 u=some (.n ((2*R.length:Nat):Int)):=by
   rcases E with⟨z,rfl⟩|⟨z,o,_,rfl,_⟩
   .rw[z] at l
    simp only[zH] at l;simp only[AAG,<-l];rfl
   .simp only[AAG,l]
  have Z:=DW f Y;have aj:=DW f gv;have aw:=f.le;have b3:=AX Y;have b4:=AX gv;refine AB ?_;refine(KU G 0 _).use ?_;have gc:=AZ H (qG 4 [AQ (cE 0)]);have ah:=gQ H (cE 0) EQ rfl;refine AY NY ?_;rw[show([AV.int .i64 0,.n 0,.str ⟨#[]⟩,.sl .nil 0 []]:List AV)=EQ from rfl];refine AY ah ?_;have ad:∀b,isB u b->b<H.length:=fun b hb=>(E.lt hb).2
  have E:=E.app [qG 4 [AQ (cE 0)]];have f:=f.app [qG 4 [AQ (cE 0)]]
  generalize H++[qG 4 [AQ (cE 0)]]=H2 at gc E f|-
  generalize H.length=cb at gc ad aw|-
  clear ah Z aj
  generalize p.vars[k].name=nm at ag|-
  refine EK 2 (fun F H=>F 4=.ptr (h.length+2) 0 0/\F 8=.ptr cb 0 0/\Sm.ext H1 H/\H[cb]?=some (qG 4 [rW nm R (parts R)])) (fun _ _=>False) ?_ ?_ (fun _ _ q=>q.elim)
  .refine BB (fun n F H=>∃k,n=2*R.length-32*k/\(k=0\/32*(k-1)<2*R.length)/\F 4=.ptr (h.length+2) 0 0/\F 5=.ptr vb 0 0/\F 6=u/\F 8=.ptr cb 0 0/\F 9=.n ((32*k:Nat):Int)/\Sm.ext H1 H/\H[cb]?=some (qG 4 [rW nm R k])/\outG 4 AQ H1 (cEs R) u H) (2*R.length)
    ⟨0,U,.inl rfl,D7 f4,D7 N,D7 S,AO,AO,f,gc,E⟩ ?_
   clear f gc E f4 N S;rintro n F H ⟨k,rfl,az,f4,N,S,f8,f9,f,gc,E⟩;have ec:decide (((32*k:Nat):Int)<((2*R.length:Nat):Int))=decide (32*k<2*R.length):=by rw[decide_eq_decide];omega
   refine EG S f9 @ab ec ?_;refine BH ?_ ?_<;>intro hc
   .have aq:32*k<2*R.length:=BL hc
    obtain⟨o,ac,rfl,a5⟩:∃o,H1.length<=o/\u=.own o 0 (2*R.length)/\H[o]?=some (qG 4 ((cEs R).map AQ)):=by
     rcases E with⟨z,_⟩|⟨z,o,q1,q2,q3⟩
     .rw[z] at l;simp at l;omega
     .exact⟨o,q1,by rw[q2,l],q3⟩
    have b1:o≠cb:=by have:=ad o rfl;omega
    have zw:IntKind.i64.wrap (((32*k:Nat):Int)+32)=((32*k+32:Nat):Int):=by rw[wrap_i64 U U];omega
    have em:min ((32*k+32:Nat):Int) ((2*R.length:Nat):Int)=((min (32*k+32) (2*R.length):Nat):Int):=U;have sl:=ARA (P:=jA) NJ GZ (kk:=.i64) (off:=0) (len:=2*R.length) a5 (U:32*k<=min (32*k+32) (2*R.length)) (U:min (32*k+32) (2*R.length)<=2*R.length);have ao:=ATX R k _ rfl;have b2:=RF R k
    have a9:JJ H (.own o (0+32*k) (min (32*k+32) (2*R.length)-32*k))=some (4,(cEs (Ho.part R k)).map AQ):=by
     rw[JK a5 (by rw[jI,l];omega),<-List.map_drop,<-List.map_take,jG,ao]
    rw[jG] at sl a9
    have au:(cEs (Ho.part R k)).map AQ≠[]:=by
     intro e;have:=congrArg List.length e;rw[jI,V3] at this;unfold Ho.part at this;rw[jR,wV] at this;simp at this;omega
    have ap:=ZZ (P:=jA) (xs:=[MW nm]) NJ GZ QA P9 a9 au (I5 (by rw[jI,V3];simp;omega) U)
    have a0 : [MW nm]++(cEs (Ho.part R k)).map AQ=(ivL nm (Ho.part R k)).map YJ:=by
     unfold ivL;rw[jJ,qE];rfl
    have a8 : [MW nm].length+((cEs (Ho.part R k)).map AQ).length=((ivL nm (Ho.part R k)).map YJ).length:=by rw[<-a0,jW]
    rw[a0,a8] at ap;have ak:=AZ H (qG 4 ((ivL nm (Ho.part R k)).map YJ));have hz:=fA (i:=10) (off:=0) (len:=((ivL nm (Ho.part R k)).map YJ).length) ak U (by rw[zI,jK (jF _)];exact AXB nm _);rw[zI,jK (jF _),KI] at hz;have gT:=AZ (H++[ABlk.dead]) (qG 4 [EQ]);have stT:=OW (cs:=ivW nm (Ho.part R k)) gT rfl rfl rfl;rw[KI] at stT;have gI:=AZ (H++[ABlk.dead]) (qG 4 [ivW nm (Ho.part R k)]);have J:=AU (x:=qG 4 [ivW nm (Ho.part R k)]) (AU (x:=ABlk.dead) gc);have a6:=AU (x:=qG 4 [ivW nm (Ho.part R k)]) (AU (x:=ABlk.dead) a5);have a7:=(f.app [ABlk.dead]).app [qG 4 [ivW nm (Ho.part R k)]];have ai:JC jA 79 [(0,.n 23),(3,.sl .any 4 ((ivL nm (Ho.part R k)).map YJ))]=some (.agg (ivW nm (Ho.part R k))):=A8E _;simp only[vQ,Option.map_some,Option.map_none,jS,jU,CQ,NS,UM,AJ0,AAE,↓reduceIte,jC,enP,AAG,VV,jQ,zZ,ND,N,S,f9,ag f,APE,A77,zw,em,sl,ap,TV,hz,ai,NY];rw[show([AV.int .i64 0,.n 0,.str ⟨#[]⟩,.sl .nil 0 []]:List AV)=EQ from rfl];refine A7 @stT f9 ?_
    generalize H++[ABlk.dead]++[qG 4 [ivW nm (Ho.part R k)]]=H3 at gI J a6 a7|-
    generalize (H++[ABlk.dead]).length=tb at gI|-
    cases k with
    | zero =>
      have sc:=OW (cs:=ivW nm (Ho.part R 0)) J (yW nm R 0) rfl rfl;refine KO (show((((32*0:Nat)):Int)==0)=true by decide) f8 (G5 gI rfl) sc f9 zw ?_;exact⟨_,U,1,rfl,.inr U,AC,AC,AC,AC,AC,a7.set U _,CJ J,.inr ⟨fun e=>by rw[e] at l;simp at l;omega,o,ac,by rw[l],DF a6 U⟩⟩
    | succ k =>
      have zn:((((32*(k+1):Nat)):Int)==0)=false:=by rw[beq_eq_false_iff_ne];omega
      have a3:JC jA 79 [(0,.n 20),(3,.sl .full 4 [sumW nm R k,ivW nm (Ho.part R (k+1))])]=some (.agg (sumW nm R (k+1))):=AME _;have J:H3[cb]?=some (qG 4 [sumW nm R k]):=J;refine V7 zn f8 (G5 gI rfl) (G5 J (dZ nm R k)) @A8D a3 (OW J (dZ nm R k) (dZ nm R (k+1)) (uH nm R (k+1))) f9 zw ?_;exact⟨_,U,k+1+1,rfl,.inr U,AC,AC,AC,AC,AC,a7.set U _,CJ J,.inr ⟨fun e=>by rw[e] at l;simp at l;omega,o,ac,by rw[l],DF a6 U⟩⟩
   .have aq:¬32*k<2*R.length:=BL hc
    have ek:parts R=k:=by unfold parts;omega
    refine AB ?_;exact⟨AC,AC,f,by rw[ek];exact gc⟩
  .rintro F H ⟨f4,f8,f,gc⟩
   have Z:=DW f Y;simp only[vQ,jS,jU,VF,CQ,↓reduceIte,jC,enP,jQ,zZ,ND,f4,f8,G5 gc (yW _ _ _),OW Z rfl (yW _ _ _) (AWE _ _ _)];rw[IM (b:=h.length+2) (D7 f4) (G5 (CJ Z) (yW _ _ _))];exact⟨rfl,(hx.trans f).set U _⟩
theorem AGR (p:Pr)(C:PrS p)(E:JS p=0)(h:Hp):PCall (En G) 53 [.agg (CW p)] h (.sl (Cov.nm (SL p)) 4 ((SL p).map AQ)):=by
 have P:=PV.of E;refine JZ Ho.frzEx ?_;refine IK (H:=hint [24] []) (enM G) Tryz.func53 rfl (by kernel_rfl) (by kernel_rfl) (jB (by kernel_rfl)) ?_;show awp _ _ _ _ _ (ML _ [.tmp 2] _);have l:=AZ h (qG 5 [CW p]);have L:=Sm.ext.r1 h (qG 5 [CW p]);have Q:=C.dists;refine AY @PZ ?_
 generalize h++[qG 5 [CW p]]=H0 at l L|-
 have R:=AX l;have ldP:∀ {H:Hp},H[h.length]?=some (qG 5 [CW p])->BO jA H 27 (.ptr h.length 0 0)=some (.agg (CW p)):=fun q=>by rw[EN fU cH q (row:=CW p) rfl (by rw[MG];exact jF 5)];rfl
 have k:∀ {H:Hp},H[h.length]?=some (qG 5 [CW p])->BO jA H 24 (.ptr h.length 0 3)=some (.sl p.dm 2 (p.dists.map IY)):=fun q=>by rw[BK APL q (row:=CW p) rfl];rfl
 refine AY (ldP l) ?_;refine(Bd.valid_ref G p C H0).use ?_;refine AY (show(JS p != 0)=false by rw[E];rfl) ?_;have S:(SL p).length=p.dists.length:=by unfold SL;rw[jI]
 refine BB (fun n F H=>∃i v,n+i=p.dists.length/\F 1=.ptr h.length 0 0/\F 3=v/\F 4=.n (i:Nat)/\Sm.ext H0 H/\outG 4 AQ H0 ((SL p).take i) v H) p.dists.length
  ⟨0,.sl .nil 0 [],BA,AO,AO,AO,ext.rfl' _,outG.nil _ _ _ _⟩ ?_
 rintro n F H ⟨i,v,Y,J,K,A,g,B⟩;have d:=DW g l;refine DC J A (k d) ?_;refine DX ?_ ?_<;>intro f
 .obtain⟨O,X⟩:=ABD E _ (jH f)
  obtain⟨T,V,M,I,_,N,_,_⟩:=B.append (P:=jA) NJ GZ QA P9 U (by rw[jR];omega) g (gL p p.dists[i]);have hit:i<(SL p).length:=U;have j:(SL p)[i]=gL p p.dists[i]:=by simp [SL]
  rw[<-j,<-jV hit] at I
  try refine AB ?_
  refine DR BC ?_;simp only[vQ,List.contains_cons,jS,jU,Bool.or_false,JF,MS,MN,↓reduceIte,jC,Nat.reduceAdd,enP,AH7,AIM,J,K,A,ldP d,k d,CP f,DL AGJ dY RI f];refine⟨_,ACH G p C P p.dists[i] O U H,?_⟩
  try refine EG @QX M A (C9 i) ?_
  exact⟨n-1,U,i+1,T,U,AC,AC,AC,N,I⟩
 .rw[jK U] at B
  refine AY K ?_;refine⟨L.trans g,?_⟩;rcases B with⟨a,b⟩|⟨a,o,b,c,e⟩
  .exact .inl ⟨a,b⟩
  .exact .inr ⟨a,o,U,c,e⟩
end
def R4 (r:List AV):Prop:=∃a n s m k c,r=[.n a,.n n,.str s,.sl m k c]
theorem R4.enc (e:Ex):R4 (AQ e):=⟨_,_,_,_,_,_,FK e⟩
theorem R4.len (h:R4 r):r.length=4:=by obtain⟨_,_,_,_,_,_,rfl⟩:=h;rfl
theorem R4.leaf {r:List AV}(h:R4 r):r.all AV.leaf=true:=by obtain⟨_,_,_,_,_,_,rfl⟩:=h;rfl
theorem R4.frz (h:R4 r)(n:Nat)(H:Hp):FH n H 3 (.agg r)=.agg r:=by obtain⟨_,_,_,_,_,_,rfl⟩:=h;rfl
theorem A5J (h:Hp){s:List AV}(a:R4 r)(c:R4 s):DJ jA false h 23 2 [(0,.agg r),(1,.agg s)]=some (.sl .full 4 [r,s],h):=by
 obtain⟨_,_,_,_,_,_,rfl⟩:=a;obtain⟨_,_,_,_,_,_,rfl⟩:=c
 kernel_rfl
theorem A8B (h:Hp){s t:List AV}(a:R4 r)(c:R4 s)(d:R4 t):DJ jA false h 23 3 [(0,.agg r),(1,.agg s),(2,.agg t)]=some (.sl .full 4 [r,s,t],h):=by
 obtain⟨_,_,_,_,_,_,rfl⟩:=a;obtain⟨_,_,_,_,_,_,rfl⟩:=c;obtain⟨_,_,_,_,_,_,rfl⟩:=d
 kernel_rfl
theorem ACD {a b c d e f:List AV}(g:CvRow a d)(h2:CvRow b e)(h:CvRow c f):Cv (.sl .full 4 [a,b,c]) (.sl .full 4 [d,e,f]):=Cv.rows rfl fun i r j p q=>by
 match i,p,q with
 | 0,p,q=>cases p;cases q;exact g
 | 1,p,q=>cases p;cases q;exact h2
 | 2,p,q=>cases p;cases q;exact h
 | i+3,p,q=>cases p
theorem pY (e:Ex):CvRow (AQ e) (AQ e):=CvRow.refl fun v a=>by have:=S9 e;rw[zJ] at this;exact this v a
abbrev isW (i:Ex)(k:Nat):List AV:=[.n 15,.n 0,.str ⟨#[]⟩,.sl .full 4 [AQ i,SB 1 (k:Nat)]]
def chW (a:ByteArray)(i:Ex)(n:Nat):Nat->List AV
 | 0=>SB 1 0
 | j+1=>[.n 22,.n 0,.str ⟨#[]⟩,.sl .full 4 [isW i (n-1-j),AQ (vaE a (n-1-j)),chW a i n j]]
theorem R4.is (i:Ex)(k:Nat):R4 (isW i k):=⟨_,_,_,_,_,_,rfl⟩
theorem R4.ch (a:ByteArray)(i:Ex)(n:Nat):∀j,R4 (chW a i n j)
 | 0=>⟨_,_,_,_,_,_,rfl⟩
 | _+1=>⟨_,_,_,_,_,_,rfl⟩
theorem ASF (i:Ex)(k:Nat):CvRow (isW i k) (AQ (.mk 15 0 ⟨#[]⟩ .full [i,cE ((k:Nat):Int)])):=by
 rw[pV];exact CvRow.cons rfl (Cv.refl _) (CvRow.cons rfl (Cv.refl _) (CvRow.cons rfl (Cv.refl _) (CvRow.cons rfl (yF (pY i) (mT _)) CvRow.nil)))
theorem ATV (a:ByteArray)(i:Ex)(n:Nat):∀j,CvRow (chW a i n j) (AQ (chK id a i n j))
 | 0=>mT 0
 | j+1=>by
   show CvRow _ (AQ (.mk 22 0 ⟨#[]⟩ .full [.mk 15 0 ⟨#[]⟩ .full [i,cE ((n-1-j:Nat):Int)],vaE a (n-1-j),chK id a i n j]));rw[pV];exact CvRow.cons rfl (Cv.refl _) (CvRow.cons rfl (Cv.refl _) (CvRow.cons rfl (Cv.refl _) (CvRow.cons rfl (ACD (ASF i _) (pY _) (ATV a i n j)) CvRow.nil)))
theorem AYI (a:ByteArray)(i:Ex)(n:Nat)(j:Nat):CvR (.agg (chW a i n j)) (.agg (AQ (chK id a i n j))):=by
 cases j with
 | zero=>exact XE 0
 | succ j =>
   show CvR _ (.agg (AQ (.mk 22 0 ⟨#[]⟩ .full [.mk 15 0 ⟨#[]⟩ .full [i,cE ((n-1-j:Nat):Int)],vaE a (n-1-j),chK id a i n j])));rw[pV];exact CvR.agg (CvRL.cons (CvR.refl _) (CvRL.cons (CvR.refl _) (CvRL.cons (CvR.refl _) (CvRL.cons (CvR.sl (ACD (ASF i _) (pY _) (ATV a i n j))) CvRL.nil))))
theorem uI (h:Hp)(a:R4 r):D8 jA (h++[qG 4 [[.n 0,.n 0,.str ⟨#[]⟩,.sl .nil 0 []]]]) 79 (.ptr h.length 0 0) (.agg r)=some (h++[qG 4 [r]]):=by
 rw[OW (AZ _ _) rfl a.len a.leaf,KI]
def csW (a:ByteArray)(i:Ex)(n:Nat):List AV:=if i.op=1 then (if i.n<(n:Int) then AQ (vaE a i.n.toNat) else SB 1 0) else chW a i n n
theorem R4.cs (a:ByteArray)(i:Ex)(n:Nat):R4 (csW a i n):=by
 unfold csW;split
 .split
  .exact R4.enc _
  .exact⟨_,_,_,_,_,_,rfl⟩
 .exact R4.ch a i n n
theorem AX2 (a:ByteArray)(i:Ex)(n:Nat):CvR (.agg (csW a i n)) (.agg (AQ (YD id a i n))):=by
 unfold csW YD;split
 .split
  .exact CvR.refl _
  .exact XE 0
 .exact AYI a i n n
theorem bd1:JC jA 79 [(0,.n 1)]=some (.agg (SB 1 0)):=BC
theorem A5O (a n:Int)(s:ByteArray)(v:AV)(c:v=.sl .nil 0 []\/∃o k,v=.own o 0 k):JC jA 79 [(0,.n a),(1,.n n),(2,.str s),(3,v)]=some (.agg [.n a,.n n,.str s,v]):=by
 rcases c with rfl|⟨o,k,rfl⟩
 .kernel_rfl
 .kernel_rfl
section
variable (G:Nat->AV)
theorem eT (a:ByteArray)(k:Nat)(hk:k<9)(e:a.size<=1048576)(h:Hp):PCall (En G) 273 [.str a,.n (k:Nat)] h (.agg (AQ (vaE a k))):=by
 refine PCall.res ?_ (AP5 (elN a k));refine SE 3 (fun n H=>rfl) ?_;refine acL Tryz.func273 [.cell 4 79] ?_;have c:=AZ h (qG 4 [EQ]);have d:=Sm.ext.r1 h (qG 4 [EQ]);refine A7 NY z4 ?_
 generalize h++[qG 4 [EQ]]=H1 at c d|-
 refine(wD G a k hk H1 e).use ?_;have f:=OW (cs:=MW (elN a k)) c rfl rfl rfl;refine A7 @APE f ?_;rw[IM (b:=h.length) AO (G5 (CJ c) rfl)];exact⟨rfl,d.set (jF _) _⟩
theorem APA (a:ByteArray)(S:a.size<=1048576)(i:Ex)(hi:i.op=1->0<=i.n)(n:Nat)(a0:n<=8)(h:Hp):PCall (En G) 274 [.str a,.agg (AQ i),.n (n:Nat)] h (.agg (AQ (YD id a i n))):=by
 refine PCall.res ?_ (AX2 a i n);refine SE 3 (fun m H=>(R4.cs a i n).frz m H) ?_;refine acL Tryz.func274 [.cell 6 79] ?_;have f:=AU (x:=qG 4 [EQ]) (AZ h (qG 4 [AQ i]));have c:=AZ (h++[qG 4 [AQ i]]) (qG 4 [EQ]);have d:Sm.ext h (h++[qG 4 [AQ i]]++[qG 4 [EQ]]):=((ext.rfl' h).app _).app _;have R:(h++[qG 4 [AQ i]]).length=h.length+1:=BA;refine DC @bxE NY z4 ?_
 rw[R] at c|-
 generalize h++[qG 4 [AQ i]]++[qG 4 [EQ]]=H1 at f c d|-
 clear R;refine AY (W9 f) ?_;cases J:(i.op==1)
 case true =>
  have O:i.op=1:=BL J;have Z:=hi O;refine A7 J (exN f) ?_;cases K:decide (i.n<((n:Nat):Int))
  .have q:=of_decide_eq_false K
   refine DC K bd1 (OW c rfl (cs:=SB 1 0) rfl rfl) ?_;rw[IM (b:=h.length+1) AO (G5 (CJ c) rfl)];exact⟨by unfold csW;rw[if_pos O,if_neg q],d.set U _⟩
  .have q:=of_decide_eq_true K
   obtain⟨k,hk⟩:=wI Z;have E:=eT G a k U S H1;rw[<-hk] at E;refine A7 K (exN f) ?_;refine E.use ?_;refine AY (OX (e:=vaE a k) c rfl) ?_;rw[IM (b:=h.length+1) AO (LX (CJ c))];exact⟨by unfold csW;rw[if_pos O,if_pos q,hk,qM],d.set U _⟩
 have o1:¬i.op=1:=BL J;have lr:=AX c;have f:=AU (x:=qG 4 [SB 1 0]) f;have c:=AU (x:=qG 4 [SB 1 0]) c;have g:=AZ H1 (qG 4 [SB 1 0]);have d:=d.app [qG 4 [SB 1 0]];have w1:IntKind.i64.wrap (((n:Nat):Int)-1)=((n:Nat):Int)-1:=wrap_i64 U U;refine H7 J bd1 al79 (uI H1 (r:=SB 1 0) ⟨_,_,_,_,_,_,rfl⟩) w1 ?_
 generalize H1++[qG 4 [SB 1 0]]=H2 at f c g d|-
 generalize H1.length=ob at g lr|-
 refine EK 0 (fun F H=>F 6=.ptr (h.length+1) 0 0/\F 7=.ptr ob 0 0/\H[h.length+1]?=some (qG 4 [EQ])/\H[ob]?=some (qG 4 [chW a i n n])/\Sm.ext h H) (fun _ _=>False) ?_ ?_ (fun _ _ q=>q.elim)
 .refine BB (fun k F H=>∃j,k+j=n/\F 0=.str a/\F 4=.ptr h.length 0 0/\F 6=.ptr (h.length+1) 0 0/\F 7=.ptr ob 0 0/\F 8=.n (((n:Nat):Int)-1-(j:Nat))/\H[h.length]?=some (qG 4 [AQ i])/\H[h.length+1]?=some (qG 4 [EQ])/\H[ob]?=some (qG 4 [chW a i n j])/\Sm.ext h H) n
   ⟨0,U,AO,AO,AO,AO,by refine AB ?_;simp,f,c,g,d⟩ ?_
  clear f c g d;rintro k F H ⟨j,hj,X,Y,M,L,p,f,c,g,d⟩;refine AY p ?_;refine BH ?_ ?_<;>intro C
  .have C:j<n:=by have:=of_decide_eq_true C;omega
   have V:((n:Nat):Int)-1-(j:Nat)=((n-1-j:Nat):Int):=U;have w2:IntKind.i64.wrap (((n-1-j:Nat):Int)-1)=((n:Nat):Int)-1-((j+1:Nat):Int):=by rw[wrap_i64 U U];omega
   rw[V] at p;have N:=AZ H (qG 4 [isW i (n-1-j)]);have A:=AU (x:=qG 4 [isW i (n-1-j)]) f;have B:=AU (x:=qG 4 [isW i (n-1-j)]) c;have l:=AU (x:=qG 4 [isW i (n-1-j)]) g;have I:=d.app [qG 4 [isW i (n-1-j)]];have P:=uI H (R4.is i (n-1-j));refine OZ Y p (IC f) @rS (A5J H (R4.enc i) (⟨_,_,_,_,_,_,rfl⟩:R4 (SB 1 ((n-1-j:Nat):Int)))) @AUI al79 P ?_
   generalize H++[qG 4 [isW i (n-1-j)]]=H3 at N A B l I|-
   have Q:=AX g
   generalize H.length=ib at N Q|-
   have T:=OW (cs:=chW a i n (j+1)) l (R4.ch a i n j).len (R4.ch a i n (j+1)).len (R4.ch a i n (j+1)).leaf;change D8 jA H3 79 (.ptr ob 0 0) (.agg [.n 22,.n 0,.str ⟨#[]⟩,.sl .full 4 [isW i (n-1-j),AQ (vaE a (n-1-j)),chW a i n j]])=_ at T;refine DR BC ?_;refine H7 X L p (G5 N rfl) (G5 l (R4.ch a i n j).len) ?_;refine⟨_,eT G a (n-1-j) U S H3,?_⟩;refine KO (A8B H3 (R4.is i (n-1-j)) (R4.enc (vaE a (n-1-j))) (R4.ch a i n j)) @AUI L T p w2 ?_;exact⟨k-1,U,j+1,U,AC,AC,AC,AC,AC,by rw[zW U];exact A,by rw[zW U];exact B,CJ l,I.set U _⟩
  .have C:¬j<n:=fun q=>by rw[decide_eq_true U] at C;cases C
   have e:j=n:=U;rw[e] at g;refine AB ?_;exact⟨AC,AC,c,g,d⟩
 rintro F H ⟨M,L,c,g,d⟩;refine EG M L (G5 g (R4.ch a i n n).len) (OW c rfl (R4.ch a i n n).len (R4.ch a i n n).leaf) ?_;rw[IM (b:=h.length+1) (D7 M) (G5 (CJ c) (R4.ch a i n n).len)];exact⟨by unfold csW;rw[if_neg o1],d.set U _⟩
def scW (a:List Vr)(e:Ex):List AV:=if e.op=24\/e.op=3 then AQ (ET sdR a e) else [.n e.op,.n e.n,.str e.name,fzG 4 AQ (e.args.map (ET sdR a))]
theorem AV5 (a:List Vr)(e:Ex):CvR (.agg (scW a e)) (.agg (AQ (ET sdR a e))):=by
 unfold scW;by_cases q:e.op=24\/e.op=3
 .rw[if_pos q];exact CvR.refl _
 .rw[if_neg q,Q5]
  unfold scF;rw[if_neg (fun h=>q (.inl h)),if_neg (fun h=>q (.inr h)),FK];show CvR _ (.agg [.n e.op,.n e.n,.str e.name,.sl (Cov.nm (e.args.map (ET sdR a))) 4 ((e.args.map (ET sdR a)).map AQ)]);generalize e.args.map (ET sdR a)=l
  cases l with
  | nil=>exact CvR.agg (CvRL.cons (CvR.refl _) (CvRL.cons (CvR.refl _) (CvRL.cons (CvR.refl _) (CvRL.cons (CvR.sl (Cv.nil 0 4)) CvRL.nil))))
  | cons x l=>exact CvR.refl _
theorem yP (c:List Vr)(m:SM)(hl:c.length<=1048576)(hv:∀v∈c,F7 v.name=true)(e:Ex):NdOk e->OC c e=false->(FU c e).1<=400->∀h:Hp,PCall (En G) 205 [.sl m 4 (c.map encV),.agg (AQ e)] h (.agg (AQ (ET sdR c e))):=by
 induction e using Ex.induct with|h e ih=>?_
 intro N hu a5 h;have ac:=N.name;have ab:=N.len;have a6:=gJ c e.name;refine PCall.res (r:=.agg (scW c e)) ?_ (AV5 c e);refine ACalls.pure (R:=fun v H=>Sm.ext h H/\FH h.length H 4 v=.agg (scW c e)) 4 ?_ (fun v H ⟨a,b⟩=>⟨a,b⟩);refine acL Tryz.func205 [.cell 4 79] ?_;have d:=Q5 sdR c e;unfold scF at d;have l:=AU (x:=qG 4 [EQ]) (AZ h (qG 4 [AQ e]));have i:=AZ (h++[qG 4 [AQ e]]) (qG 4 [EQ]);have B:Sm.ext h (h++[qG 4 [AQ e]]++[qG 4 [EQ]]):=((ext.rfl' h).app _).app _;have e1:(h++[qG 4 [AQ e]]).length=h.length+1:=BA;refine DC @bxE NY z4 ?_
 rw[e1] at i|-
 generalize h++[qG 4 [AQ e]]++[qG 4 [EQ]]=H1 at l i B|-
 clear e1;refine AY (W9 l) ?_;cases I:(e.op==24)
 case true =>
  have A:e.op=24:=BL I;have hz:=SK hu (.inr A);rw[if_pos A] at d;refine A7 I (OO l) ?_;refine(eT G e.name 0 U U H1).use ?_;have lr:=AX i;have l:=AU (x:=qG 4 [AQ (vaE e.name 0)]) l;have i:=AU (x:=qG 4 [AQ (vaE e.name 0)]) i;have C:=AZ H1 (qG 4 [AQ (vaE e.name 0)]);have B:=B.app [qG 4 [AQ (vaE e.name 0)]];refine A7 al79 st79 ?_
  generalize H1++[qG 4 [AQ (vaE e.name 0)]]=H2 at l i C B|-
  generalize H1.length=ob at C lr|-
  refine EK 0 (fun F H=>F 4=.ptr (h.length+1) 0 0/\F 5=.ptr ob 0 0/\H[h.length+1]?=some (qG 4 [EQ])/\H[ob]?=some (qG 4 [AQ (WE e.name (szA c e.name-1))])/\Sm.ext h H) (fun _ _=>False) ?_ ?_ (fun _ _ q=>q.elim)
  .refine BB (fun n F H=>∃k,n+(k+1)=szA c e.name/\F 0=.sl m 4 (c.map encV)/\F 3=.ptr h.length 0 0/\F 4=.ptr (h.length+1) 0 0/\F 5=.ptr ob 0 0/\F 6=.n ((k+1:Nat):Int)/\H[h.length]?=some (qG 4 [AQ e])/\H[h.length+1]?=some (qG 4 [EQ])/\H[ob]?=some (qG 4 [AQ (WE e.name k)])/\Sm.ext h H) (szA c e.name-1)
    ⟨0,U,AO,AO,AO,AO,AO,l,i,C,B⟩ ?_
   clear l i C B;rintro n F H ⟨k,hk,O,J,E,Z,f6,l,i,C,B⟩;refine EG O J f6 (OO l) ?_;refine(U3 G c m hl hv e.name U H).use ?_;refine AY f6 ?_;refine DX ?_ ?_<;>intro hc
   .have s2:=OX (e:=WE e.name (k+1)) C (EC _)
    have encS:AQ (WE e.name (k+1))=[.n 7,.n 0,.str ⟨#[]⟩,.sl .full 4 [AQ (WE e.name k),AQ (vaE e.name (k+1))]]:=pV 7 .full [WE e.name k,vaE e.name (k+1)];rw[encS] at s2;refine AB ?_;refine DR BC ?_;refine H7 J Z f6 (LX C) (OO l) ?_;refine⟨_,eT G e.name (k+1) U U H,?_⟩;refine KO @ZY @AUI Z s2 f6 (C9 (k+1)) ?_;exact⟨n-1,U,k+1,U,AC,AC,AC,AC,AC,by rw[zW U];exact l,by rw[zW U];exact i,by rw[encS];exact CJ C,B.set U _⟩
   .have e':szA c e.name-1=k:=U
    refine AB ?_;exact⟨AC,AC,i,by rw[e'];exact C,B⟩
  rintro F H ⟨E,Z,i,C,B⟩;simp only[vQ,VF,CQ,↓reduceIte,jC,enP,jQ,E,Z,LX C,OX i rfl];rw[IM (b:=h.length+1) (D7 E) (LX (CJ i))];refine⟨B.set U _,?_⟩;unfold scW;rw[if_pos (.inl A),d];exact PG _ _ 1 _
 have V:¬e.op=24:=BL I;rw[if_neg V] at d;refine AY I ?_;have lr:=AX i;refine EK 2 (fun F H=>∃v,F 0=.sl m 4 (c.map encV)/\F 3=.ptr h.length 0 0/\F 4=.ptr (h.length+1) 0 0/\F 7=v/\Sm.ext H1 H/\outG 4 AQ H1 (e.args.map (ET sdR c)) v H) (fun _ _=>False) ?_ ?_ (fun _ _ q=>q.elim)
 .refine BB (fun n F H=>∃j v,n+j=e.args.length/\F 0=.sl m 4 (c.map encV)/\F 3=.ptr h.length 0 0/\F 4=.ptr (h.length+1) 0 0/\F 7=v/\F 8=.n (j:Nat)/\Sm.ext H1 H/\outG 4 AQ H1 ((e.args.map (ET sdR c)).take j) v H) e.args.length
   ⟨0,.sl .nil 0 [],BA,AO,AO,AO,AO,AO,ext.rfl' _,outG.nil _ _ _ _⟩ ?_
  rintro n F H ⟨j,v,hj,O,J,E,Q,f8,g,A⟩;have f:=DW g l;refine DC J f8 (OQ f) ?_;refine DX ?_ ?_<;>intro L
  .have p:e.args[j]∈e.args:=jH L
   have hit:j<(e.args.map (ET sdR c)).length:=by rw[jI];exact L
   have S:(e.args.map (ET sdR c))[j]=ET sdR c e.args[j]:=BA;simp only[vQ,CQ,↓reduceIte,jC,enP,PU,UG,O,J,Q,f8,OQ f,CP L,DL NI GZ EC L];refine(ih e.args[j] p (N.arg p) (NT hu p) (mQ N hu a5 p) H).use ?_;obtain⟨v',H',a1,a2,_,a3,_,_⟩:=A.append (P:=jA) NJ GZ QA P9 U (by rw[jR];omega) g (ET sdR c e.args[j]);rw[<-S,<-jV hit] at a2;refine H7 @QX Q a1 f8 (C9 j) ?_;exact⟨n-1,U,j+1,v',U,AC,AC,AC,AC,AC,a3,a2⟩
  .rw[jK (by rw[jI];omega)] at A
   refine AB ?_;exact⟨v,AC,AC,AC,AC,g,A⟩
 rintro F H ⟨v,O,J,E,Q,g,A⟩;have f:=DW g l;have K:=DW g i;have T:=B.trans g;have aa:=g.le;refine A7 J (W9 f) ?_;cases Y:(e.op==3)
 case true =>
  have X:e.op=3:=BL Y;rw[if_pos X] at d;obtain⟨b,hb⟩:=RS N.self X;have hm:b∈e.args:=by rw[hb];simp
  have M:e.args.map (ET sdR c)=[ET sdR c b]:=by rw[hb];rfl
  rw[M] at d A;obtain⟨c1,c2⟩:=aK (s:=sdR) (N.arg hm) (NT hu hm);rcases A with⟨q,_⟩|⟨_,o,ad,rfl,q3⟩
  .cases q
  have a8:JD 4 H (.own o 0 [ET sdR c b].length) (.n 0)=some (.ptr o 0 0):=GN q3 (show 0<1 from Nat.one_pos)
  have a9:BO jA H 79 (.ptr o 0 0)=some (.agg (AQ (ET sdR c b))):=by
   rw[EN NI GZ q3 (row:=AQ (ET sdR c b)) rfl (by rw[EC];exact jF 4),zI,jK (by rw[EC];exact jF 4)]
  refine AY Y ?_;refine DR BC ?_;refine KZ O J E Q (OO f) a8 a9 ?_;refine⟨_,U3 G c m hl hv e.name U H,_,APA G e.name U (ET sdR c b) (fun q=>by rw[c2 (c1.1 q)];exact c1.1 q) (szA c e.name) a6 H,?_⟩;refine A7 E (OX (e:=YD id e.name (ET sdR c b) (szA c e.name)) K rfl) ?_;rw[IM (b:=h.length+1) (D7 E) (LX (CJ K))];refine⟨T.set U _,?_⟩;unfold scW;rw[if_pos (.inr X),d];exact PG _ _ 1 _
 have X:¬e.op=3:=BL Y
 have a7:v=.sl .nil 0 []\/∃o k,v=.own o 0 k:=by
  rcases A with⟨_,rfl⟩|⟨_,o,_,rfl,_⟩
  .exact .inl rfl
  .exact .inr ⟨o,_,rfl⟩
 have a0:([.n e.op,.n e.n,.str e.name,v]:List AV).all AV.leaf=true:=by
  have:=A.leaf;simp [this];exact⟨rfl,rfl,rfl⟩
 have a4:=A.setB (b:=h.length+1) lr (qG 4 [[.n e.op,.n e.n,.str e.name,v]]);simp only[vQ,CQ,NS,↓reduceIte,jC,enP,X6,pP,iJ,jQ,Y,J,E,Q,W9 f,exN f,OO f,A5O _ _ _ _ a7,OW K rfl rfl a0];rw[IM (b:=h.length+1) (D7 E) (G5 (CJ K) rfl)];refine⟨T.set U _,?_⟩;have hz:=LP frzEx a4 h.length 1 (by have:=B.le;omega);unfold scW;rw[if_neg (fun q=>q.elim V X)];show AV.agg [.n e.op,.n e.n,.str e.name,FH h.length _ 3 v]=_;rw[hz]
theorem AJT (p:Pr)(Q:PrS p)(S:JS p=0)(e:Ex)(K:exE e=0)(h:Hp):PCall (En G) 114 [.agg (CW p),.agg (AQ e)] h (scV sdR p.vars e):=by
 have P:=PV.of S;have I:=NdOk.of K;have g:=AZT P;have i:=Q.vars;have hw:=AIO K;refine ACalls.pure (R:=fun v H=>v=scV sdR p.vars e/\Sm.ext h H) 4 ?_ (fun v H ⟨a,b⟩=>⟨b,by rw[a];exact AKI _ _ _ _ _⟩);refine acL Tryz.func114 [.cell 4 79,.tmp 5] ?_;have B:=AU (x:=qG 4 [EQ]) (AU (x:=qG 4 [AQ e]) (AZ h (qG 5 [CW p])));have k:=AU (x:=qG 4 [EQ]) (AZ (h++[qG 5 [CW p]]) (qG 4 [AQ e]));have l:=AZ (h++[qG 5 [CW p]]++[qG 4 [AQ e]]) (qG 4 [EQ]);have L:Sm.ext h (h++[qG 5 [CW p]]++[qG 4 [AQ e]]++[qG 4 [EQ]]):=(((ext.rfl' h).app _).app _).app _;have N:(h++[qG 5 [CW p]]).length=h.length+1:=BA;have O:(h++[qG 5 [CW p]]++[qG 4 [AQ e]]).length=h.length+2:=BA;refine EG @PZ @bxE NY z4 ?_
 rw[N] at k|-
 rw[O] at l|-
 generalize h++[qG 5 [CW p]]++[qG 4 [AQ e]]++[qG 4 [EQ]]=H1 at B k l L|-
 clear N O;refine AY (TR B) ?_;refine(Bd.valid_ref G p Q H1).use ?_;refine A7 (show(JS p != 0)=false by rw[S];rfl) (IC k) ?_;refine(VW G e H1 U).use ?_
 have bad:∀(z:Int) (F:Fr),scC p.vars e=z->z≠0->F 4=.ptr (h.length+2) 0 0->F 5=.n z->ML jA [.cell 4 79,.tmp 5] (fun v H=>v=scV sdR p.vars e/\Sm.ext h H) .ret F (H1.set (h.length+2) (qG 4 [EQ])):=fun z F Y Z T V=>by
  rw[bC (ba:=h.length+2) T (G5 (CJ l) rfl),V];exact⟨by rw[gS Y Z],L.set U _⟩
 refine DC (show(exE e != 0)=false by rw[K];rfl) (YU B) (IC k) ?_;refine(ACA G p.vars p.vm i g e I H1).use ?_;cases A:OC p.vars e
 case true =>
  refine A7 @bdZ (stZ l) ?_;exact bad 7 _ (by unfold scC;rw[if_pos A]) DU EZ EZ
 have f:scC p.vars e=if 400<(FU p.vars e).1 then 2 else exE (ET sdP p.vars e):=by unfold scC;rw[if_neg (by rw[A];decide)]
 refine A7 (YU B) (IC k) ?_;refine(ATZ G p.vars p.vm i g e I A H1).uu ?_;cases C:decide ((((FU p.vars e).1:Nat):Int)>400)
 case true =>
  have q:=of_decide_eq_true C;refine DC C @bdZ (stZ l) ?_;exact bad 2 _ (by rw[f,if_pos U]) DU EZ EZ
 have q:=of_decide_eq_false C;rw[if_neg U] at f;have d:(FU p.vars e).1<=400:=U;refine DC C (YU B) (IC k) ?_;refine(yP G p.vars p.vm i g e I A d H1).use ?_;have X:=AHF AV0 I A d;have J:=AZ H1 (qG 4 [AQ (ET sdR p.vars e)]);have c:=AU (x:=qG 4 [AQ (ET sdR p.vars e)]) l;have j:=L.app [qG 4 [AQ (ET sdR p.vars e)]];refine A7 al79 st79 ?_
 generalize H1++[qG 4 [AQ (ET sdR p.vars e)]]=H3 at J c j|-
 refine AY (LX J) ?_;refine(VW G (ET sdR p.vars e) H3 U).use ?_;rw[AV6];cases E:(exE (ET sdP p.vars e) != 0)
 case true =>
  have M:exE (ET sdP p.vars e)≠0:=BL E;refine DC E @bdZ (stZ c) ?_;rw[bC (ba:=h.length+2) EZ (G5 (CJ c) rfl)];refine AB ?_;exact⟨by rw[gS f M],j.set U _⟩
 have M:exE (ET sdP p.vars e)=0:=BL E;simp only[vQ,CQ,↓reduceIte,jC,enP,jQ,E,LX J,OX c rfl];rw[bC (ba:=h.length+2) EZ (LX (CJ c))];refine AB ?_;exact⟨by rw[yQ (f.trans M)],j.set U _⟩
end
end Go.Proofs.YtiihpnicbekebaaGreatDoor.Bd.Cl
namespace Go.Proofs.YtiihpnicbekebaaGreatDoor.Ho
open Sm Bins Cov Go.RowKit
variable {ins:Ex->List Rng->Ex} {m:Mo} {x:Hl}
def eC (l:List Ex):List AV:=[fzG 4 AQ l]
theorem ALN:Frz eC:=fun _ _ _ l=>by cases l<;>exact⟨rfl,rfl⟩
theorem AT3 (h:Hp)(l:List Ex):DJ jA false h 100 1 [(0,fzG 4 AQ l)]=some (.sl .full 1 [eC l],h):=by
 cases l with
 | nil=>show DJ jA false h 100 1 [(0,.sl .nil 0 [])]=some (.sl .full 1 [[.sl .nil 0 []]],h);kernel_rfl
 | cons x a=>exact AF5 h .any _
def cnW (ins:Ex->List Rng->Ex)(m:Mo)(x:Hl):AV:=.tup [if cnE ins m x=0 then .sl .any 1 ((cnL ins m x).map eC) else .sl .nil 0 [],.n (cnE ins m x)]
theorem A2B (ins:Ex->List Rng->Ex)(m:Mo)(x:Hl):CvR (cnW ins m x) (cnV ins m x):=by
 unfold cnW cnV;split
 .exact CvR.tup (CvRL.cons (CvR.sl (Cv.map fun l _=>ASX l)) (CvRL.cons (CvR.refl _) CvRL.nil))
 .exact CvR.refl _
theorem AX7 (h:OA m x=false):cnW ins m x=.tup [.sl .nil 0 [],.n 1]:=by
 have:cnE ins m x=1:=by unfold cnE;rw[if_neg (by rw[h];decide)]
 unfold cnW;rw[this];rfl
theorem AX6 (h:OA m x=true)(a:(cnL ins m x).flatten.all (fun e=>exE e==0)=false):cnW ins m x=.tup [.sl .nil 0 [],.n 2]:=by
 have:cnE ins m x=2:=by unfold cnE;rw[if_pos h,if_neg (by rw[a];decide)]
 unfold cnW;rw[this];rfl
theorem A2A (h:OA m x=true)(a:(cnL ins m x).flatten.all (fun e=>exE e==0)=true):cnW ins m x=.tup [.sl .any 1 ((cnL ins m x).map eC),.n 0]:=by
 have:cnE ins m x=0:=by unfold cnE;rw[if_pos h,if_pos a]
 unfold cnW;rw[this];rfl
def Q8 (N:Nat)(cs:List (List (List Ex)))(t:Nat):List (List Ex):=(List.range t).map (rowA N cs)
theorem nU (N:Nat)(cs:List (List (List Ex)))(t:Nat):Q8 N cs (t+1)=Q8 N cs t++[rowA N cs t]:=by simp [Q8,List.range_succ]
theorem uM (N:Nat)(cs:List (List (List Ex)))(t:Nat):(Q8 N cs t).length=t:=by simp [Q8]
theorem ANA (N:Nat)(cs:List (List (List Ex))){t:Nat}(e:t<N):∃a,Q8 N cs N=Q8 N cs t++rowA N cs t::a:=by
 have d:Q8 N cs (t+1)=(Q8 N cs N).take (t+1):=by
  unfold Q8;rw[<-List.map_take,List.take_range,Nat.min_eq_left U]
 refine⟨(Q8 N cs N).drop (t+1),?_⟩;have c:=List.take_append_drop (t+1) (Q8 N cs N);rw[<-d,nU,List.append_assoc] at c;exact c.symm
section
variable (G:Nat->AV)
theorem tX (m:Mo)(hm:MoOk m)(x:Hl)(hn:x.bins.length<=1048576)(h:Hp):PCall (En G) 51 [.agg (DT m),.agg (FM x)] h (cnV GV m x):=by
 refine PCall.res ?_ (A2B GV m x);refine ACalls.pure (R:=fun v H=>Sm.ext h H/\FH h.length H 3 v=cnW GV m x) 3 ?_ (fun v H ⟨a,b⟩=>⟨a,b⟩);refine IK (H:=hint [] [(80,[79])]) (enM G) Tryz.func51 rfl (by kernel_rfl) (by kernel_rfl) (Nat.le_of_ble_eq_true (by kernel_rfl)) ?_;show awp _ _ _ _ _ (ML _ [.tmp 4,.tmp 5] _);have t:=Hb.mk' h m x;refine A7 @bxM @bxH ?_
 generalize h++[qG 2 [DT m]]++[qG 3 [FM x]]=H at t|-
 generalize (h++[qG 2 [DT m]]).length=hb at t|-
 refine A7 (ldM t.gm) (ldH t.gh) ?_;refine(valid_ref G m hm x hn H).use ?_;cases hv:OA m x
 .refine AB ?_
  exact⟨t.hx,by rw[AX7 hv];rfl⟩
 have h0:=aG hv;have hL:=oB hv;obtain⟨s,hp⟩:=ANQ G m hm x hv H;have Y:cnL GV m x=OT ((UN m x).map (cdQ GV m)):=rfl;have ag:=hL.n4;have S:=hL.n1
 have O:∀q∈UN m x,(∀r∈cdQ GV m q,r.length<=2/\∀e∈r,WN e)/\1<=(cdQ GV m q).length/\(cdQ GV m q).length<=8:=fun q C=>by
  obtain⟨a,b⟩:=hL.ok q C;have hw:=(hm.pts _ (jH a)).ex;exact⟨rJ h0 a b fun l hl=>⟨(AMK hw hl).1,(AMJ (AMK hw hl)).1⟩,ABG h0 a b⟩
 generalize UN m x=L at hL Y ag S O hp;have ac:(L.map (cdQ GV m)).length<=4:=by rw[jI];exact ag
 have ab:1<=(L.map (cdQ GV m)).length:=by rw[jI];exact S
 have X:∀c∈L.map (cdQ GV m),1<=c.length/\c.length<=8:=fun c E=>by
  obtain⟨q,C,rfl⟩:=zQ.1 E;exact(O q C).2
 have V:∀c∈L.map (cdQ GV m),∀r∈c,r.length<=2:=fun c E r hr=>by
  obtain⟨q,C,rfl⟩:=zQ.1 E;exact((O q C).1 r hr).1
 have ad:∀c∈L.map (cdQ GV m),∀r∈c,∀e∈r,WN e:=fun c E r hr=>by
  obtain⟨q,C,rfl⟩:=zQ.1 E;exact((O q C).1 r hr).2
 generalize L.map (cdQ GV m)=cs at Y ac ab X V ad hp;clear O;have an:QO cs<=8:=X4 cs 0 _ (Nat.zero_le _) fun c E=>(X c E).2
 have am:1<=QO cs:=by
  have ah:cs[0]∈cs:=jH U;have:=oP ah;have:=(X _ ah).1;omega
 refine A7 (ldM t.gm) (ldH t.gh) ?_;refine hp.use ?_;clear hp;refine AB ?_;refine EK 0 (fun F H'=>F 6=.sl s 1 (cs.map PH)/\F 7=.n (QO cs:Nat)/\H'=H) (fun _ _=>False) ?_ ?_ (fun _ _ q=>q.elim)
 .refine BB (fun n F H'=>∃i,n+i=cs.length/\F 6=.sl s 1 (cs.map PH)/\F 7=.n (QO (cs.take i):Nat)/\F 8=.n (i:Nat)/\H'=H) cs.length
   ⟨0,BA,AO,AO,AO,rfl⟩ ?_
  rintro n F H' ⟨i,hi,j,p,f8,rfl⟩;refine DC AK5 j f8 ?_;refine DX ?_ ?_<;>intro d
  .have hm:max ((QO (cs.take i):Nat):Int) ((cs[i].length:Nat):Int)=((QO (cs.take (i+1)):Nat):Int):=by rw[vC cs i d];omega
   simp only[vQ,jS,jU,CQ,AB1,oL,↓reduceIte,jC,enP,VR,AEA,zZ,ND,j,p,f8,CP d,BR AGL d,pZ,jI,hm,C9 i];exact⟨n-1,U,i+1,U,AC,AC,AC,AC⟩
  .rw[jK U] at p
   refine AB ?_;exact⟨AC,AC,AC⟩
 rintro F H' ⟨j,p,rfl⟩;have Z:cnL GV m x=Q8 (QO cs) cs (QO cs):=Y;clear Y;have af:∀c∈cs,c.length<=QO cs:=fun c E=>oP E
 generalize QO cs=N at p an am Z af;refine AB ?_
 refine BB (fun n F H=>∃k v,n+k=N/\F 6=.sl s 1 (cs.map PH)/\F 7=.n (N:Nat)/\F 9=v/\F 10=.n (k:Nat)/\Sm.ext H' H/\outG 1 eC H' (Q8 N cs k) v H/\(Q8 N cs k).flatten.all (fun e=>exE e==0)=true) N
  ⟨0,.sl .nil 0 [],BA,D7 j,D7 p,AO,AO,ext.rfl' _,outG.nil _ _ _ _,rfl⟩ ?_
 clear j p;rintro n F H1 ⟨k,v,hk,j,p,I,f10,hx,ho,aj⟩;refine A7 p f10 ?_;refine BH ?_ ?_<;>intro E
 rotate_left
 .have a3:k=N:=by have:¬k<N:=BL E
                  omega
  subst a3;refine AY I ?_;refine⟨t.hx.trans hx,?_⟩;rw[A2A hv (by rw[Z];exact aj)];have:=LP ALN (ho.base t.hx.le) h.length 0 (jF _);show AV.tup [FH h.length H1 2 v,_]=_;rw[this,Z];have aq:Q8 k cs k≠[]:=by intro q;have:=congrArg List.length q;rw[uM,List.length_nil] at this;omega
  cases C:Q8 k cs k with
  | nil=>exact absurd C aq
  | cons a b=>rfl
 have a3:k<N:=BL E;obtain⟨av,T⟩:=ANA N cs a3;have Q:(rowA N cs k).all (fun e=>exE e==0)=false->cnW GV m x=.tup [.sl .nil 0 [],.n 2]:=fun q=>AX6 hv (by rw[Z,T,List.flatten_append,List.all_append,aj,List.flatten_cons,List.all_append,q];rfl)
 have ak:∀e∈rowA N cs k,WN e:=fun e J=>by
  unfold rowA at J;obtain⟨c,E,J⟩:=List.mem_flatMap.1 J;unfold XW at J;split at J
  .cases hx:c[k-(N-c.length)]? with
   | none=>rw[hx] at J;cases J
   | some r0=>rw[hx] at J;exact ad c E r0 (List.mem_of_getElem? hx) e J
  .cases J
 refine AB ?_;refine EK 4 (fun F H=>∃u,F 6=.sl s 1 (cs.map PH)/\F 7=.n (N:Nat)/\F 9=v/\F 10=.n (k:Nat)/\F 11=u/\Sm.ext H1 H/\outG 4 AQ H1 (rowA N cs k) u H) (fun _ _=>False) ?_ ?_ (fun _ _ q=>q.elim)
 .refine BB (fun n F H=>∃i u,n+i=cs.length/\F 6=.sl s 1 (cs.map PH)/\F 7=.n (N:Nat)/\F 9=v/\F 10=.n (k:Nat)/\F 11=u/\F 12=.n (i:Nat)/\Sm.ext H1 H/\outG 4 AQ H1 (rowA N (cs.take i) k) u H) cs.length
   ⟨0,.sl .nil 0 [],BA,D7 j,D7 p,D7 I,D7 f10,AO,AO,ext.rfl' _,outG.nil _ _ _ _⟩ ?_
  clear j p I f10;rintro n2 F H2 ⟨i,u,hi,j,p,I,f10,f11,f12,g,f⟩;refine DC AK5 j f12 ?_;refine DX ?_ ?_<;>intro d
  .have aw:=af _ (jH d)
   have aa:=X _ (jH d);have a9:=V _ (jH d);have a8:=uN N k cs i d
   have ap:(rowA N (cs.take i) k).length<=2*i:=by
    have:=Y4 (n:=N) (t:=k) (B:=2) (cs:=cs.take i) fun c E=>V c (List.mem_of_mem_take E)
    rw[List.length_take,Nat.min_eq_left U] at this;exact this
   have ar:IntKind.i64.wrap (((k:Nat):Int)-((N:Nat):Int))=(k:Int)-(N:Int):=wrap_i64 U U;have au:∀l:Nat,l<=8->IntKind.i64.wrap ((k:Int)-(N:Int)+((l:Nat):Int))=(k:Int)-(N:Int)+(l:Int):=fun l hl=>wrap_i64 U U
   simp only[vQ,jS,jU,CQ,MR,↓reduceIte,jC,enP,VR,AEA,zZ,ND,j,p,f10,f12,CP d,BR AGL d,pZ,jI,ar,au cs[i].length aa.2];refine UB (fun F H=>∃u,F 6=.sl s 1 (cs.map PH)/\F 7=.n (N:Nat)/\F 9=v/\F 10=.n (k:Nat)/\F 11=u/\F 12=.n (i:Nat)/\Sm.ext H1 H/\outG 4 AQ H1 (rowA N (cs.take (i+1)) k) u H) (fun _ _=>False) (fun J=>?_) (fun J=>?_) ?_ (fun _ _ q=>q.elim)
   .have a2:N-cs[i].length<=k:=by have:=of_decide_eq_true J;omega
    have ao:(k:Int)-(N:Int)+((cs[i].length:Nat):Int)=((k-(N-cs[i].length):Nat):Int):=U;have a4:k-(N-cs[i].length)<cs[i].length:=U
    have a6:XW N k cs[i]=cs[i][k-(N-cs[i].length)]:=by
     unfold XW;rw[if_pos a2,List.getElem?_eq_getElem a4];rfl
    have ax:=a9 _ (jH a4);obtain⟨u',H3,ha,K,_,M,_,_⟩:=MB (P:=jA) .any f NJ GZ QA P9 U (ys:=cs[i][k-(N-cs[i].length)]) U g;rw[<-a6,<-a8] at K;refine WP AEA j f11 f12 ao d AGL @pZ a4 @AZ9 ha ?_;exact⟨u',AC,AC,AC,AC,AC,AC,M,K⟩
   .have a2:¬N-cs[i].length<=k:=by have:=of_decide_eq_false J;omega
    have a6:XW N k cs[i]=[]:=by unfold XW;rw[if_neg a2]
    rw[a6,List.append_nil] at a8;refine AB ?_;exact⟨u,AC,AC,AC,AC,AC,AC,g,by rw[a8];exact f⟩
   clear j p I f10 f11 f12 g f;rintro F H2 ⟨u,j,p,I,f10,f11,f12,g,f⟩;refine A7 f12 (C9 i) ?_;exact⟨n2-1,U,i+1,u,U,AC,AC,AC,AC,AC,AC,g,f⟩
  .rw[jK U] at f
   refine AB ?_;exact⟨u,AC,AC,AC,AC,AC,g,f⟩
 clear j p I f10;rintro F H2 ⟨u,j,p,I,f10,f11,g,f⟩
 have a5:(rowA N cs k).length<=8:=by
  have:=Y4 (n:=N) (t:=k) (B:=2) (cs:=cs) V;omega
 have ae:=f.len AAG;have a7:=nU N cs k;generalize rowA N cs k=A at f Q ak T a5 ae a7;refine AB ?_;refine EK 6 (fun F H=>F 6=.sl s 1 (cs.map PH)/\F 7=.n (N:Nat)/\F 9=v/\F 10=.n (k:Nat)/\F 11=u/\H=H2/\A.all (fun e=>exE e==0)=true) (fun F H=>F 4=.sl .nil 0 []/\F 5=.n 2/\H=H2/\A.all (fun e=>exE e==0)=false) ?_ ?_ ?_
 .refine BB (fun n F H=>∃i,n+i=A.length/\F 6=.sl s 1 (cs.map PH)/\F 7=.n (N:Nat)/\F 9=v/\F 10=.n (k:Nat)/\F 11=u/\F 14=.n (i:Nat)/\H=H2/\A.all (fun e=>exE e==0)=(A.drop i).all (fun e=>exE e==0)) A.length
   ⟨0,BA,D7 j,D7 p,D7 I,D7 f10,D7 f11,AO,rfl,rfl⟩ ?_
  clear j p I f10 f11;rintro n2 F H3 ⟨i,hi,j,p,I,f10,f11,f14,rfl,C⟩;refine DC f11 f14 ae ?_;refine DX ?_ ?_<;>intro d
  .obtain⟨o,rfl,ai⟩:∃o,u=.own o 0 A.length/\H3[o]?=some (qG 4 (A.map AQ)):=by
    rcases f with⟨e1,_⟩|⟨_,o,_,h2,h3⟩
    .rw[e1] at d;simp at d
    .exact⟨o,h2,h3⟩
   have ii:JD 4 H3 (.own o 0 A.length) (.n (i:Nat))=some (.ptr o i 0):=by rw[GN ai d,Nat.zero_add]
   have dd:BO jA H3 79 (.ptr o i 0)=some (.agg (AQ A[i])):=by
    rw[EN NI GZ ai (Cov.row_map d) (by rw[EC];exact jF 4),zI,<-EC A[i],List.take_length]
   rw[List.drop_eq_getElem_cons d,List.all_cons] at C;refine EG f11 f14 ii dd ?_;refine(X9 G A[i] _ (ak _ (jH d))).use ?_;simp only[vQ,jS,jU,CQ,↓reduceIte,enP,zZ,ND,bne];cases hz:(exE A[i]==0)
   .rw[hz,Bool.false_and] at C
    refine AB ?_;exact⟨AC,AC,AC,C⟩
   .rw[hz,Bool.true_and] at C
    refine A7 f14 (C9 i) ?_;exact⟨n2-1,U,i+1,U,AC,AC,AC,AC,AC,AC,AC,C⟩
  .rw[List.drop_eq_nil_of_le U] at C
   refine AB ?_;exact⟨AC,AC,AC,AC,AC,AC,C⟩
 .clear j p I f10 f11
  rintro F H3 ⟨j,p,I,f10,f11,rfl,C⟩;have a0:(Q8 N cs (k+1)).flatten.all (fun e=>exE e==0)=true:=by grind
  have S:(Q8 N cs k).length<8388608:=by rw[uM];omega
  rcases f with⟨e1,rfl⟩|⟨e1,o,e2,rfl,e3⟩
  .have hz:=eZ (H:=H3) (i:=79) (k:=0) (m:=.nil) (xs:=[])
   obtain⟨v',H4,ha,K,_,M,_,_⟩:=(outG_ext ho g).append (P:=jA) kO lQ mZ lH U S (hx.trans g) A;have a1:EH jA true H3 100 100 v (.sl .full 1 [eC A])=some (v',H4):=ha
   have hb:DJ jA false H3 100 1 [(0,.sl .nil 0 [])]=some (.sl .full 1 [eC A],H3):=by
    have:=AT3 H3 A
    rw[e1] at this|-
    exact this
   refine OZ I f10 f11 @TV hz hb a1 (C9 k) ?_;exact⟨n-1,U,k+1,v',U,AC,AC,AC,AC,M,by rw[a7];exact K,a0⟩
  .have hz:=fA (i:=79) (off:=0) (len:=A.length) e3 BA (by rw[zI,jK BA];exact NH A)
   rw[zI,jK BA] at hz;have al:=g.set e2 .dead;obtain⟨v',H4,ha,K,_,M,_,_⟩:=(outG_ext ho al).append (P:=jA) kO lQ mZ lH U S (hx.trans al) A;have a1:EH jA true (H3.set o .dead) 100 100 v (.sl .full 1 [eC A])=some (v',H4):=ha
   have hb:DJ jA false (H3.set o .dead) 100 1 [(0,.sl .any 4 (A.map AQ))]=some (.sl .full 1 [eC A],H3.set o .dead):=by
    have:=AT3 (H3.set o .dead) A
    cases hA:A with
    | nil=>exact absurd hA e1
    | cons a b=>rw[hA] at this;exact this
   refine OZ I f10 f11 @TV hz hb a1 (C9 k) ?_;exact⟨n-1,U,k+1,v',U,AC,AC,AC,AC,M,by rw[a7];exact K,a0⟩
 .rintro F H3 ⟨f4,f5,rfl,C⟩
  refine A7 f4 f5 ?_;exact⟨t.hx.trans (hx.trans g),by rw[Q C];rfl⟩
end
end Go.Proofs.YtiihpnicbekebaaGreatDoor.Ho
