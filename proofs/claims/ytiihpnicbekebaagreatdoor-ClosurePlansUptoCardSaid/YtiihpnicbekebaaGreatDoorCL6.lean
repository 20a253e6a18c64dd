/- Part 6 of the proof; no condition. -/
import Derived.Test.YtiihpnicbekebaaGreatDoorCL5
set_option linter.unusedVariables false
set_option linter.unusedSimpArgs false
set_option maxRecDepth 8000
set_option maxHeartbeats 8000000
open Go.Proofs.YtiihpnicbekebaaGreatDoor.Sm.bO renaming live→qH
open Bool renaming false_eq_true→zZ,false_or→wF,not_false→jE,or_eq_false_iff→wG
open Go.Proofs.Tryz renaming prog→jA
open Int renaming eq_ofNat_of_zero_le→wK,natCast_mul→wU,toNat_natCast→qI
open List renaming all_cons→wZ,all_eq_true→zJ,any_eq_false→qP,append_nil→jL,contains_nil→jU,drop_zero→zI,foldl_cons→qU,getElem?_eq_getElem→jP,getElem?_map→zB,getElem?_set_ne→zY,getElem_mem→jH,getElem_of_mem→qR,length_append→jX,length_cons→zF,length_drop→yB,length_map→jI,length_nil→zH,length_pos_iff→qQ,length_take→jT,length→qJ,map_append→qE,map_congr_left→wB,map_cons→jJ,map_map→qG,map_nil→jM,mem_cons→zM,mem_map→zO,mem_singleton→wH,replicate→zD,take_of_length_le→jK,take_succ_eq_append_getElem→jW,take_zero→qA
open Nat renaming add_mul→qM,add_zero→jR,le_of_ble_eq_true→jB,le_refl→jF,reduceAdd→jO,reduceBEq→jV,reduceEqDiff→jC,zero_add→jG,zero_le→qN
open Option renaming getD_none→jQ,getD_some→jD
namespace Go.Proofs.YtiihpnicbekebaaGreatDoor
namespace Bd.Cl
open Sm Bins Cov Xe Wd Bl Ho Go.RowKit
variable {s:ByteArray} {e:Ex} {vs:List Vr}
theorem bP (h:FN s=true):s.size<=16:=by
 unfold FN at h;have:=(Bool.and_eq_true_iff.1 (Bool.and_eq_true_iff.1 h).1).2;simpa using this
theorem yn (s:ByteArray):s.size=s.data.toList.length:=(Array.length_toList).symm
theorem Zy (h:(KR s).isSome=true):s.size<=19:=by
 unfold KR at h;split at h
 .rename_i a
  split at h
  .split at h
   .rename_i b
    have c:=(Bool.and_eq_true_iff.1 b).2;have:=bP c
    rw[yn] at this|-
    simp at this
    simp at a|-
    omega
   .cases h
  .cases h
 .cases h
theorem ARZ (h:GG s=true):s.size<=19:=by
 unfold GG at h;rcases Bool.or_eq_true_iff.1 h with q|q
 .exact Zy q
 .have:=bP q;omega
theorem Tq (h:QU s=true):s.size=0:=by
 unfold QU at h;have:=str_eq h;rw[this];rfl
theorem xF (h:IQ e=0):e.name.size<=19:=by
 unfold IQ at h;have j:dy e=false:=by grind
 have i:eN e=false:=by grind
 have c:XZ e=false:=by grind
 have d:XY e=false:=by simp_all
 unfold XZ at c;rw[wG] at c;have a:=c.1;unfold XY at d;rw[wG] at d;obtain⟨g,b⟩:=d;cases f:QU e.name
 .rw[f] at a
  have a:LZ e.op=true:=BQ a;unfold LZ at a;simp only[Bool.or_eq_true,beq_iff_eq] at a;rcases a with (q|q)|q
  .rw[q] at g
   exact ARZ (BQ g)
  .rw[q] at b
   have:=bP (s:=e.name) (BQ b);omega
  .rw[q] at b
   have:=bP (s:=e.name) (BQ b);omega
 .rw[Tq f];omega
theorem Bv (B:Nat)(e:Ex):(∀x∈pre e,x.name.size<=B)->wt e<=(pre e).length*(B+1):=by
 induction e using Ex.induct with|h e ih=>?_
 intro h
 have j:∀b:List Ex,(∀a∈b,wt a<=(pre a).length*(B+1))->wts b<=(FV b).length*(B+1):=by
  intro b
  induction b with
  | nil=>intro _;simp [wts]
  | cons x b f =>
    intro d;have g:=d x BA;have i:=f fun a c=>d a (by simp [c])
    simp only[wts,FV,jX,qM];omega
 have g:=j e.args fun a c=>ih a c fun x d=>h x (by rw[pre_eq];exact List.mem_cons_of_mem _ (WE c x d))
 have i:=h e (by rw[pre_eq];simp);rw[OI,pre_eq,zF,qM];omega
theorem AZQ (a:c9 e=0):(pre e).length<=400:=by
 unfold c9 at a;split at a
 .cases a
 .simp_all
theorem z7 (h:c9 e=0):wt e<=8000:=by
 have b:=Bv 19 e fun x a=>xF (cA h x a)
 have c:=AZQ h;omega
theorem Zu {xs:List Ex}(h:∀x∈xs,IQ x=0):errs xs=0:=by
 induction xs with
 | nil=>rfl
 | cons y c b =>
   show c.foldl (fun z e=>if z=0 then IQ e else z) (IQ y)=0;rw[h y BA];exact b fun x a=>h x (by simp [a])
def Gd (vs:List Vr)(x:Ex):Prop:=IQ x=0/\O7 x=false/\PK vs x=false
theorem Bg (h:∀x∈pre e,Gd vs x)(f:dep e<=24)(g:(pre e).length<=400):eh vs e=0:=by
 have b:c9 e=0:=by
  unfold c9;rw[Zu fun x a=>(h x a).1,if_neg U]
 have c:kZ e=false:=qP.2 fun x a=>by rw[(h x a).2.1];simp
 have d:gD vs e=false:=qP.2 fun x a=>by rw[(h x a).2.2];simp
 unfold eh;rw[if_neg (by rw[b];simp)];unfold jl;rw[c,d];rfl
theorem yz:QU (⟨#[]⟩:ByteArray)=true:=by unfold QU;exact beq_self_eq_true _
theorem AG {n:Int}(h:0<=n/\n<=65535):∀x∈pre (cE n),Gd vs x:=by
 intro x c;have e:x=cE n:=by simpa [cE,pre,FV] using c
 subst e;refine⟨?_,rfl,rfl⟩
 have b:eN (cE n)=false:=by
  have:eN (cE n)=((true&&(decide (n<0)||decide (n>65535)))||(false && !(n==0))):=rfl;rw[this];simp;omega
 have a:XZ (cE n)=false:=by
  have:XZ (cE n)=((!LZ 1 && !QU (⟨#[]⟩:ByteArray)) || !YP 1 0):=rfl;rw[this,yz];rfl
 unfold IQ;rw[b,a];rfl
theorem GS {n:ByteArray}(h:GG n=true)(c:0<=d' vs n):∀x∈pre (J7 n),Gd vs x:=by
 intro x a;have e:x=J7 n:=by simpa [J7,pre,FV] using a
 subst e;refine⟨?_,rfl,?_⟩
 .have b:XY (J7 n)=false:=by
   have:XY (J7 n)=((true && !GG n)||((false||false) && !FN n)):=rfl;rw[this,h];rfl
  unfold IQ;rw[b];rfl
 .have:PK vs (J7 n)=(true&&decide (d' vs n<0)):=rfl
  rw[this];simp;omega
theorem xI {x:Ex}{xs:List Ex}(h:x∈FV xs):∃a∈xs,x∈pre a:=gu.1 h
theorem G2 {l:List cp}(k:∀x∈pre e,Gd vs x)(i:l≠[])(j:l.length<=16)(p:∀r∈l,0<=r.lo/\r.lo<=65535/\0<=r.hi/\r.hi<=65535):∀x∈pre (I7 e l),Gd vs x:=by
 intro x g;rw[WI,pre_eq] at g;rcases zM.1 g with rfl|g
 .have f:(insL e l).length=1+2*l.length:=by unfold insL;rw[zF,WP];omega
  have A:0<l.length:=qQ.2 i;refine⟨?_,rfl,rfl⟩
  have b:XZ (.mk 23 0 ⟨#[]⟩ .any (insL e l))=false:=by
   have:XZ (.mk 23 0 ⟨#[]⟩ .any (insL e l))=((!LZ 23 && !QU (⟨#[]⟩:ByteArray)) || !YP 23 (insL e l).length):=rfl;rw[this,f,yz];unfold YP;simp;omega
  unfold IQ;rw[b];rfl
 .obtain⟨a,c,d⟩:=xI g
  have c:a∈insL e l:=c;unfold insL at c;rcases zM.1 c with rfl|c
  .exact k x d
  .unfold h_ at c
   obtain⟨r,q,h⟩:=List.mem_flatMap.1 c;have:=p r q;simp only[zM,List.not_mem_nil,or_false] at h;rcases h with rfl|rfl
   .exact AG U x d
   .exact AG U x d
theorem Ls {a b:Ex}(i:∀x∈pre a,Gd vs x)(j:∀x∈pre b,Gd vs x):∀x∈pre (i5 a b),Gd vs x:=by
 intro x d;unfold i5 at d;rw[pre_eq] at d;rcases zM.1 d with rfl|d
 .refine⟨?_,rfl,rfl⟩
  have h:XZ (.mk 20 0 ⟨#[]⟩ .full [a,b])=false:=by
   have:XZ (.mk 20 0 ⟨#[]⟩ .full [a,b])=((!LZ 20 && !QU (⟨#[]⟩:ByteArray)) || !YP 20 2):=rfl;rw[this,yz];rfl
  unfold IQ;rw[h];rfl
 .obtain⟨c,g,f⟩:=xI d
  have g:c∈[a,b]:=g;simp only[zM,List.not_mem_nil,or_false] at g;rcases g with rfl|rfl
  .exact i x f
  .exact j x f
theorem pP:∀l:List cp,(FV (h_ l)).length=2*l.length
 | []=>rfl
 | r::l=>by
   rw[UR];have:=pP l;simp only[FV,jX,this,zF];simp [cE,pre,FV];omega
theorem sV:∀l:List cp,deps (h_ l)<=1
 | []=>Nat.zero_le _
 | r::l=>by
   rw[UR];have:=sV l;simp only[deps];simp [cE,dep,deps];omega
theorem Fb (n:ByteArray)(R:List cp):∀k,(pre (PD (J7 n) R k)).length<=35*(k+1)/\dep (PD (J7 n) R k)<=k+2
 | 0=>by
   have c:=RQ R 0;show(pre (I7 (J7 n) (Ho.part R 0))).length<=_/\dep (I7 (J7 n) (Ho.part R 0))<=_;rw[WI,pre_eq,Y0];show(_::FV (insL (J7 n) (Ho.part R 0))).length<=_/\deps (insL (J7 n) (Ho.part R 0))+1<=_;have a:=pP (Ho.part R 0);have b:=sV (Ho.part R 0);unfold insL;simp only[FV,deps,zF,jX,a];simp [J7,pre,FV,dep,deps];omega
 | k+1=>by
   have f:=Fb n R k;have c:=RQ R (k+1);have a:=pP (Ho.part R (k+1));have b:=sV (Ho.part R (k+1))
   have d:(pre (I7 (J7 n) (Ho.part R (k+1)))).length<=34/\dep (I7 (J7 n) (Ho.part R (k+1)))<=2:=by
    rw[WI,pre_eq,Y0];show(_::FV (insL (J7 n) (Ho.part R (k+1)))).length<=_/\deps (insL (J7 n) (Ho.part R (k+1)))+1<=_;unfold insL;simp only[FV,deps,zF,jX,a];simp [J7,pre,FV,dep,deps];omega
   show(pre (i5 (PD (J7 n) R k) (I7 (J7 n) (Ho.part R (k+1))))).length<=_/\dep (i5 (PD (J7 n) R k) (I7 (J7 n) (Ho.part R (k+1))))<=_;unfold i5;rw[pre_eq,Y0];show(_::FV [PD (J7 n) R k,I7 (J7 n) (Ho.part R (k+1))]).length<=_/\deps [PD (J7 n) R k,I7 (J7 n) (Ho.part R (k+1))]+1<=_;simp only[FV,deps,zF,jX,List.append_nil];omega
theorem GW {vs:List Vr}{n:ByteArray}(h:GG n=true)(c:0<=d' vs n){R:List cp}(b:∀r∈R,0<=r.lo/\r.lo<=65535/\0<=r.hi/\r.hi<=65535):∀k,16*k<R.length->∀x∈pre (PD (J7 n) R k),Gd vs x
 | 0,hk=>by
   show ∀x∈pre (I7 (J7 n) (Ho.part R 0)),_;refine G2 (GS h c) ?_ (RQ R 0) fun r a=>b r ?_
   .unfold Ho.part;intro e
    have:=congrArg qJ e;rw[jT,yB,zH] at this;omega
   .unfold Ho.part at a;exact List.mem_of_mem_drop (List.mem_of_mem_take a)
 | k+1,hk=>by
   show ∀x∈pre (i5 (PD (J7 n) R k) (I7 (J7 n) (Ho.part R (k+1)))),_;refine Ls (GW h c b k U) (G2 (GS h c) ?_ (RQ R (k+1)) fun r a=>b r ?_)
   .unfold Ho.part;intro e
    have:=congrArg qJ e;rw[jT,yB,zH] at this;omega
   .unfold Ho.part at a;exact List.mem_of_mem_drop (List.mem_of_mem_take a)
theorem AX6 {v:Vr}(h:v∈vs):0<=d' vs v.name:=by
 apply Classical.byContradiction;intro q;have:=kB (PH v.name) vs (by unfold d' at q;omega) v h;unfold PH at this;simp at this
theorem Lj {p:Pr}(h:JY p=0):∀e∈TB p,eh p.vars e=0:=by
 intro e f;have P:=PV.of h;unfold TB at f;obtain⟨d,j,rfl⟩:=List.mem_map.1 f;obtain⟨i,B⟩:=zg h d j;obtain⟨k,hk,b,E⟩:=XL i;obtain⟨A,I,J,_⟩:=VM (P.vr _ (jH hk))
 have a:iL p d=iK p.vars[k].name (runs d.ws (2^p.vars[k].width.toNat)):=by
  unfold iL;rw[b,Int.toNat_natCast,List.getElem?_eq_getElem hk]
 have C:(2:Nat)^p.vars[k].width.toNat<=256:=by
  have:p.vars[k].width.toNat<=8:=U
  calc (2:Nat)^p.vars[k].width.toNat<=2^8:=Nat.pow_le_pow_right DX this
   _=256:=rfl
 have c:=ASS d.ws (2^p.vars[k].width.toNat);have g:=Gm d.ws (2^p.vars[k].width.toNat);rw[a];generalize runs d.ws (2^p.vars[k].width.toNat)=R at c g;unfold iK;by_cases q:R=[]
 .rw[if_pos q]
  exact Bg (AG U) (by simp [cE,dep,deps]) (by simp [cE,pre,FV])
 .rw[if_neg q]
  have F:0<R.length:=qQ.2 q;have l:parts R-1<=2:=by unfold parts;omega
  obtain⟨G,H⟩:=Fb p.vars[k].name R (parts R-1);exact Bg (GW A (AX6 (jH hk)) (fun r c=>by have:=g r c;omega) _ (by unfold parts;omega)) U U
theorem Bu (h:eh vs e=0):wt e<=8000:=z7 (Aq h).1
end Bd.Cl
namespace Bd.Cl
open Sm Bins Cov Xe Wd Bl Ho Go.RowKit
variable {vs:List Vr} {e:Ex} {H:Hp} {b:Nat} {c d:Int} (G:Nat->AV )
theorem ZS:∀i:Nat,i<9->ZH jA 334 9 (.sl .full 1 [[.int .u8 (IntKind.u8.wrap (IntKind.i64.wrap (48+(i:Int))))]])=some (.str ⟨#[UInt8.ofNat (48+i)]⟩)
 | 0,_=>BC
 | 1,_=>BC
 | 2,_=>BC
 | 3,_=>BC
 | 4,_=>BC
 | 5,_=>BC
 | 6,_=>BC
 | 7,_=>BC
 | 8,_=>BC
 | n+9,h=>absurd h U
theorem Nz:∀(k:Nat),k<9->∀h:Hp,IW jA h 9 (.str vo) (some (.n (k:Nat))) (some (.n ((k+1:Nat):Int))) none=some (.str (jn k))
 | 0,_,h=>BC
 | 1,_,h=>BC
 | 2,_,h=>BC
 | 3,_,h=>BC
 | 4,_,h=>BC
 | 5,_,h=>BC
 | 6,_,h=>BC
 | 7,_,h=>BC
 | 8,_,h=>BC
 | n+9,q,_=>absurd q U
theorem Sx (k:Nat)(hk:k<9)(h:Hp):a_ (En G) 396 [.n (k:Nat)] h (.str (jn k)):=by
 refine cn Tryz.func396 2 ?_;have a:decide (((k:Nat):Int)<10)=true:=by simp;omega
 have:=Nz k hk h;unfold vo at this;refine DC a (CZ k) @this ?_;exact H7
theorem Xa (k:Nat)(hk:k<9)(h:Hp):a_ (En G) 288 [.n (k:Nat)] h (.str (jn k)):=by
 have i:a_ (En G) 358 [.n (k:Nat),.n 10] h (.str (jn k)):=by
  refine cn Tryz.func358 4 ?_;have a:((10:Int)==10)=true:=rfl;have f:decide ((0:Int)<=((k:Nat):Int))=true:=BA;have g:decide (((k:Nat):Int)<100)=true:=by simp;omega
  refine DC a f g ?_;refine(Sx G k hk h).uu ?_;exact H7
 have j:a_ (En G) 324 [.n (k:Nat)] h (.str (jn k)):=by
  refine cn Tryz.func324 2 ?_;refine AB ?_;refine i.uu ?_;exact H7
 refine cn Tryz.func288 2 ?_;refine AB ?_;refine j.uu ?_;exact H7
theorem Wx (k:Nat)(hk:k<9)(h:Hp):a_ (En G) 330 [.n (k:Nat)] h (.n (-(k:Int))):=by
 refine cn Tryz.func330 2 ?_;refine AB ?_;refine BL ?_ ?_<;>intro a
 .have e:IntKind.i64.wrap (0-((k:Nat):Int)) = -(k:Int):=by rw[wrap_i64 U U];omega
  refine AZ @zp e ?_;exact H7
 .have e:((k:Nat):Int) = -(k:Int):=by
   have:¬((k:Nat):Int)>0:=BQ a;omega
  refine AB ?_;exact⟨by rw[<-e],trivial⟩
theorem Uf (k:Nat)(hk:k<9)(h:Hp):a_ (En G) 307 [.n (k:Nat)] h (.str (jn k)):=by
 refine cn Tryz.func307 2 ?_;refine AB ?_;refine(Wx G k hk h).uu ?_;refine BB (fun n F H=>n=0/\F 0=.n (k:Nat)/\F 3=.str ⟨#[]⟩/\F 4=.n (-(k:Int))/\H=h) 0 ⟨rfl,AL,AL,AL,rfl⟩ ?_;rintro n F H ⟨rfl,j,l,p,rfl⟩;have f:(-(k:Int)).tmod 10 = -(k:Int):=by grind
 have g:(-(k:Int)).tdiv 10=0:=by grind
 have i:(48:Int) - -(k:Int)=48+(k:Int):=U;have A:IZ jA 3 .rem (.n (-(k:Int))) (.n 10)=some (.n (-(k:Int))):=by rw[cH _ _ _ _ _ DX,f]
 have B:IZ jA 3 .quo (.n (-(k:Int))) (.n 10)=some (.n 0):=by rw[zl _ _ _ _ _ DX,g];rfl
 have a:IZ jA 9 .add (.str (jn k)) (.str ⟨#[]⟩)=some (.str (jn k)):=by
  rw[PQ (by show 1+0<=_;omega)];congr 2
 have z:((0:Int)==0)=true:=rfl;have dc:=ZS k hk;change _=some (AV.str (jn k)) at dc;have q:decide (((k:Nat):Int)<0)=false:=BA;simp only[vQ,RY,VY,lO,CP,ue,L9,↓reduceIte,jC,b_,AF,j,l,p,A,B,i,AS,dc,a,z,q];exact H7
theorem sP (a:ByteArray)(k:Nat)(hk:k<9)(h:Hp)(j:a.size<=1048576):a_ (En G) 233 [.str a,.n (k:Nat)] h (.str (elN a k)):=by
 refine cn Tryz.func233 4 ?_;obtain⟨f,g,i⟩:=t_ a k j;refine A7 f ?_;refine(Xa G k hk h).use ?_;refine AZ g i ?_;exact H7
theorem yL (a:ByteArray)(k:Nat)(hk:k<9)(h:Hp)(j:a.size<=1048576):a_ (En G) 263 [.str a,.n (k:Nat)] h (.str (elN a k)):=by
 refine cn Tryz.func263 4 ?_;obtain⟨f,g,i⟩:=t_ a k j;refine A7 f ?_;refine(Uf G k hk h).use ?_;refine AZ g i ?_;exact H7
theorem ATA (a:ByteArray):GG (elN a 8)=false:=by
 have f:=RV a 8;unfold GG
 have h:KR (elN a 8)=none:=by
  unfold KR;rw[f];have e:(a.data.toList++[91,UInt8.ofNat (48+8),93]).length-3=a.data.toList.length:=BA;rw[e,List.drop_left];split
  .simp_all
  .rfl
 have i:FN (elN a 8)=false:=by
  cases g:FN (elN a 8)
  .rfl
  .have e:elN a 8=⟨(elN a 8).data.toList.toArray⟩:=BA
   rw[e] at g;have:=(U9 g).2 91 (by rw[f];simp);exact absurd rfl this
 rw[h,i];rfl
theorem Hf (h:∀v∈vs,GG v.name=true)(a:ByteArray):d' vs (elN a 8)<0:=by
 apply Classical.byContradiction;intro q;obtain⟨k,hk,_,g,_⟩:=aL (PH (elN a 8)) vs (by unfold d' at q;omega);have:=str_eq g;have f:=h _ (jH hk);rw[this,ATA] at f;cases f
def kv (vs:List Vr)(a:ByteArray):Nat->Nat->Nat
 | 0,n=>n
 | f+1,n=>if d' vs (elN a n)<0 then n else kv vs a f (n+1)
def szA (vs:List Vr)(a:ByteArray):Nat:=kv vs a 8 0
theorem Ie (vs:List Vr)(a:ByteArray):∀f n,n<=kv vs a f n/\kv vs a f n<=n+f
 | 0,n=>⟨jF _,jF _⟩
 | f+1,n=>by
   unfold kv;split
   .omega
   .have:=Ie vs a f (n+1);omega
theorem iJ (vs:List Vr)(a:ByteArray):szA vs a<=8:=by have:=(Ie vs a 8 0).2;unfold szA;omega
theorem Ig (vs:List Vr)(a:ByteArray):∀f n k,n<=k->k<kv vs a f n->0<=d' vs (elN a k)
 | 0,n,k,h,g=>by unfold kv at g;omega
 | f+1,n,k,h,g=>by
   unfold kv at g;split at g
   .omega
   .rename_i q
    by_cases e:n=k
    .subst e;omega
    .exact Ig vs a f (n+1) k U g
theorem AIG {a:ByteArray}{k:Nat}(h:k<szA vs a):0<=d' vs (elN a k):=Ig vs a 8 0 k (Nat.zero_le _) h
theorem fF {a:ByteArray}{f n:Nat}:(d' vs (elN a n)<0->kv vs a (f+1) n=n)/\(¬d' vs (elN a n)<0->kv vs a (f+1) n=kv vs a f (n+1)):=by
 constructor<;>intro h<;>(conv=>lhs;unfold kv)
 .rw[if_pos h]
 .rw[if_neg h]
section
variable (G:Nat->AV)
theorem ed (vs:List Vr)(m:SM)(J:vs.length<=1048576)(E:∀v∈vs,GG v.name=true)(a:ByteArray)(C:a.size<=1048576)(h:Hp):a_ (En G) 252 [.agg [.sl m 4 (vs.map bt)],.str a] h (.n (szA vs a:Nat)):=by
 refine ACalls.pure0 rfl ?_;refine cn Tryz.func252 4 ?_;have l:=A8 h (qH 1 [[.sl m 4 (vs.map bt)]]);have p:=Sm.ext.r1 h (qH 1 [[.sl m 4 (vs.map bt)]]);have q:OU h (.agg [.sl m 4 (vs.map bt)])=some (.ptr h.length 0 0,h++[qH 1 [[.sl m 4 (vs.map bt)]]]):=rfl;refine A7 q ?_
 generalize h++[qH 1 [[.sl m 4 (vs.map bt)]]]=H0 at l p|-
 have I:BR jA H0 22 (.ptr h.length 0 0)=some (.sl m 4 (vs.map bt)):=by rw[BJ aW l rfl];rfl
 refine BB (fun k F H=>∃n,k+n=8/\kv vs a k n=szA vs a/\F 1=.str a/\F 2=.ptr h.length 0 0/\F 5=.n (n:Nat)/\H=H0) 8
  ⟨0,rfl,rfl,AL,AL,AL,rfl⟩ ?_
 rintro k F H ⟨n,K,i,A,B,g,rfl⟩
 try refine AB ?_
 refine DI BC ?_;refine G7 @HI A B g I ?_;refine⟨_,sP G a n U H C,_,d_ G vs m (elN a n) H U,?_⟩;refine AB ?_;refine BL ?_ ?_<;>intro f
 .have f:¬d' vs (elN a n)<0:=BQ f
  obtain⟨j,rfl⟩:∃j,k=j+1:=⟨k-1,by
   have:k≠0:=fun e=>f (by have:n=8:=U
                          rw[this];exact Hf E a)
   omega⟩
  rw[fF.2 f] at i;refine AZ g (CZ n) ?_;exact⟨j,U,n+1,U,i,AO,AO,AO,AO⟩
 .have f:d' vs (elN a n)<0:=by
   have:=of_decide_eq_false f;omega
  have e:szA vs a=n:=by
   rw[<-i]
   cases k with
   | zero=>rfl
   | succ k=>exact fF.1 f
  refine A7 g ?_;exact⟨by rw[e],p⟩
theorem VN (vs:List Vr)(m:SM)(B:vs.length<=1048576)(A:∀v∈vs,GG v.name=true)(a:ByteArray)(q:a.size<=1048576)(h:Hp):a_ (En G) 271 [.sl m 4 (vs.map bt),.str a] h (.n (szA vs a:Nat)):=by
 refine cn Tryz.func271 4 ?_;refine AB ?_
 refine BB (fun k F H=>∃n,k+n=8/\kv vs a k n=szA vs a/\F 0=.sl m 4 (vs.map bt)/\F 1=.str a/\F 5=.n (n:Nat)/\H=h) 8
  ⟨0,rfl,rfl,AL,AL,AL,rfl⟩ ?_
 rintro k F H ⟨n,C,i,l,p,g,rfl⟩;have d16:decide (((n:Nat):Int)<16)=true:=by rw[decide_eq_true_eq];omega
 refine EH l p g d16 ?_;refine(yL G a n U H q).uu ?_;refine(VT G vs m (elN a n) H U).uu ?_;refine BL ?_ ?_<;>intro f
 .have f:¬d' vs (elN a n)<0:=BQ f
  obtain⟨j,rfl⟩:∃j,k=j+1:=⟨k-1,by
   have:k≠0:=fun e=>f (by have:n=8:=U
                          rw[this];exact Hf A a)
   omega⟩
  rw[fF.2 f] at i;refine AZ g (CZ n) ?_;exact⟨j,U,n+1,U,i,AO,AO,AO,AO⟩
 .have f:d' vs (elN a n)<0:=by
   have:=of_decide_eq_false f;omega
  have e:szA vs a=n:=by
   rw[<-i]
   cases k with
   | zero=>rfl
   | succ k=>exact fF.1 f
  refine A7 g ?_;exact⟨by rw[e],AO⟩
end
theorem fg (h:IQ e=0):YP e.op e.args.length=true:=by
 unfold IQ at h;have g:dy e=false:=by grind
 have f:eN e=false:=by grind
 have a:XZ e=false:=by grind
 unfold XZ at a;rw[wG] at a;simpa using a.2
theorem hU (h:IQ e=0)(f:e.op=1\/e.op=2\/e.op=24):e.args=[]:=by
 have a:=fg h;unfold YP at a;rw[if_neg (by rcases f with q|q|q<;>rw[q]<;>decide)] at a
 have g:arity e.op=0:=by rcases f with q|q|q<;>rw[q]<;>rfl
 rw[g] at a;exact List.eq_nil_of_length_eq_zero (BQ a)
theorem SA (h:IQ e=0)(i:e.op=3):∃a,e.args=[a]:=by
 have f:=fg h;unfold YP at f;rw[if_neg (by rw[i];decide)] at f;have j:arity e.op=1:=by rw[i];rfl
 rw[j] at f;have g:((e.args.length:Nat):Int)=1:=BQ f;have g:e.args.length=1:=U
 match hq:e.args,g with
 | [a],_=>exact⟨a,rfl⟩
theorem z_ (h:IQ e=0)(f:e.op=1):0<=e.n/\e.n<=65535:=by
 unfold IQ at h;have g:dy e=false:=by grind
 have a:eN e=false:=by grind
 unfold eN at a;rw[f] at a;simp at a;omega
theorem C6 (n:Nat):(((n:Nat):Int)==0)=(n==0):=by rw[Bool.eq_iff_iff];simp
def OO (vs:List Vr)(e:Ex):Bool:=(e.op==2&&decide (d' vs e.name<0))||((e.op==3||e.op==24)&&(szA vs e.name==0))
def OM (vs:List Vr)(e:Ex):Bool:=(pre e).any (OO vs)
theorem WB (vs:List Vr)(e:Ex):OM vs e=(OO vs e||e.args.any (OM vs)):=by
 unfold OM;rw[pre_eq,List.any_cons];congr 1
 have:∀a:List Ex,(FV a).any (OO vs)=a.any fun e=>(pre e).any (OO vs):=by
  intro a
  induction a with
  | nil=>rfl
  | cons x a f=>simp only[FV,List.any_append,List.any_cons,f]
 exact this e.args
def en (e:Ex):Prop:=∀x∈pre e,IQ x=0
theorem en.arg {a:Ex}(h:en e)(f:a∈e.args):en a:=fun x g=>h x (by rw[pre_eq];exact List.mem_cons_of_mem _ (WE f x g))
theorem en.self (h:en e):IQ e=0:=h e (by rw[pre_eq];simp)
theorem en.name {e:Ex}(h:en e):e.name.size<=19:=xF h.self
theorem en.of (h:c9 e=0):en e:=cA h
theorem en.len (h:en e):e.args.length<=33:=by
 have a:=fg h.self;unfold YP at a;split at a
 .simp at a;omega
 .have:arity e.op<=3:=by
   unfold arity
   repeat' split
   all_goals omega
  have:((e.args.length:Nat):Int)=arity e.op:=BQ a;omega
abbrev isS (H:Hp)(b:Nat)(m:SM)(vs:List Vr):Prop:=H[b]?=some (qH 1 [[.sl m 4 (vs.map bt)]])
theorem isS.ld {H:Hp}{b:Nat}{m:SM}{vs:List Vr}(h:isS H b m vs):BR jA H 233 (.ptr b 0 0)=some (.agg [.sl m 4 (vs.map bt)]):=by
 rw[EK Qm BS h rfl (jF 1)];rfl
theorem isS.l {m:SM}(h:isS H b m vs):BR jA H 22 (.ptr b 0 0)=some (.sl m 4 (vs.map bt)):=by rw[BJ aW h rfl];rfl
theorem tg (h:Hp)(m:SM)(vs:List Vr):OU h (.agg [.sl m 4 (vs.map bt)])=some (.ptr h.length 0 0,h++[qH 1 [[.sl m 4 (vs.map bt)]]]):=rfl
section
variable {H:Hp} {b:Nat} {e:Ex}
theorem XR (h:H[b]?=some (qH 4 [AQ e])):BR jA H 3 (.ptr b 0 0)=some (.n e.op):=by rw[BJ ct h (row:=AQ e) rfl,KQ]
theorem px (h:H[b]?=some (qH 4 [AQ e])):BR jA H 3 (.ptr b 0 1)=some (.n e.n):=by rw[BJ ct h (row:=AQ e) rfl,dE]
theorem OZ (h:H[b]?=some (qH 4 [AQ e])):BR jA H 9 (.ptr b 0 2)=some (.str e.name):=by rw[BJ eo h (row:=AQ e) rfl,SS]
theorem O1 (h:H[b]?=some (qH 4 [AQ e])):BR jA H 23 (.ptr b 0 3)=some (.sl e.m 4 (e.args.map AQ)):=by rw[BJ MQ h (row:=AQ e) rfl,ZE]
end
section
variable (G:Nat->AV)
theorem AT4 (xs:List Ex)(m:SM)(g:FuncId)(a:List AV)(p:Ex->Bool)(h:Hp)(M:xs.length<=1099511627776)(K:∀x∈xs,a_ (En G) g ([.agg (AQ x)]++a) h (.bool (p x))):
  a_ (En G) 301 [.sl m 4 (xs.map AQ),.fn (.func g) [] a] h (.n (P6 p xs)):=by
 refine cn Tryz.func301 4 ?_;refine AB ?_;refine BB (fun n F H=>∃k,n+k=xs.length/\(∀(j:Nat) (i:j<k) (C:j<xs.length),p xs[j]=false)/\F 0=.sl m 4 (xs.map AQ)/\F 1=.fn (.func g) [] a/\F 7=.n (xs.length:Nat)/\F 8=.n (k:Nat)/\H=h) xs.length ⟨0,BA,fun j i=>absurd i U,AL,AL,AL,AL,rfl⟩ ?_;rintro n F H ⟨k,hk,q,E,I,J,l,rfl⟩;refine AZ J l ?_;refine BL ?_ ?_<;>intro B
 .have f:k<xs.length:=BQ B
  simp only[vQ,CP,List.nil_append,List.cons_append,↓reduceIte,jC,b_,P5,E,I,l,CE f,DL NU G9 EF f];refine(K _ (jH f)).uu ?_;refine BL ?_ ?_<;>intro L
  .refine A7 l ?_
   exact⟨by rw[UH p xs k f (fun j i=>q j i U) L],trivial⟩
  .refine AZ l (CZ k) ?_
   refine⟨n-1,U,k+1,U,fun j i C=>?_,AO,AO,AO,rfl,trivial⟩;rcases Nat.lt_or_ge j k with A|A
   .exact q j A C
   .grind
 .refine AB ?_
  have f:¬k<xs.length:=BQ B;exact⟨by rw[TF p xs fun j i=>q j U i],trivial⟩
theorem Ac (xs:List Ex)(m:SM)(f:FuncId)(a:List AV)(p:Ex->Bool)(h:Hp)(i:xs.length<=1099511627776)(g:∀x∈xs,a_ (En G) f ([.agg (AQ x)]++a) h (.bool (p x))):
  a_ (En G) 253 [.sl m 4 (xs.map AQ),.fn (.func f) [] a] h (.bool (xs.any p)):=by
 refine cn Tryz.func253 4 ?_;refine AB ?_;refine(AT4 G xs m f a p h i g).use ?_;refine A7 @UI ?_;exact H7
theorem N_ (vs:List Vr)(m:SM)(a:Ex)(c:Nat)(h:Hp)(g:isS h c m vs)(r:Bool)(i:∀H,a_ (En G) 175 [.agg [.sl m 4 (vs.map bt)],.agg (AQ a)] H (.bool r)):a_ (En G) 254 ([.agg (AQ a)]++[.ptr c 0 0]) h (.bool (!r)):=by
 refine ACalls.pure0 rfl ?_;refine cn Tryz.func254 3 ?_;have f:isS (h++[qH 4 [AQ a]]) c m vs:=AU g;refine DC @fa @f.ld @ka ?_;refine(i _).uu ?_;exact⟨AO,_,rfl⟩
theorem ATU (vs:List Vr)(m:SM)(E:vs.length<=1048576)(I:∀v∈vs,GG v.name=true)(e:Ex):en e->∀h:Hp,a_ (En G) 175 [.agg [.sl m 4 (vs.map bt)],.agg (AQ e)] h (.bool (!OM vs e)):=by
 induction e using Ex.induct with|h e ih=>?_
 intro C h;have K:=C.name;have J:=C.len;refine ACalls.pure0 rfl ?_;refine cn Tryz.func175 4 ?_;have p:isS (h++[qH 1 [[.sl m 4 (vs.map bt)]]]++[qH 4 [AQ e]]) h.length m vs:=AU (A8 _ _);have j:=A8 (h++[qH 1 [[.sl m 4 (vs.map bt)]]]) (qH 4 [AQ e]);have i:Sm.ext h (h++[qH 1 [[.sl m 4 (vs.map bt)]]]++[qH 4 [AQ e]]):=((ext.rfl' h).app _).app _;refine AZ @tg @fa ?_
 generalize h++[qH 1 [[.sl m 4 (vs.map bt)]]]++[qH 4 [AQ e]]=H1 at p j i|-
 generalize (h++[qH 1 [[.sl m 4 (vs.map bt)]]]).length=eb at j|-
 generalize h.length=sb at p|-
 have g:OO vs e=false->OM vs e=e.args.any (OM vs):=fun q=>by rw[WB,q,wF]
 have fin:∀x∈e.args,a_ (En G) 254 ([.agg (AQ x)]++[.ptr sb 0 0]) H1 (.bool (OM vs x)):=fun x i=>by
  have:=N_ G vs m x sb H1 p (!OM vs x) (ih x i (C.arg i))
  rwa [Bool.not_not] at this
 refine A7 (XR j) ?_;cases k:(e.op==2)
 case true =>
  have F:e.op=2:=BQ k;refine EH @HI k (isS.l p) (OZ j) ?_;refine(d_ G vs m e.name H1 U).uu ?_;refine⟨?_,i⟩
  have:OM vs e=decide (d' vs e.name<0):=by
   rw[WB,hU C.self (.inr (.inl F))];unfold OO;rw[F];simp
  rw[this,<-decide_not];congr 1;rw[decide_eq_decide];omega
 cases a:(e.op==24)
 case true =>
  refine EH k a (isS.ld p) (OZ j) ?_;refine(ed G vs m E I e.name U H1).uu ?_;refine BL ?_ ?_<;>intro f
  .refine AB ?_
   refine⟨?_,i⟩;have f:szA vs e.name=0:=BQ f;have:OM vs e=true:=by rw[WB];unfold OO;rw[a,f];simp
   rw[this];rfl
  .have f:¬szA vs e.name=0:=BQ f
   have B:OO vs e=false:=by unfold OO;rw[k,a];simp [f]
   refine A7 (O1 j) ?_;refine(Ac G e.args e.m 254 [.ptr sb 0 0] (OM vs) H1 U fin).uu ?_;exact⟨by rw[g B],i⟩
 cases A:(e.op==3)
 case true =>
  refine G7 k a A (isS.ld p) (OZ j) ?_;refine(ed G vs m E I e.name U H1).uu ?_;refine BL ?_ ?_<;>intro f
  .refine AB ?_
   refine⟨?_,i⟩;have f:szA vs e.name=0:=BQ f;have:OM vs e=true:=by rw[WB];unfold OO;rw[A,f];simp
   rw[this];rfl
  .have f:¬szA vs e.name=0:=BQ f
   have B:OO vs e=false:=by unfold OO;rw[k,A];simp [f]
   refine A7 (O1 j) ?_;refine(Ac G e.args e.m 254 [.ptr sb 0 0] (OM vs) H1 U fin).uu ?_;exact⟨by rw[g B],i⟩
 have B:OO vs e=false:=by unfold OO;rw[k,a,A];rfl
 refine EH k a A (O1 j) ?_;refine(Ac G e.args e.m 254 [.ptr sb 0 0] (OM vs) H1 U fin).uu ?_;exact⟨by rw[g B],i⟩
theorem SP (vs:List Vr)(m:SM)(M:vs.length<=1048576)(N:∀v∈vs,GG v.name=true)(e:Ex):en e->∀h:Hp,a_ (En G) 203 [.sl m 4 (vs.map bt),.agg (AQ e)] h (.bool (OM vs e)):=by
 induction e using Ex.induct with|h e ih=>?_
 intro L h;have Q:=L.name;have P:=L.len;rw[WB];refine ACalls.pure0 rfl ?_;refine cn Tryz.func203 4 ?_;have f:=A8 h (qH 4 [AQ e]);have J:=Sm.ext.r1 h (qH 4 [AQ e]);refine A7 @fa ?_
 generalize h++[qH 4 [AQ e]]=H1 at f J|-
 generalize h.length=eb at f|-
 refine A7 (XR f) ?_;refine SI (fun F H=>F 0=.sl m 4 (vs.map bt)/\F 3=.ptr eb 0 0/\F 32=.bool (OO vs e)/\H=H1) ?_ ?_
 .cases a:(e.op==2)
  .cases p:(e.op==3)
   .cases g:(e.op==24)
    .refine EH a p g (XR f) ?_
     exact⟨trivial,trivial,by unfold OO;rw[a,p,g];rfl,trivial⟩
    .refine G7 a p g (XR f) (OZ f) ?_
     refine(VN G vs m M N e.name U H1).use ?_;refine DC a p g ?_;exact⟨trivial,trivial,by unfold OO;rw[a,p,g,C6];simp,trivial⟩
   .refine EH a p (XR f) (OZ f) ?_
    refine(VN G vs m M N e.name U H1).use ?_;refine AZ a p ?_;exact⟨trivial,trivial,by unfold OO;rw[a,p,C6];simp,trivial⟩
  .have I:e.op=2:=BQ a
   refine AZ a (OZ f) ?_;refine(VT G vs m e.name H1 U).use ?_;refine A7 a ?_;cases C:decide (d' vs e.name<0)
   .refine G7 a C (XR f) (show(e.op==3)=false by rw[I];rfl) (show(e.op==24)=false by rw[I];rfl) ?_
    exact⟨trivial,trivial,by unfold OO;rw[C,I];rfl,trivial⟩
   .refine AZ a C ?_
    exact⟨trivial,trivial,by unfold OO;rw[C,I];rfl,trivial⟩
 rintro F H ⟨E,A,f15,rfl⟩;refine A7 f15 ?_;refine BL ?_ ?_<;>intro B
 .refine AB ?_
  exact⟨by rw[B];rfl,J⟩
 rw[B,wF];refine AB ?_;refine BB (fun k F O=>∃j,k+j=e.args.length/\F 0=.sl m 4 (vs.map bt)/\F 3=.ptr eb 0 0/\F 5=.n (j:Nat)/\O=H/\(e.args.take j).any (OM vs)=false) e.args.length ⟨0,BA,DY E,DY A,AL,rfl,rfl⟩ ?_;clear E A f15;rintro k F H ⟨j,R,E,A,K,rfl,q⟩;refine DC A K (O1 f) ?_;refine DV ?_ ?_<;>intro l
 .have i:e.args[j]∈e.args:=jH l
  simp only[vQ,CP,↓reduceIte,jC,b_,P5,UY,E,A,K,O1 f,CE l,DL NU G9 EF l];refine(ih e.args[j] i (L.arg i) H).uu ?_;refine BL ?_ ?_<;>intro B
  .refine AB ?_
   exact⟨by rw[List.any_eq_true.2 ⟨_,i,B⟩],J⟩
  .refine AZ K (CZ j) ?_
   exact⟨k-1,U,j+1,U,AO,AO,rfl,trivial,by rw[jW l,List.any_append,q];simp [B]⟩
 .rw[jK U] at q
  refine AB ?_;exact⟨by rw[q],J⟩
end
def WZ (l:List (Nat×Int)):Nat:=l.foldl (fun s x=>min (s+x.1) 401) 1
def U0 (l:List (Nat×Int)):Nat×Int:=l.getLast?.getD (0,-1)
def lq (vs:List Vr)(op n:Int)(a:ByteArray)(l:List (Nat×Int)):Nat×Int :=
 if op=1 then (1,n) else if op=24 then (2*szA vs a-1,-1) else if op≠3 then (WZ l,-1) else if(szA vs a:Int)<=(U0 l).2 then (1,0) else if 0<=(U0 l).2 then (1,-1) else (min (szA vs a*((U0 l).1+4)+1) 401,-1)
mutual
def FX (vs:List Vr):Ex->Nat×Int
 | .mk g n f _ a=>lq vs g n f (rz vs a)
def rz (vs:List Vr):List Ex->List (Nat×Int)
 | []=>[]
 | e::es=>FX vs e::rz vs es
end
theorem yH (vs:List Vr):∀l:List Ex,rz vs l=l.map (FX vs)
 | []=>by simp [rz]
 | e::es=>by simp [rz,yH vs es]
theorem QR (vs:List Vr)(e:Ex):FX vs e=lq vs e.op e.n e.name (e.args.map (FX vs)):=by
 cases e;simp only[FX,yH];rfl
theorem iM (l:List (Nat×Int))(x:Nat×Int):WZ (l++[x])=min (WZ l+x.1) 401:=by unfold WZ;rw[List.foldl_append];rfl
theorem Vv (l:List (Nat×Int))(x:Nat×Int):U0 (l++[x])=x:=by unfold U0;simp
theorem yo (l:List (Nat×Int)):WZ l<=401:=by
 rcases List.eq_nil_or_concat l with rfl|⟨a,x,rfl⟩
 .decide
 .rw[List.concat_eq_append,iM];omega
theorem nX (vs:List Vr)(e:Ex):(FX vs e).1<=401:=by
 have:=iJ vs e.name;have:=yo (e.args.map (FX vs));rw[QR];unfold lq;split
 .show(1:Nat)<=401;omega
 split
 .omega
 split
 .assumption
 split
 .show(1:Nat)<=401;omega
 split
 .show(1:Nat)<=401;omega
 .show min _ 401<=401;omega
theorem HM (h:0<=(FX vs e).2):(FX vs e).1=1:=by
 have a:∀x:Nat,¬(0:Int)<=(x,(-1:Int)).2:=fun x=>by show ¬(0:Int)<=-1;decide
 rw[QR] at h|-
 unfold lq at h|-
 by_cases c1:e.op=1
 .rw[if_pos c1]
 rw[if_neg c1] at h|-
 by_cases c2:e.op=24
 .simp_all
 rw[if_neg c2] at h|-
 by_cases c3:e.op≠3
 .simp_all
 rw[if_neg c3] at h|-
 by_cases c4:(szA vs e.name:Int)<=(U0 (e.args.map (FX vs))).2
 .rw[if_pos c4]
 rw[if_neg c4] at h|-
 by_cases c5:0<=(U0 (e.args.map (FX vs))).2
 .rw[if_pos c5]
 rw[if_neg c5] at h;exact absurd h (a _)
def ks (x:Nat×Int):List AV:=[.n (x.1:Nat),.n x.2]
theorem Cx (h:Hp):H9 jA h 235=some (.ptr h.length 0 0,h++[qH 2 [[.n 0,.n 0]]]):=FZ (row:=[.n 0,.n 0]) BC
theorem tL (a b:Int):IY jA 235 [(0,.n a),(1,.n b)]=some (.agg [.n a,.n b]):=BC
theorem lL (a:H[b]?=some (qH 2 [[.n c,.n d]]))(x y:Int):D7 jA H 235 (.ptr b 0 0) (.agg [.n x,.n y])=some (H.set b (qH 2 [[.n x,.n y]])):=by
 rw[JV (cs:=[.n x,.n y]) rfl BE a (jF 2)];rfl
theorem xM (a:H[b]?=some (qH 2 [[.n c,.n d]])):BR jA H 235 (.ptr b 0 0)=some (.agg [.n c,.n d]):=by
 rw[EK Ql BE a rfl (jF 2)];rfl
theorem GO (a:H[b]?=some (qH 2 [[.n c,.n d]])):BR jA H 3 (.ptr b 0 0)=some (.n c):=by rw[BJ ct a rfl];rfl
theorem AYX (a:H[b]?=some (qH 2 [[.n c,.n d]])):BR jA H 3 (.ptr b 0 1)=some (.n d):=by rw[BJ ct a rfl];rfl
theorem OB {a:Ex}(h:OM vs e=false)(f:a∈e.args):OM vs a=false:=by
 rw[WB,wG] at h;have:=List.any_eq_false.1 h.2 a f;simpa using this
theorem S9 (h:OM vs e=false)(f:e.op=3\/e.op=24):1<=szA vs e.name:=by
 rw[WB,wG] at h;have a:=h.1;unfold OO at a;rcases f with q|q<;>rw[q] at a<;>simp at a<;>omega
section
variable (G:Nat->AV)
theorem Zt (vs:List Vr)(m:SM)(hl:vs.length<=1048576)(hv:∀v∈vs,GG v.name=true)(e:Ex):en e->OM vs e=false->∀h:Hp,a_ (En G) 176 [.agg [.sl m 4 (vs.map bt)],.agg (AQ e)] h (.agg (ks (FX vs e))):=by
 induction e using Ex.induct with|h e ih=>?_
 intro hn hu h;have a7:=hn.name;have a5:=hn.len;have a2:=iJ vs e.name;refine ACalls.pure (R:=fun v H=>v=.agg (ks (FX vs e))/\Sm.ext h H) 2 ?_ (fun v H ⟨a,b⟩=>⟨b,by rw[a];rfl⟩);refine e7 Tryz.func176 [.cell 4 235] ?_;have p:isS (h++[qH 1 [[.sl m 4 (vs.map bt)]]]++[qH 4 [AQ e]]++[qH 2 [[.n 0,.n 0]]]) h.length m vs:=AU (AU (A8 _ _));have i:=AU (x:=qH 2 [[.n 0,.n 0]]) (A8 (h++[qH 1 [[.sl m 4 (vs.map bt)]]]) (qH 4 [AQ e]));have g:=A8 (h++[qH 1 [[.sl m 4 (vs.map bt)]]]++[qH 4 [AQ e]]) (qH 2 [[.n 0,.n 0]]);have k:Sm.ext h (h++[qH 1 [[.sl m 4 (vs.map bt)]]]++[qH 4 [AQ e]]++[qH 2 [[.n 0,.n 0]]]):=(((ext.rfl' h).app _).app _).app _;have e1:(h++[qH 1 [[.sl m 4 (vs.map bt)]]]).length=h.length+1:=BA;have e2:(h++[qH 1 [[.sl m 4 (vs.map bt)]]]++[qH 4 [AQ e]]).length=h.length+2:=BA;refine DC @tg @fa Cx ?_
 rw[e1] at i|-
 rw[e2] at g|-
 generalize h++[qH 1 [[.sl m 4 (vs.map bt)]]]++[qH 4 [AQ e]]++[qH 2 [[.n 0,.n 0]]]=H1 at p i g k|-
 clear e1 e2;refine A7 (XR i) ?_;cases Q:(e.op==1)
 case true =>
  have P:e.op=1:=BQ Q;refine EH Q (px i) tL (lL g) ?_;rw[IU (b:=h.length+2) AL (xM (CO g))];exact⟨by rw[QR];unfold lq;rw[if_pos P];rfl,k.set U _⟩
 have o1:¬e.op=1:=BQ Q;cases C:(e.op==24)
 case true =>
  have P:e.op=24:=BQ C;have h1:=S9 hu (.inr P);have Z:IntKind.i64.wrap (2*((szA vs e.name:Nat):Int))=2*((szA vs e.name:Nat):Int):=wrap_i64 U U;have w2:IntKind.i64.wrap (2*((szA vs e.name:Nat):Int)-1)=((2*szA vs e.name-1:Nat):Int):=by rw[wrap_i64 U U];omega
  refine EH Q C (isS.ld p) (OZ i) ?_;refine(ed G vs m hl hv e.name U H1).use ?_;refine EH Z w2 tL (lL g) ?_;rw[IU (b:=h.length+2) AL (xM (CO g))];exact⟨by rw[QR];unfold lq;rw[if_neg o1,if_pos P];rfl,k.set U _⟩
 have a3:¬e.op=24:=BQ C;have p:=AU (x:=qH 2 [[.n 0,.n (-1)]]) p;have i:=AU (x:=qH 2 [[.n 0,.n (-1)]]) i;have lr:=AY g;have g:=AU (x:=qH 2 [[.n 0,.n (-1)]]) g;have l:=A8 H1 (qH 2 [[.n 0,.n (-1)]]);have k:=k.app [qH 2 [[.n 0,.n (-1)]]];have O:D7 jA (H1++[qH 2 [[.n 0,.n 0]]]) 235 (.ptr H1.length 0 0) (.agg [.n 0,.n (-1)])=some (H1++[qH 2 [[.n 0,.n (-1)]]]):=by rw[lL (A8 _ _),KZ]
 refine G7 Q C tL Cx O ?_
 generalize H1++[qH 2 [[.n 0,.n (-1)]]]=H2 at p i g l k|-
 generalize H1.length=A at l lr|-
 refine A7 (O1 i) ?_;have a4:(e.args.map (FX vs)).length=e.args.length:=jI _;refine EG 1 (fun F H=>F 2=.ptr h.length 0 0/\F 3=.ptr (h.length+1) 0 0/\F 4=.ptr (h.length+2) 0 0/\F 5=.n (WZ (e.args.map (FX vs)):Nat)/\F 6=.ptr A 0 0/\isS H h.length m vs/\H[h.length+1]?=some (qH 4 [AQ e])/\H[h.length+2]?=some (qH 2 [[.n 0,.n 0]])/\H[A]?=some (qH 2 [ks (U0 (e.args.map (FX vs)))])/\Sm.ext h H) (fun _ _=>False) ?_ ?_ (fun _ _ q=>q.elim)
 .refine BB (fun n F H=>∃j,n+j=e.args.length/\F 2=.ptr h.length 0 0/\F 3=.ptr (h.length+1) 0 0/\F 4=.ptr (h.length+2) 0 0/\F 5=.n (WZ ((e.args.map (FX vs)).take j):Nat)/\F 6=.ptr A 0 0/\F 28=.sl e.m 4 (e.args.map AQ)/\F 29=.n (e.args.length:Nat)/\F 30=.n (j:Nat)/\isS H h.length m vs/\H[h.length+1]?=some (qH 4 [AQ e])/\H[h.length+2]?=some (qH 2 [[.n 0,.n 0]])/\H[A]?=some (qH 2 [ks (U0 ((e.args.map (FX vs)).take j))])/\Sm.ext h H) e.args.length
   ⟨0,BA,AL,AL,AL,AL,AL,AL,AL,AL,p,i,g,l,k⟩ ?_
  clear p i g l k;rintro n F H ⟨j,hj,f2,f3,E,f5,K,a0,a1,J,p,i,g,l,k⟩;refine AZ a1 J ?_;refine DV ?_ ?_<;>intro N
  .have B:e.args[j]∈e.args:=jH N
   have p:=AU (x:=qH 4 [AQ e.args[j]]) p;have i:=AU (x:=qH 4 [AQ e.args[j]]) i;have g:=AU (x:=qH 4 [AQ e.args[j]]) g;have l:=AU (x:=qH 4 [AQ e.args[j]]) l;have k:=k.app [qH 4 [AQ e.args[j]]];have ga:=A8 H (qH 4 [AQ e.args[j]]);simp only[vQ,CP,↓reduceIte,jC,b_,P5,Option.getD_none,a0,J,CE N,DL NU G9 EF N,e9,gg]
   generalize H++[qH 4 [AQ e.args[j]]]=H3 at p i g l k ga|-
   generalize H.length=ab at ga|-
   refine EH f2 K (isS.ld p) (IL ga) ?_;refine(ih e.args[j] B (hn.arg B) (OB hu B) H3).use ?_;have X:j<(e.args.map (FX vs)).length:=U;have I:(e.args.map (FX vs))[j]=FX vs e.args[j]:=BA;have ss:D7 jA H3 235 (.ptr A 0 0) (.agg (ks (FX vs e.args[j])))=some (H3.set A (qH 2 [ks (FX vs e.args[j])])):=lL l _ _;have V:isS (H3.set A (qH 2 [ks (FX vs e.args[j])])) h.length m vs:=by grind
   have S:(H3.set A (qH 2 [ks (FX vs e.args[j])]))[h.length+1]?=some (qH 4 [AQ e]):=by grind
   have T:(H3.set A (qH 2 [ks (FX vs e.args[j])]))[h.length+2]?=some (qH 2 [[.n 0,.n 0]]):=by grind
   have L:(H3.set A (qH 2 [ks (FX vs e.args[j])]))[A]?=some (qH 2 [ks (FX vs e.args[j])]):=CO l;have Y:=k.set (b:=A) U (qH 2 [ks (FX vs e.args[j])]);refine DC @HH K ss ?_
   generalize H3.set A (qH 2 [ks (FX vs e.args[j])])=H4 at V S T L Y|-
   have s1:=yo ((e.args.map (FX vs)).take j);have s2:=nX vs e.args[j];have Z:IntKind.i64.wrap (((WZ ((e.args.map (FX vs)).take j):Nat):Int)+(((FX vs e.args[j]).1:Nat):Int))=((WZ ((e.args.map (FX vs)).take j)+(FX vs e.args[j]).1:Nat):Int):=by rw[wrap_i64 U U];omega
   have mn:min (((WZ ((e.args.map (FX vs)).take j)+(FX vs e.args[j]).1:Nat):Int)) 401=((WZ ((e.args.map (FX vs)).take (j+1)):Nat):Int):=by
    rw[jW X,iM,I];omega
   refine LJ f5 K J (GO L) Z mn (CZ j) ?_;refine⟨n-1,U,j+1,U,AO,AO,AO,AO,AO,AO,AO,AO,V,S,T,?_,Y⟩;rw[jW X,Vv,I];exact L
  .rw[jK U] at f5 l
   refine AB ?_;exact⟨AO,AO,AO,AO,AO,p,i,g,l,k⟩
 clear p i g l k;rintro F H ⟨f2,f3,E,f5,K,p,i,g,l,k⟩;have f:=QR vs e;unfold lq at f;rw[if_neg o1,if_neg a3] at f;refine EH f2 f3 (isS.ld p) (OZ i) ?_;refine(ed G vs m hl hv e.name U H).use ?_;refine AZ f3 (XR i) ?_;cases b3:(e.op != 3)
 case true =>
  have P:e.op≠3:=BQ b3;refine G7 b3 E f5 tL (lL g) ?_;rw[IU (b:=h.length+2) (DY E) (xM (CO g))];exact⟨by rw[f,if_pos P];rfl,k.set U _⟩
 have o3:e.op=3:=BQ b3;rw[if_neg (fun q=>q o3)] at f;have hz:=S9 hu (.inl o3);obtain⟨a,M⟩:=SA hn.self o3;have hle:(U0 (e.args.map (FX vs))).1<=401:=by rw[M];exact nX vs a
 generalize U0 (e.args.map (FX vs))=x at l f hle;have g0:=GO l;have g1:=AYX l;refine EH @HG b3 K g1 ?_;cases c1:decide (x.2≥((szA vs e.name:Nat):Int))
 case true =>
  have q:=of_decide_eq_true c1;refine EH c1 E tL (lL g) ?_;rw[IU (b:=h.length+2) (DY E) (xM (CO g))];exact⟨by rw[f,if_pos q];rfl,k.set U _⟩
 have q:=of_decide_eq_false c1;rw[if_neg q] at f;refine EH @HG c1 K g1 ?_;cases c2:decide (x.2≥(0:Int))
 case true =>
  have q:=of_decide_eq_true c2;refine EH c2 E tL (lL g) ?_;rw[IU (b:=h.length+2) (DY E) (xM (CO g))];exact⟨by rw[f,if_pos q];rfl,k.set U _⟩
 have q2:=of_decide_eq_false c2;rw[if_neg q2] at f;have Z:IntKind.i64.wrap (((x.1:Nat):Int)+4)=((x.1+4:Nat):Int):=by rw[wrap_i64 U U];omega
 have a6:szA vs e.name*(x.1+4)<=8*405:=Nat.mul_le_mul a2 U;have w2:IntKind.i64.wrap (((szA vs e.name:Nat):Int)*((x.1+4:Nat):Int))=((szA vs e.name*(x.1+4):Nat):Int):=by rw[<-wU,wrap_i64 U U]
 have w3:IntKind.i64.wrap (((szA vs e.name*(x.1+4):Nat):Int)+1)=((szA vs e.name*(x.1+4)+1:Nat):Int):=by rw[wrap_i64 U U];omega
 have mn:min (((szA vs e.name*(x.1+4)+1:Nat):Int)) 401=((min (szA vs e.name*(x.1+4)+1) 401:Nat):Int):=U;refine V3 @HH c2 E K g0 Z w2 w3 mn tL (lL g) ?_;rw[IU (b:=h.length+2) (DY E) (xM (CO g))];exact⟨by rw[f];rfl,k.set U _⟩
def ra (z:Int):AV:=.tup [.n (if 0<=z then z else 0),.bool (decide (0<=z))]
theorem yE (vs:List Vr)(m:SM)(O:vs.length<=1048576)(Q:∀v∈vs,GG v.name=true)(e:Ex):en e->OM vs e=false->∀h:Hp,a_ (En G) 272 [.sl m 4 (vs.map bt),.agg (AQ e)] h (ra (FX vs e).2):=by
 induction e using Ex.induct with|h e ih=>?_
 intro I N h;have P:=I.name;refine ACalls.pure (R:=fun v H=>v=ra (FX vs e).2/\Sm.ext h H) 2 ?_ (fun v H ⟨a,b⟩=>⟨b,by rw[a];rfl⟩);refine e7 Tryz.func272 [.tmp 4,.tmp 5] ?_;have k:=A8 h (qH 4 [AQ e]);have E:=Sm.ext.r1 h (qH 4 [AQ e]);refine A7 @fa ?_
 generalize h++[qH 4 [AQ e]]=H1 at k E|-
 generalize h.length=eb at k|-
 have f:=QR vs e;unfold lq at f;refine A7 (XR k) ?_;cases A:(e.op==1)
 case true =>
  have M:e.op=1:=BQ A;have:=(z_ I.self M).1;refine AZ A (px k) ?_;exact⟨by rw[f,if_pos M];unfold ra;rw[if_pos this,decide_eq_true this],E⟩
 have S:¬e.op=1:=BQ A;rw[if_neg S] at f;cases F:(e.op==3)
 case false =>
  have p:e.op≠3:=BQ F;refine DC A F (XR k) ?_;refine⟨?_,E⟩;rw[f,if_pos p];split<;>rfl
 have p:e.op=3:=BQ F;rw[if_neg (by rw[p];decide),if_neg (fun q=>q p)] at f;obtain⟨a,g⟩:=SA I.self p;have i:a∈e.args:=by rw[g];simp
 have l:U0 (e.args.map (FX vs))=FX vs a:=by rw[g];rfl
 rw[l] at f;have T:=S9 N (.inl p);have C:0<e.args.length:=by rw[g];exact Nat.one_pos
 have J:e.args[0]=a:=by simp [g]
 have K:JJ 4 H1 (.sl e.m 4 (e.args.map AQ)) (.n 0)=some (.fptr 4 (e.args.map AQ) 0 0):=CE C;have L:BR jA H1 79 (.fptr 4 (e.args.map AQ) 0 0)=some (.agg (AQ a)):=by rw[DL NU G9 EF C,J]
 refine LP A F (XR k) (O1 k) K L ?_;refine(ih a i (I.arg i) (OB N i) H1).use ?_
 generalize (FX vs a)=x at f|-
 rw[show ra x.2=.tup [.n (if 0<=x.2 then x.2 else 0),.bool (decide (0<=x.2))] from rfl];refine AB ?_;cases B:decide (0<=x.2)
 .have q:=of_decide_eq_false B
  have j:(FX vs e).2 = -1:=by rw[f,if_neg U,if_neg q]
  refine A7 B ?_;exact⟨by rw[j];rfl,E⟩
 .have q:=of_decide_eq_true B
  refine AZ B (OZ k) ?_;refine(VN G vs m O Q e.name U H1).use ?_;refine AZ B q ?_;refine⟨?_,E⟩;by_cases q2:((szA vs e.name:Nat):Int)<=x.2
  .have j:(FX vs e).2=0:=by rw[f,if_pos q2]
   rw[j,decide_eq_true (show x.2≥((szA vs e.name:Nat):Int) from q2)];rfl
  .have j:(FX vs e).2 = -1:=by rw[f,if_neg q2,if_pos q]
   rw[j,decide_eq_false (show ¬x.2≥((szA vs e.name:Nat):Int) from q2)];rfl
theorem AVM (vs:List Vr)(m:SM)(S:vs.length<=1048576)(T:∀v∈vs,GG v.name=true)(e:Ex):en e->OM vs e=false->∀h:Hp,a_ (En G) 204 [.sl m 4 (vs.map bt),.agg (AQ e)] h (.n ((FX vs e).1:Nat)):=by
 induction e using Ex.induct with|h e ih=>?_
 intro C M h;have a6:=C.name;have a4:=C.len;have Z:=iJ vs e.name;refine ACalls.pure0 rfl ?_;refine cn Tryz.func204 4 ?_;have k:=A8 h (qH 4 [AQ e]);have J:=Sm.ext.r1 h (qH 4 [AQ e]);refine A7 @fa ?_
 generalize h++[qH 4 [AQ e]]=H1 at k J|-
 generalize h.length=eb at k|-
 have f:=QR vs e;unfold lq at f;refine A7 (IL k) ?_;refine(yE G vs m S T e C M H1).use ?_;unfold ra;refine AB ?_;cases P:decide (0<=(FX vs e).2)
 case true =>
  have q:=of_decide_eq_true P;refine A7 P ?_;exact⟨by rw[HM q];rfl,J⟩
 have q:=of_decide_eq_false P;refine AZ P (XR k) ?_
 have o1:¬e.op=1:=fun E=>by
  rw[if_pos E] at f;rw[f] at q;exact q (z_ C.self E).1
 rw[if_neg o1] at f;cases l:(e.op==24)
 case true =>
  have E:e.op=24:=BQ l;have h1:=S9 M (.inr E);rw[if_pos E] at f;have N:IntKind.i64.wrap (2*((szA vs e.name:Nat):Int))=2*((szA vs e.name:Nat):Int):=wrap_i64 U U;have w2:IntKind.i64.wrap (2*((szA vs e.name:Nat):Int)-1)=((2*szA vs e.name-1:Nat):Int):=by rw[wrap_i64 U U];omega
  refine AZ l (OZ k) ?_;refine(VN G vs m S T e.name U H1).use ?_;refine AZ N w2 ?_;exact⟨by rw[f],J⟩
 have a2:¬e.op=24:=BQ l;rw[if_neg a2] at f;refine A7 l ?_;have a3:(e.args.map (FX vs)).length=e.args.length:=jI _;refine EG 0 (fun F H=>F 0=.sl m 4 (vs.map bt)/\F 3=.ptr eb 0 0/\F 7=.n (WZ (e.args.map (FX vs)):Nat)/\H=H1) (fun _ _=>False) ?_ ?_ (fun _ _ q=>q.elim)
 .refine BB (fun n F H=>∃j,n+j=e.args.length/\F 0=.sl m 4 (vs.map bt)/\F 3=.ptr eb 0 0/\F 7=.n (WZ ((e.args.map (FX vs)).take j):Nat)/\F 8=.n (j:Nat)/\H=H1) e.args.length
   ⟨0,BA,AL,AL,AL,AL,rfl⟩ ?_
  rintro n F H ⟨j,hj,R,I,p,V,rfl⟩;refine DC I V (O1 k) ?_;refine DV ?_ ?_<;>intro A
  .have i:e.args[j]∈e.args:=jH A
   have Y:j<(e.args.map (FX vs)).length:=U;have K:(e.args.map (FX vs))[j]=FX vs e.args[j]:=BA;have s1:=yo ((e.args.map (FX vs)).take j);have s2:=nX vs e.args[j];have N:IntKind.i64.wrap (((WZ ((e.args.map (FX vs)).take j):Nat):Int)+(((FX vs e.args[j]).1:Nat):Int))=((WZ ((e.args.map (FX vs)).take j)+(FX vs e.args[j]).1:Nat):Int):=by rw[wrap_i64 U U];omega
   have mn:min 401 (((WZ ((e.args.map (FX vs)).take j)+(FX vs e.args[j]).1:Nat):Int))=((WZ ((e.args.map (FX vs)).take (j+1)):Nat):Int):=by
    rw[jW Y,iM,K];omega
   simp only[vQ,CP,↓reduceIte,jC,b_,P5,UY,R,I,p,V,O1 k,CE A,DL NU G9 EF A];refine(ih e.args[j] i (C.arg i) (OB M i) H).use ?_;refine G7 p V N mn (CZ j) ?_;exact⟨n-1,U,j+1,U,AO,AO,AO,AO,AO⟩
  .rw[jK U] at p
   refine AB ?_;exact⟨AO,AO,AO,AO⟩
 rintro F H ⟨R,I,p,rfl⟩;refine AZ I (XR k) ?_;cases O:(e.op != 3)
 case true =>
  have E:e.op≠3:=BQ O;refine AZ O p ?_;exact⟨by rw[f,if_pos E],J⟩
 have o3:e.op=3:=BQ O;rw[if_neg (fun q=>q o3)] at f;have hz:=S9 M (.inl o3);obtain⟨a,g⟩:=SA C.self o3;have i:a∈e.args:=by rw[g];simp
 have B:U0 (e.args.map (FX vs))=FX vs a:=by rw[g];rfl
 have hsum:WZ (e.args.map (FX vs))=min (1+(FX vs a).1) 401:=by rw[g];rfl
 have hle:=nX vs a;rw[B] at f;rw[hsum] at p;have L:0<e.args.length:=by rw[g];exact Nat.one_pos
 have X:e.args[0]=a:=by simp [g]
 have a0:JJ 4 H (.sl e.m 4 (e.args.map AQ)) (.n 0)=some (.fptr 4 (e.args.map AQ) 0 0):=CE L;have a1:BR jA H 79 (.fptr 4 (e.args.map AQ) 0 0)=some (.agg (AQ a)):=by rw[DL NU G9 EF L,X]
 refine LP O R I (O1 k) a0 a1 ?_;refine(yE G vs m S T a (C.arg i) (OB M i) H).use ?_;unfold ra;generalize FX vs a=x at f p hle;refine AB ?_;cases Q:decide (0<=x.2)
 case true =>
  have q:=of_decide_eq_true Q;refine A7 Q ?_;refine⟨?_,J⟩;rw[f,if_pos q];split<;>rfl
 have q2:=of_decide_eq_false Q;rw[if_neg U,if_neg q2] at f;refine EH Q R I (OZ k) ?_;refine(VN G vs m S T e.name U H).use ?_;have N:IntKind.i64.wrap (((min (1+x.1) 401:Nat):Int)+3)=((min (1+x.1) 401+3:Nat):Int):=by rw[wrap_i64 U U];omega
 have a5:szA vs e.name*(min (1+x.1) 401+3)<=8*404:=Nat.mul_le_mul Z U;have w2:IntKind.i64.wrap (((szA vs e.name:Nat):Int)*((min (1+x.1) 401+3:Nat):Int))=((szA vs e.name*(min (1+x.1) 401+3):Nat):Int):=by rw[<-wU,wrap_i64 U U]
 have w3:IntKind.i64.wrap (((szA vs e.name*(min (1+x.1) 401+3):Nat):Int)+1)=((szA vs e.name*(min (1+x.1) 401+3)+1:Nat):Int):=by rw[wrap_i64 U U];omega
 have mn:min 401 (((szA vs e.name*(min (1+x.1) 401+3)+1:Nat):Int))=((min (szA vs e.name*(x.1+4)+1) 401:Nat):Int):=by grind
 refine G7 p N w2 w3 mn ?_;exact⟨by rw[f],J⟩
end
end Bd.Cl
namespace Ho
open Sm Bins Cov Go.RowKit
variable {m:Mo} {x:Hl} {ins:Ex->List cp->Ex}
def U7 (m:Mo)(x:Hl):List (Nat×Nat):=((cN m x).map Int.toNat).zip (x.bins.map Int.toNat)
theorem Hk (l:List Int)(h:∀z∈l,0<=z):(l.map Int.toNat).map (fun n:Nat=>(n:Int))=l:=by
 rw[qG]
 conv=>rhs;rw[<-List.map_id l]
 exact List.map_congr_left fun z a=>by have:=h z a;show((z.toNat:Nat):Int)=z;omega
theorem pL (Q:O9 m x=true):tf m x (U7 m x):=by
 have mk:∀(a f:List Int),cN m x=a->x.bins=f->a.length=f.length->(∀z∈a,0<=z)->(∀z∈f,0<=z)->1<=a.length->a.length<=4 ->
   (∀k (l:k<a.length) (p:k<f.length),∃h:a[k].toNat<m.pts.length,f[k].toNat<m.pts[a[k].toNat].bins.length)->tf m x (U7 m x):=by
  intro a f L B E Z S l1 l4 K
  have F:(U7 m x).map Prod.fst=a.map Int.toNat:=by
   unfold U7;rw[L,B,List.map_fst_zip (by simp [E])]
  have N:(U7 m x).map Prod.snd=f.map Int.toNat:=by
   unfold U7;rw[L,B,List.map_snd_zip (by simp [E])]
  have P:(U7 m x).length=a.length:=by have:=congrArg qJ F;simpa using this
  refine⟨?_,?_,fun q Y=>?_,U,U⟩
  .have:=congrArg (List.map fun n:Nat=>(n:Int)) F
   rw[Hk a Z,qG] at this;rw[L];exact this.symm
  .have:=congrArg (List.map fun n:Nat=>(n:Int)) N
   rw[Hk f S,qG] at this;rw[B];exact this.symm
  .obtain⟨k,hk,rfl⟩:=qR Y
   have l:k<a.length:=U;have p:k<f.length:=U
   have T:(U7 m x)[k].1=a[k].toNat:=by
    have:((U7 m x).map Prod.fst)[k]?=(a.map Int.toNat)[k]? := by rw[F]
    rw[zB,zB,jP hk,jP l] at this;simpa using this
   have V:(U7 m x)[k].2=f[k].toNat:=by
    have:((U7 m x).map Prod.snd)[k]?=(f.map Int.toNat)[k]? := by rw[N]
    rw[zB,zB,jP hk,jP p] at this;simpa using this
   obtain⟨M,R⟩:=K k l p;rw[<-T] at M;refine⟨M,?_⟩;rw[V];have:m.pts[(U7 m x)[k].1]=m.pts[a[k].toNat]:=by congr 1
   rw[this];exact R
 cases C:x.cross
 .obtain⟨i,I,k,hk,j,B,X,O⟩:=iH Q C
  refine mk [(i:Int)] [(k:Int)] ?_ B rfl (fun z j=>?_) (fun z j=>?_) BA BA fun k' l p=>?_
  .unfold cN;rw[if_neg (by rw[C];decide),j]
  .rw[wH.1 j];omega
  .rw[wH.1 j];omega
  .simp_all
 .obtain⟨i,I,j,A,hh,O⟩:=iI Q C
  have g:=O.crs _ (jH I);have E:=QL A;have J:m.crs[i].pts.length=x.bins.length:=by rw[<-E];unfold szs;rw[jI]
  have p:=g.two;have h4:=g.four;refine mk m.crs[i].pts x.bins ?_ rfl J (fun z j=>(g.here z j).1) (fun z j=>?_) U U fun k l p=>?_
  .unfold cN;rw[if_pos C,j,cD I]
  .obtain⟨k,hk,rfl⟩:=qR j
   exact(YT A k hk U).1
  .obtain⟨M,R⟩:=YT A k p l
   refine⟨g.here.toNat l,?_⟩;have:=g.here.bins l;rw[this];omega
theorem Jl (i:dt m)(g:F6 m=0){p:Pt}(f:p∈m.pts){b:Bin}(h:b∈p.bins):A4 p b:=by
 have v:=oK g p f;have a:=v.bins b h;have k:=v.n64;have l:=a.few;have q:=v.badLen;exact⟨a.ne,U,fun s j=>by have:=(a.each s j).2.1;omega,U,U,(i.pts p f).ex⟩
theorem tC {P:Ex->Prop}{ins:Ex->List cp->Ex}{m:Mo}(f:F6 m=0){q:Nat×Nat}(h:q.1<m.pts.length)(h2:q.2<m.pts[q.1].bins.length)
  (a:∀l:List cp,l.length<=4096->P (ins m.pts[q.1].ex l)/\P (notE (ins m.pts[q.1].ex l))):∀r∈fi ins m q,r.length<=2/\∀e∈r,P e:=by
 rw[kQ ins h h2];have v:=oK f _ (jH h);have i:=v.bins _ (jH h2);exact Z6 (fun s g=>(a s.l (by have:=(i.each s g).2.1;omega)).1) fun _=>(a _ v.badLen).2
theorem zh (f:F6 m=0){q:Nat×Nat}(h:q.1<m.pts.length)(h2:q.2<m.pts[q.1].bins.length):1<=(fi ins m q).length/\(fi ins m q).length<=8:=by
 rw[kQ ins h h2,AVF];have a:=(oK f _ (jH h)).bins _ (jH h2);exact⟨List.length_pos_iff.2 a.ne,a.few⟩
theorem Wc {P:Ex->Prop}{cs:List (List (List Ex))}(h:∀c∈cs,∀r∈c,∀e∈r,P e):∀r∈O3 cs,∀e∈r,P e:=by
 intro r g e a;unfold O3 at g;obtain⟨t,_,rfl⟩:=zO.1 g;unfold rowA at a;obtain⟨c,i,a⟩:=List.mem_flatMap.1 a;unfold YK at a;split at a
 .cases f:c[t-(QV cs-c.length)]? with
  | none=>rw[f] at a;cases a
  | some j=>rw[f] at a;exact h c i j (List.mem_of_getElem? f) e a
 .cases a
theorem EB {B:Nat}:∀ {R:List (List Ex)},(∀r∈R,r.length<=B)->R.flatten.length<=B*R.length
 | [],_=>BA
 | r::R,h=>by
   have f:=h r BA;have g:=EB (R:=R) fun r a=>h r (by simp [a])
   rw[List.flatten_cons,List.length_append,List.length_cons,Nat.mul_add];omega
theorem Dt {cs:List (List (List Ex))}(i:cs.length<=4)(g:∀c∈cs,c.length<=8)(h2:∀c∈cs,∀r∈c,r.length<=2):(O3 cs).length<=8/\(∀r∈O3 cs,r.length<=8)/\(O3 cs).flatten.length<=64:=by
 have h:QV cs<=8:=YR cs 0 _ (Nat.zero_le _) g;have a:(O3 cs).length<=8:=by unfold O3;simpa using h
 have b:∀r∈O3 cs,r.length<=8:=fun r f=>by
  unfold O3 at f;obtain⟨t,_,rfl⟩:=zO.1 f;have:=ZY (n:=QV cs) (t:=t) h2;omega
 refine⟨a,b,?_⟩;have:=EB b;omega
def fu (ins:Ex->List cp->Ex)(m:Mo)(x:Hl):List (List Ex):=Ce ins m (U7 m x)
def gz (ins:Ex->List cp->Ex)(m:Mo)(x:Hl):Int:=if O9 m x=true then (if(fu ins m x).flatten.all (fun e=>c9 e==0)=true then 0 else 2) else 1
def jh (ins:Ex->List cp->Ex)(m:Mo)(x:Hl):AV:=.tup [if gz ins m x=0 then .sl .any 1 ((fu ins m x).map QC) else .sl .nil 0 [],.n (gz ins m x)]
theorem Yu (G:Nat->AV)(m:Mo)(x:Hl)(j:O9 m x=true)(h:Hp):∃s,a_ (En G) 94 [.agg (C9 m),.agg (FH x)] h (.sl s 1 ((cN m x).map Bins.bu)):=by
 cases a:x.cross
 .obtain⟨i,f,k,hk,g,A,q,l⟩:=iH j a
  exact⟨_,by have:=Tm G m x a h;unfold cN;rw[if_neg (by rw[a];decide)];exact this⟩
 .obtain⟨i,f,g,p,B,l⟩:=iI j a
  exact⟨_,by have:=Tn G m x a i f g h;unfold cN;rw[if_pos a,g,cD f];exact this⟩
section
variable (G:Nat->AV)
theorem Ww (m:Mo)(I:dt m)(F:F6 m=0)(x:Hl)(L:List (Nat×Nat))(g:tf m x L)(j:Nat)(l:j<L.length)(p A:Nat)(h:Hp)(E:h[p]?=some (qH 2 [C9 m]))(C:h[A]?=some (qH 3 [FH x])):
  a_ (En G) 92 [.n (j:Nat),.n (L[j].1:Nat),.ptr p 0 0,.ptr A 0 0] h (.sl .any 1 ((fi FT m L[j]).map eJ)):=by
 obtain⟨a,f⟩:=g.ok _ (jH l);have B:=Jl I F (jH a) (jH f);have i:j<x.bins.length:=by rw[g.bins,jI];exact l
 have k:x.bins[j]=((L[j].2:Nat):Int):=by
  have:x.bins[j]?=(L.map fun q=>((q.2:Nat):Int))[j]? := by rw[<-g.bins]
  rw[jP i,zB,jP l] at this;simpa using this
 rw[kQ FT a f];refine cn Tryz.func92 6 ?_;refine AB ?_;refine DI BC ?_;simp only[vQ,JX,KU,KE,↓reduceIte,jC,jO,b_,QJ,J5,J8,VU,VC E,CE a,DL lD cK JH a,uO C,CE i,BK ct i,Cov.cy,k];refine⟨_,tB G m.pts[L[j].1] L[j].2 f B h,?_⟩
 try refine AB ?_
 exact⟨AO,AO⟩
end
theorem AP (h:Hp)(xs:List (List AV)):DR jA false h 159 1 [(0,.sl .any 1 xs)]=some (.sl .full 1 [[.sl .any 1 xs]],h):=BC
theorem NN:∀l:List (List (List Ex)),LH (l.map PM)=true:=fun l=>by
 unfold LH;rw[List.all_eq_true];intro row a;obtain⟨c,_,rfl⟩:=zO.1 a;rfl
theorem AZ7 (ins:Ex->List cp->Ex)(m:Mo)(x:Hl)(n:Nat)(H:Hp):FK n H 3 (jh ins m x)=jh ins m x:=by
 unfold jh;split<;>rfl
theorem AZ8 (h:O9 m x=false):jh ins m x=.tup [.sl .nil 0 [],.n 1]:=by
 have:gz ins m x=1:=by unfold gz;rw[if_neg (by rw[h];decide)]
 unfold jh;rw[this];rfl
theorem AZ6 (h:O9 m x=true)(a:(fu ins m x).flatten.all (fun e=>c9 e==0)=false):jh ins m x=.tup [.sl .nil 0 [],.n 2]:=by
 have:gz ins m x=2:=by unfold gz;rw[if_pos h,if_neg (by rw[a];decide)]
 unfold jh;rw[this];rfl
theorem My (h:O9 m x=true)(a:(fu ins m x).flatten.all (fun e=>c9 e==0)=true):jh ins m x=.tup [.sl .any 1 ((fu ins m x).map QC),.n 0]:=by
 have:gz ins m x=0:=by unfold gz;rw[if_pos h,if_pos a]
 unfold jh;rw[this];rfl
theorem bC (h:O9 m x=true):F6 m=0:=by
 unfold O9 at h;rw[Bool.and_eq_true] at h;simpa using h.1
section
variable (G:Nat->AV)
theorem uC (hG:fm G)(m:Mo)(hm:dt m)(x:Hl)(hn:x.bins.length<=1048576)(h:Hp):a_ (En G) 43 [.agg (C9 m),.agg (FH x)] h (jh FT m x):=by
 refine ACalls.pure (R:=fun v H=>v=jh FT m x/\Sm.ext h H) 3 ?_ (fun v H ⟨a,b⟩=>⟨b,by rw[a,AZ7]⟩);refine II (H:=hint [] [(36,[35])]) (ji G) Tryz.func43 rfl (by kernel_rfl) (by kernel_rfl) (jB (by kernel_rfl)) ?_;show dh _ _ _ _ _ (MW _ [.tmp 4,.tmp 5] _);have t:=Hb.mk' h m x;refine AZ @er @kz ?_
 generalize h++[qH 2 [C9 m]]++[qH 3 [FH x]]=H at t|-
 generalize (h++[qH 2 [C9 m]]).length=hb at t|-
 refine AZ (dk t.gm) (kl t.gh) ?_;refine(df G hG m hm x hn H).use ?_;cases V:O9 m x
 .refine AB ?_
  exact⟨by rw[AZ8 V],t.hx⟩
 have h0:=bC V;have S:=pL V;obtain⟨s,hp⟩:=Yu G m x V H;rw[S.pts] at hp;refine AZ (dk t.gm) (kl t.gh) ?_;refine hp.use ?_;have A:fu FT m x=O3 ((U7 m x).map (fi FT m)):=rfl;have a2:=S.n4;have ac:=S.n1
 have p:∀q∈U7 m x,(∀r∈fi FT m q,r.length<=2/\∀e∈r,WN e)/\1<=(fi FT m q).length/\(fi FT m q).length<=8:=fun q f=>by
  obtain⟨a,b⟩:=S.ok q f;have hw:=(hm.pts _ (jH a)).ex;exact⟨tC h0 a b fun l hl=>⟨(HW hw hl).1,(HU (HW hw hl)).1⟩,zh h0 a b⟩
 generalize U7 m x=L at S A a2 ac p;refine AB ?_;refine EG 0 (fun F g=>∃v,F 7=v/\Sm.ext H g/\bw 1 PM H (L.map (fi FT m)) v g) (fun _ _=>False) ?_ ?_ (fun _ _ q=>q.elim)
 .refine BB (fun n F g=>∃j v,n+j=L.length/\F 6=.fn (.func 92) [] [.ptr h.length 0 0,.ptr hb 0 0]/\F 7=v/\F 20=.sl s 1 ((L.map fun q=>((q.1:Nat):Int)).map Bins.bu)/\F 21=.n (L.length:Nat)/\F 22=.n (j:Nat)/\Sm.ext H g/\bw 1 PM H ((L.take j).map (fi FT m)) v g) L.length
   ⟨0,.sl .nil 0 [],BA,AL,AL,AL,AL,AL,ext.rfl' _,by rw[qA];exact bw.nil _ _ _ _⟩ ?_
  rintro n F g ⟨j,v,hj,f6,f7,f20,f21,f22,X,T⟩;refine AZ f21 f22 ?_;refine DV ?_ ?_<;>intro Q
  .have a0:j<(L.map fun q=>((q.1:Nat):Int)).length:=by rw[jI];exact Q
   have hg:(L.map fun q=>((q.1:Nat):Int))[j]=((L[j].1:Nat):Int):=BA;have a1:((L.take j).map (fi FT m)).length<8388608:=by rw[jI,jT];omega
   obtain⟨v',H2,ha,ae,_,aa,_,_⟩:=T.append (P:=jA) Bx Aw Bq Cj U a1 X (fi FT m L[j]);have a7:EJ jA true g 159 159 v (.sl .full 1 [[.sl .any 1 ((fi FT m L[j]).map eJ)]])=some (v',H2):=ha
   have ag:(L.take (j+1)).map (fi FT m)=(L.take j).map (fi FT m)++[fi FT m L[j]]:=by
    rw[jW Q,qE];rfl
   simp only[vQ,jU,jV,CP,List.nil_append,List.cons_append,↓reduceIte,jC,b_,J8,zZ,NR,f6,f7,f20,f22,CE a0,BK ct a0,Cov.cy,hg];refine(Ww G m hm h0 x L S j Q h.length hb g (DZ X t.gm) (DZ X t.gh)).use ?_;refine G7 f7 f22 @AP a7 (CZ j) ?_;exact⟨n-1,U,j+1,v',U,AO,AO,AO,AO,AO,aa,by rw[ag];exact ae⟩
  .rw[jK U] at T
   refine AB ?_;exact⟨v,AO,X,T⟩
 rintro F g ⟨v,f7,X,T⟩;have I:(L.map (fi FT m)).length<=4:=by rw[jI];exact a2
 have C:L.map (fi FT m)≠[]:=by intro q;have:=congrArg qJ q;rw[jI,List.length_nil] at this;omega
 have O:∀c∈L.map (fi FT m),c.length<=8:=fun c M=>by
  obtain⟨q,f,rfl⟩:=zO.1 M;exact(p q f).2.2
 have N:∀c∈L.map (fi FT m),∀r∈c,r.length<=2:=fun c M r hr=>by
  obtain⟨q,f,rfl⟩:=zO.1 M;exact((p q f).1 r hr).1
 have Z:∀c∈L.map (fi FT m),∀r∈c,∀e∈r,WN e:=fun c M r hr=>by
  obtain⟨q,f,rfl⟩:=zO.1 M;exact((p q f).1 r hr).2
 generalize L.map (fi FT m)=cs at T A I C O N Z;clear p hp
 obtain⟨o,rfl,ad,af⟩:∃o,v=.own o 0 cs.length/\H.length<=o/\g[o]?=some (qH 1 (cs.map PM)):=by
  rcases T with⟨e1,_⟩|⟨_,o,h1,h2,h3⟩
  .exact absurd e1 C
  .exact⟨o,h2,h1,h3⟩
 have hz:=gA (i:=35) (off:=0) (len:=cs.length) af BA (by rw[zI,jK BA];exact NN cs);rw[zI,jK BA] at hz;have a4:=X.set ad .dead;refine DC f7 @UJ hz ?_
 generalize g.set o .dead=H2 at a4|-
 refine(R_ G cs .any U (fun c M=>by have:=O c M;omega) N H2).use ?_;obtain⟨a8,a9,Y⟩:=Dt I O N
 have K:∀e∈(O3 cs).flatten,WN e:=fun e he=>by
  obtain⟨r,hr,he⟩:=List.mem_flatten.1 he;exact Wc Z r hr e he
 rw[<-A] at a8 a9 Y K|-
 clear A;refine AB ?_;refine(ey G (fu FT m x) .any U U H2).uu ?_
 generalize hE:(fu FT m x).flatten=E at Y K|-
 have a3:∀b,E.all (fun e=>c9 e==0)=b->(fu FT m x).flatten.all (fun e=>c9 e==0)=b:=fun b hb=>by rw[hE];exact hb
 have ab:=t.hx.trans a4;refine EG 2 (fun F g=>F 10=.sl .any 1 ((fu FT m x).map QC)/\Sm.ext h g/\E.all (fun e=>c9 e==0)=true) (fun F g=>F 4=.sl .nil 0 []/\F 5=.n 2/\Sm.ext h g/\E.all (fun e=>c9 e==0)=false) ?_ ?_ ?_
 .refine BB (fun n F g=>∃i,n+i=E.length/\F 10=.sl .any 1 ((fu FT m x).map QC)/\F 38=.sl (Cov.nm E) 4 (E.map AQ)/\F 39=.n (E.length:Nat)/\F 40=.n (i:Nat)/\Sm.ext h g/\E.all (fun e=>c9 e==0)=(E.drop i).all (fun e=>c9 e==0)) E.length
   ⟨0,BA,AL,AL,AL,AL,ab,rfl⟩ ?_
  rintro n F H3 ⟨i,hi,f10,a5,a6,J,k,f⟩;refine AZ a6 J ?_;refine DV ?_ ?_<;>intro B
  .rw[List.drop_eq_getElem_cons B,wZ] at f
   simp only[vQ,jU,jV,CP,↓reduceIte,jC,b_,P5,Option.getD_none,zZ,NR,a5,J,CE B,DL NU G9 EF B,OH,iN _ _ [.n 0,.n 0,.str ⟨#[]⟩,.sl .nil 0 []] rfl,ka];refine(dC G hG E[i] _ (K _ (jH B))).use ?_;simp only[vQ,jU,jV,CP,↓reduceIte,b_,zZ,NR,bne];cases hz:(c9 E[i]==0)
   .rw[hz,Bool.false_and] at f
    refine AB ?_;exact⟨AO,AO,k.app _,f⟩
   .rw[hz,Bool.true_and] at f
    refine AZ J (CZ i) ?_;exact⟨n-1,U,i+1,U,AO,AO,AO,AO,k.app _,f⟩
  .rw[List.drop_eq_nil_of_le U] at f
   refine AB ?_;exact⟨AO,k,f⟩
 .rintro F H3 ⟨f10,k,f⟩
  refine A7 f10 ?_;exact⟨by rw[My V (a3 _ f)],k⟩
 .rintro F H3 ⟨f4,f5,k,f⟩
  refine AZ f4 f5 ?_;exact⟨by rw[AZ6 V (a3 _ f)],k⟩
end
section
variable (G:Nat->AV)
theorem F0 (m:Mo)(g:dt m)(f:F6 m=0)(q:Nat×Nat)(a:q.1<m.pts.length)(h2:q.2<m.pts[q.1].bins.length)(h:Hp):a_ (En G) 201 [.agg (GL m.pts[q.1]),.n (q.2:Nat)] h (.sl .any 1 ((fi GI m q).map eJ)):=by
 rw[kQ GI a h2];exact K2 G m.pts[q.1] q.2 h2 (Jl g f (jH a) (jH h2)) ((oK f _ (jH a)).bins _ (jH h2)).one h
theorem AX3 {L:List (Nat×Nat)}(f:tf m x L){j:Nat}(g:j<L.length):∃a:j<x.bins.length,x.bins[j]=((L[j].2:Nat):Int):=by
 have a:j<x.bins.length:=by rw[f.bins,jI];exact g
 refine⟨a,?_⟩;have:x.bins[j]?=(L.map fun q=>((q.2:Nat):Int))[j]? := by rw[<-f.bins]
 rw[jP a,zB,jP g] at this;simpa using this
theorem LA {L:List (Nat×Nat)}(f:tf m x L){j:Nat}(g:j<L.length):∃a:j<(cN m x).length,(cN m x)[j]=((L[j].1:Nat):Int):=by
 have a:j<(cN m x).length:=by rw[f.pts,jI];exact g
 refine⟨a,?_⟩;have:(cN m x)[j]?=(L.map fun q=>((q.1:Nat):Int))[j]? := by rw[<-f.pts]
 rw[jP a,zB,jP g] at this;simpa using this
theorem Yt (m:Mo)(hm:dt m)(x:Hl)(S:O9 m x=true)(h:Hp):∃s,a_ (En G) 112 [.agg (C9 m),.agg (FH x)] h (.sl s 1 (((U7 m x).map (fi GI m)).map PM)):=by
 have h0:=bC S;have l:=pL S;have a3:=l.n4;have a2:=l.n1;cases C:x.cross
 .obtain⟨i,B,k,hk,O,J,a8,hg⟩:=iH S C
  have A:cN m x=[(i:Int)]:=by unfold cN;rw[if_neg (by rw[C];decide),O]
  have f:=l.pts;have g:=l.bins;rw[A] at f;rw[J] at g
  have hl:(U7 m x)=[(i,k)]:=by
   generalize U7 m x=L at f g
   match L,f,g with
   | [q],f,g =>
     simp at f g;obtain⟨a,b⟩:=q;simp at f g;obtain rfl:a=i:=U;obtain rfl:b=k:=U;rfl
  refine⟨.full,?_⟩;rw[hl];refine ACalls.pure0 rfl ?_;refine cn Tryz.func112 4 ?_;have t:=Hb.mk' h m x;refine AZ @er @kz ?_
  generalize h++[qH 2 [C9 m]]++[qH 3 [FH x]]=H at t|-
  generalize (h++[qH 2 [C9 m]]).length=b3 at t|-
  have Q:=qp t.gh;have R:=uP t.gh;have l2:=uO t.gh;rw[C] at Q;rw[O] at R;rw[J] at l2;have I:0<([(k:Int)]:List Int).length:=BA;have i0:JJ 1 H (.sl x.bm 1 (([(k:Int)]:List Int).map Bins.bu)) (.n 0)=some (.fptr 1 (([(k:Int)]:List Int).map Bins.bu) 0 0):=CE (k:=1) I;have lb:BR jA H 3 (.fptr 1 (([(k:Int)]:List Int).map Bins.bu) 0 0)=some (.n (k:Int)):=(BK ct I).trans rfl;refine A7 Q ?_;refine DI BC ?_;simp only[vQ,↓reduceIte,jC,jO,b_,QJ,J5,J8,UZ,VU,VC t.gm,R,l2,CE B,DL lD cK JH B]
  try simp only[jJ,jM] at i0 lb
  try refine AZ i0 lb ?_
  refine⟨_,F0 G m hm h0 (i,k) B hk H,?_⟩
  try refine A7 @AP ?_
  exact⟨AO,t.hx⟩
 .obtain⟨i,B,O,a7,hh,hg⟩:=iI S C
  have A:cN m x=m.crs[i].pts:=by unfold cN;rw[if_pos C,O,cD B]
  generalize U7 m x=L at l a3 a2|-
  refine⟨_,JL (enc:=PM) (fun _ _ _ _=>⟨rfl,rfl⟩) ?_⟩;refine cn Tryz.func112 4 ?_;have t:=Hb.mk' h m x;refine AZ @er @kz ?_
  generalize h++[qH 2 [C9 m]]++[qH 3 [FH x]]=H at t|-
  generalize (h++[qH 2 [C9 m]]).length=b3 at t|-
  have Q:=qp t.gh;rw[C] at Q;refine A7 Q ?_
  refine BB (fun n F E=>∃j v,n+j=L.length/\F 2=.ptr h.length 0 0/\F 3=.ptr b3 0 0/\F 5=v/\F 6=.n (j:Nat)/\Sm.ext H E/\bw 1 PM H ((L.take j).map (fi GI m)) v E) L.length
   ⟨0,.sl .nil 0 [],BA,AL,AL,AL,AL,ext.rfl' _,by rw[qA];exact bw.nil _ _ _ _⟩ ?_
  rintro n F E ⟨j,v,hj,f2,f3,f5,V,T,ho⟩;have gm:=DZ T t.gm;have X:=DZ T t.gh;have a0:x.bins.length=L.length:=by rw[l.bins,jI]
  refine EH f3 V (uO X) a0 ?_;refine DV ?_ ?_<;>intro p
  .obtain⟨J,Z⟩:=AX3 l p
   obtain⟨hp,a5⟩:=LA l p;obtain⟨q1,q2⟩:=l.ok _ (jH p);have R:=uP X;rw[O] at R;have M:j<m.crs[i].pts.length:=by rw[<-A];exact hp
   have N:m.crs[i].pts[j]=((L[j].1:Nat):Int):=by
    rw[<-a5];congr 1;exact A.symm
   have K:((L.take j).map (fi GI m)).length<8388608:=by rw[jI,jT];omega
   obtain⟨v',H2,ha,a4,_,a1,_,_⟩:=ho.append (P:=jA) Bx Aw Bq Cj U K T (fi GI m L[j]);have Y:EJ jA true E 159 159 v (.sl .full 1 [[.sl .any 1 ((fi GI m L[j]).map eJ)]])=some (v',H2):=ha
   have a6:(L.take (j+1)).map (fi GI m)=(L.take j).map (fi GI m)++[fi GI m L[j]]:=by
    rw[jW p,qE];rfl
   refine AB ?_;refine DI BC ?_;simp only[vQ,JX,KU,KE,CP,↓reduceIte,jC,jO,b_,QJ,UG,J5,MN,J8,UZ,VU,LQ,f2,f3,V,VC gm,ZM gm,R,CE B,BK MB B,U1,CE M,BK ct M,Cov.cy,N,CE q1,DL lD cK JH q1,uO X,CE J,BK ct J,Z];refine⟨_,F0 G m hm h0 L[j] q1 q2 E,?_⟩
   try refine G7 f5 V @AP Y (CZ j) ?_
   exact⟨n-1,U,j+1,v',U,AO,AO,AO,AO,a1,by rw[a6];exact a4⟩
  .rw[jK U] at ho
   refine A7 f5 ?_;exact⟨t.hx.trans T,ho.base t.hx.le⟩
end
theorem XW (e:Ex):(cg e).op=e.op:=by rw[TN];rfl
theorem m7 (e:Ex):(cg e).n=e.n:=by rw[TN];rfl
theorem WO (e:Ex):(cg e).name=e.name:=by rw[TN];rfl
theorem Y2 (e:Ex):(cg e).args=e.args.map cg:=by rw[TN];rfl
theorem AS8 (e:Ex):IQ (cg e)=IQ e:=by
 unfold IQ Cov.dy eN XZ XY;rw[XW,m7,WO,Y2,jI]
theorem El:∀l:List Ex,(∀e∈l,pre (cg e)=(pre e).map cg)->FV (l.map cg)=(FV l).map cg
 | [],_=>rfl
 | e::l,h=>by
   show pre (cg e)++FV (l.map cg)=(pre e++FV l).map cg;rw[qE,h e BA,El l fun x a=>h x (by simp [a])]
theorem iU (e:Ex):pre (cg e)=(pre e).map cg:=by
 induction e using Ex.induct with|h e ih=>?_
 rw[pre_eq,pre_eq e,Y2,El _ ih,jJ]
theorem Fy:∀l:List Ex,(∀e∈l,dep (cg e)=dep e)->deps (l.map cg)=deps l
 | [],_=>rfl
 | e::l,h=>by
   show max (dep (cg e)) (deps (l.map cg))=max (dep e) (deps l);rw[h e BA,Fy l fun x a=>h x (by simp [a])]
theorem Mp (e:Ex):dep (cg e)=dep e:=by
 induction e using Ex.induct with|h e ih=>?_
 rw[Y0,Y0 e,Y2,Fy _ ih]
theorem AUU (l:List Ex):errs (l.map cg)=errs l:=by
 unfold errs;rw[List.foldl_map];congr 1;funext z e;rw[AS8]
theorem uw (e:Ex):c9 (cg e)=c9 e:=by
 unfold c9;rw[iU,AUU,Mp,jI]
theorem Fk (g:O9 m x=true):lk (fu FT m x) (fu GI m x):=by
 have p:=pL g;have k:=bC g;unfold fu Ce;refine Zv BA fun i l A=>?_
 rw[List.getElem_map,List.getElem_map];obtain⟨a,b⟩:=p.ok _ (jH (BQ l));rw[kQ _ a b,kQ _ a b];have j:=oK k _ (jH a);have h:=j.bins _ (jH b);exact AUX (fun s f=>xE (h.each s f).2.2 (h.each s f).1) (fun q=>xE j.badOk q)
theorem Ad {P:Ex->Bool}(f:∀e,P (cg e)=P e):∀ {a b:List Ex},a.map cg=b.map cg->a.all P=b.all P
 | [],[],_=>rfl
 | [],_::_,h=>by cases h
 | _::_,[],h=>by cases h
 | x::xs,y::ys,h=>by
   simp only[jJ,List.cons.injEq] at h;rw[wZ,wZ,Ad f h.2,<-f x,h.1,f y]
theorem Fp {a b:List (List Ex)}(h:lk a b):a.flatten.map cg=b.flatten.map cg:=by
 have:=congrArg List.flatten (show a.map (·.map cg)=b.map (·.map cg) from h);rw[List.map_flatten,List.map_flatten];exact this
theorem Mz (m:Mo)(x:Hl):gz FT m x=gz GI m x:=by
 unfold gz;split
 .rename_i a
  rw[Ad (P:=fun e=>c9 e==0) (fun e=>by simp only[uw]) (Fp (Fk a))]
 .rfl
end Ho
namespace Bd.Cl
open Sm Bins Cov Xe Wd Bl Ho Go.RowKit
variable {b k:Nat} {vs:List Vr} {e:Ex} {H:Hp} {r:List AV}
def gw (a:ByteArray)(k:Nat):Ex:=J7 (elN a k)
def W9 (a:ByteArray):Nat->Ex
 | 0=>gw a 0
 | k+1=>.mk 7 0 ⟨#[]⟩ .full [W9 a k,gw a (k+1)]
def jx (c:Ex->Ex)(a:ByteArray)(i:Ex)(n:Nat):Nat->Ex
 | 0=>cE 0
 | j+1=>.mk 22 0 ⟨#[]⟩ .full [.mk 15 0 ⟨#[]⟩ .full [c i,cE ((n-1-j:Nat):Int)],gw a (n-1-j),jx c a i n j]
def Y4 (c:Ex->Ex)(a:ByteArray)(i:Ex)(n:Nat):Ex:=if i.op=1 then (if i.n<(n:Int) then gw a i.n.toNat else cE 0) else jx c a i n n
structure Bw where
 c:Ex->Ex
 md:List Ex->SM
def l8 (s:Bw)(vs:List Vr)(op n:Int)(a:ByteArray)(l:List Ex):Ex :=
 if op=24 then W9 a (szA vs a-1) else if op=3 then Y4 s.c a (l.head?.getD (cE 0)) (szA vs a) else .mk op n a (s.md l) l
mutual
def EW (s:Bw)(vs:List Vr):Ex->Ex
 | .mk g n f _ a=>l8 s vs g n f (rk s vs a)
def rk (s:Bw)(vs:List Vr):List Ex->List Ex
 | []=>[]
 | e::es=>EW s vs e::rk s vs es
end
theorem vU (s:Bw)(vs:List Vr):∀l:List Ex,rk s vs l=l.map (EW s vs)
 | []=>by simp [rk]
 | e::es=>by simp [rk,vU s vs es]
theorem RG (s:Bw)(vs:List Vr)(e:Ex):EW s vs e=l8 s vs e.op e.n e.name (e.args.map (EW s vs)):=by
 cases e;simp only[EW,vU];rfl
def c6:Bw:=⟨cg,fun _=>.any⟩
def de:Bw:=⟨id,fun l=>Cov.nm l⟩
theorem Pe (e:Ex):cg (cg e)=cg e:=by
 induction e using Ex.induct with|h e ih=>?_
 rw[TN (cg e),XW,m7,WO,Y2,qG];have:e.args.map (cg ∘ cg)=e.args.map cg:=wB fun a f=>ih a f
 rw[this,<-TN]
def Bw.Ok (s:Bw):Prop:=∀e,cg (s.c e)=cg e
theorem oW:c6.Ok:=Pe
theorem zr:de.Ok:=fun _=>rfl
theorem vk {op n:Int}{a:ByteArray}{m m':SM}{l l':List Ex}(h:l.map cg=l'.map cg):cg (.mk op n a m l)=cg (.mk op n a m' l'):=by
 rw[TN,TN (.mk op n a m' l')];show Ex.mk op n a (Cov.nm (l.map cg)) (l.map cg)=Ex.mk op n a (Cov.nm (l'.map cg)) (l'.map cg);rw[h]
theorem Ah {s t:Bw}(g:s.Ok)(h:t.Ok){a:ByteArray}{i i':Ex}(f:cg i=cg i')(n:Nat):∀j,cg (jx s.c a i n j)=cg (jx t.c a i' n j)
 | 0=>rfl
 | j+1=>by
   have p:=Ah g h f n j (a:=a);refine vk ?_;simp only[jJ,jM,p];rw[vk (op:=15) (m:=.full) (m':=.full) (l:=[s.c i,cE ((n-1-j:Nat):Int)]) (l':=[t.c i',cE ((n-1-j:Nat):Int)])];simp only[jJ,jM,g i,h i',f]
theorem zu {s t:Bw}(p:s.Ok)(q:t.Ok)(vs:List Vr)(e:Ex):cg (EW s vs e)=cg (EW t vs e):=by
 induction e using Ex.induct with|h e ih=>?_
 rw[RG,RG t];have g:(e.args.map (EW s vs)).map cg=(e.args.map (EW t vs)).map cg:=by simp_all
 unfold l8;split
 .rfl
 split
 .have f:cg ((e.args.map (EW s vs)).head?.getD (cE 0))=cg ((e.args.map (EW t vs)).head?.getD (cE 0)):=by
   cases l:e.args with
   | nil=>rfl
   | cons a A=>exact ih a (by rw[l];simp)
  generalize (e.args.map (EW s vs)).head?.getD (cE 0)=x at f|-
  generalize (e.args.map (EW t vs)).head?.getD (cE 0)=y at f|-
  have j:x.op=y.op:=by rw[<-XW x,f,XW]
  have i:x.n=y.n:=by rw[<-m7 x,f,m7]
  unfold Y4;rw[j,i];split
  .rfl
  .exact Ah p q f _ _
 .exact vk g
def Bw.Len (s:Bw):Prop:=∀e,(pre (s.c e)).length=(pre e).length/\(∀N,gl N e->gl N (s.c e))
theorem Gj:c6.Len:=fun e=>⟨by show(pre (cg e)).length=_;rw[iU,jI],fun N h=>HZ e h⟩
theorem AXM:de.Len:=fun e=>⟨rfl,fun N h=>h⟩
theorem YN (op n:Int)(a:ByteArray)(m:SM)(l:List Ex):(pre (.mk op n a m l)).length=1+(FV l).length:=by rw[pre_eq,zF];show _+1=1+(FV l).length;rw[Nat.add_comm];rfl
theorem pO:FV []=[]:=rfl
theorem Q4 (e:Ex)(l:List Ex):FV (e::l)=pre e++FV l:=rfl
theorem Gy (a:ByteArray)(k:Nat):(pre (gw a k)).length=1:=rfl
theorem L7 (n:Int):(pre (cE n)).length=1:=rfl
theorem D1 (a:ByteArray):∀k,(pre (W9 a k)).length=2*k+1
 | 0=>rfl
 | k+1=>by
   have f:=D1 a k;show(pre (.mk 7 0 ⟨#[]⟩ .full [W9 a k,gw a (k+1)])).length=_;rw[YN,Q4,Q4,pO,jX,jX,f,Gy];simp;omega
theorem Hz {s:Bw}(f:s.Len)(a:ByteArray)(i:Ex)(n:Nat):∀j,(pre (jx s.c a i n j)).length=j*((pre i).length+4)+1
 | 0=>by rw[Nat.zero_mul];rfl
 | j+1=>by
   have g:=Hz f a i n j;show(pre (.mk 22 0 ⟨#[]⟩ .full [.mk 15 0 ⟨#[]⟩ .full [s.c i,cE ((n-1-j:Nat):Int)],gw a (n-1-j),jx s.c a i n j])).length=_;rw[YN,Q4,Q4,Q4,pO,jX,jX,jX,g,Gy,YN,Q4,Q4,pO,jX,jX,L7,(f i).1,Nat.add_mul];simp;omega
theorem ny (x:Nat):¬(0:Int)<=((x,-1):Nat×Int).2:=by show ¬(0:Int)<=-1;decide
theorem HD:∀(l:List (Nat×Int)) (s:Nat),s<=401->s<=l.foldl (fun s x=>min (s+x.1) 401) s
 | [],s,_=>jF s
 | x::l,s,h=>by
   have:=HD l (min (s+x.1) 401) U;rw[qU];omega
theorem Ey:∀(l:List (Nat×Int)) (s:Nat),l.foldl (fun s x=>min (s+x.1) 401) s<=400->l.foldl (fun s x=>min (s+x.1) 401) s=(l.map Prod.fst).foldl (·+·) s/\∀x∈l,x.1<=400
 | [],s,_=>⟨rfl,fun x f=>by cases f⟩
 | x::l,s,h=>by
   rw[qU] at h|-
   have j:=HD l (min (s+x.1) 401) U;have e:min (s+x.1) 401=s+x.1:=U;obtain⟨g,i⟩:=Ey l (min (s+x.1) 401) h;refine⟨by rw[g,e];rfl,fun y a=>?_⟩;rcases zM.1 a with rfl|a
   .omega
   .exact i y a
theorem D0 {l:List (Nat×Int)}(h:WZ l<=400):WZ l=(l.map Prod.fst).foldl (·+·) 1/\∀x∈l,x.1<=400:=Ey l 1 h
theorem vZ:∀(l:List Ex) (z:Nat),z+(FV l).length=(l.map fun e=>(pre e).length).foldl (·+·) z
 | [],z=>rfl
 | e::l,z=>by
   rw[jJ,qU,<-vZ l,Q4,jX];omega
theorem AU5 (a:ByteArray)(k:Nat):(elN a k).size=a.size+3:=by
 rw[yn,RV,jX,yn];rfl
theorem oG {a:ByteArray}{N:Nat}(h:a.size+3<=N):gl N (gw a k):=gl.mk (by rw[AU5];exact h) fun x f=>by cases f
theorem FJ {a:ByteArray}{N:Nat}(h:a.size+3<=N):∀k,gl N (W9 a k)
 | 0=>oG h
 | k+1=>gl.mk (qN _) fun x f=>by
   simp only[zM,List.not_mem_nil,or_false] at f;rcases f with rfl|rfl
   .exact FJ h k
   .exact oG h
theorem H_ {s:Bw}(l:s.Len){a:ByteArray}{i:Ex}{n N:Nat}(h:a.size+3<=N)(g:gl N i):∀j,gl N (jx s.c a i n j)
 | 0=>eT N 0
 | j+1=>gl.mk (qN _) fun x f=>by
   simp only[zM,List.not_mem_nil,or_false] at f;rcases f with rfl|rfl|rfl
   .refine gl.mk (qN _) fun x f=>?_
    simp only[zM,List.not_mem_nil,or_false] at f;rcases f with rfl|rfl
    .exact(l i).2 N g
    .exact eT N _
   .exact oG h
   .exact H_ l h g j
theorem AWQ {s:Bw}(g:s.Len){a:ByteArray}{i:Ex}{n N:Nat}(h:a.size+3<=N)(f:gl N i):gl N (Y4 s.c a i n):=by
 unfold Y4;split
 .split
  .exact oG h
  .exact eT N 0
 .exact H_ g h f n
theorem Lt {s:Bw}(l:s.Len)(vs:List Vr)(e:Ex):en e->gl 22 (EW s vs e):=by
 induction e using Ex.induct with|h e ih=>?_
 intro f;have j:=f.name;rw[RG];unfold l8;split
 .exact FJ U _
 split
 .refine AWQ l U ?_
  cases i:e.args with
  | nil=>exact eT _ _
  | cons a q=>exact ih a (by rw[i];simp) (f.arg (by rw[i];simp))
 .refine gl.mk U fun x p=>?_
  obtain⟨a,g,rfl⟩:=zO.1 p;exact ih a g (f.arg g)
theorem nW {a:Ex}(j:en e)(A:OM vs e=false)(h:(FX vs e).1<=400)(f:a∈e.args):(FX vs a).1<=400:=by
 rw[QR] at h;unfold lq at h;split at h
 .rename_i l;rw[hU j.self (.inl l)] at f;cases f
 split at h
 .rename_i l;rw[hU j.self (.inr (.inr l))] at f;cases f
 split at h
 .exact(D0 h).2 _ (zO.2 ⟨a,f,rfl⟩)
 .rename_i F C i
  have i:e.op=3:=BQ i;obtain⟨b,p⟩:=SA j.self i;have B:=S9 A (.inl i);rw[p] at f h;rw[List.mem_singleton.1 f];have g:U0 ([b].map (FX vs))=FX vs b:=rfl;rw[g] at h;have one:0<=(FX vs b).2->(FX vs b).1<=400:=fun q=>by rw[HM q];decide
  split at h
  .exact one U
  split at h
  .exact one (by assumption)
  .have h:min (szA vs e.name*((FX vs b).1+4)+1) 401<=400:=h
   have E:1*((FX vs b).1+4)<=szA vs e.name*((FX vs b).1+4):=Nat.mul_le_mul B (jF _);omega
theorem bG {s:Bw}:en e->OM vs e=false->((EW s vs e).op=1↔0<=(FX vs e).2)/\(0<=(FX vs e).2->(EW s vs e).n=(FX vs e).2):=by
 induction e using Ex.induct with|h e ih=>?_
 intro l E;rw[QR,RG];unfold lq l8;by_cases o1:e.op=1
 .have:=(z_ l.self o1).1
  rw[if_pos o1,if_neg U,if_neg U];exact⟨⟨fun _=>this,fun _=>o1⟩,fun _=>rfl⟩
 rw[if_neg o1];by_cases o24:e.op=24
 .rw[if_pos o24,if_pos o24]
  have:∀k,(W9 e.name k).op≠1:=fun k=>by
   cases k with
   | zero=>show(2:Int)≠1;decide
   | succ k=>show(7:Int)≠1;decide
  exact⟨⟨fun q=>absurd q (this _),fun q=>absurd q (ny _)⟩,fun q=>absurd q (ny _)⟩
 rw[if_neg o24,if_neg o24];by_cases o3:e.op=3
 .have B:¬e.op≠3:=fun q=>q o3
  rw[if_pos o3,if_neg B];obtain⟨b,C⟩:=SA l.self o3;have F:=S9 E (.inl o3);have j:b∈e.args:=by rw[C];simp
  obtain⟨g,A⟩:=ih b j (l.arg j) (OB E j);rw[C];have a:U0 ([b].map (FX vs))=FX vs b:=rfl;have i:(([b].map (EW s vs)).head?.getD (cE 0))=EW s vs b:=rfl;rw[a,i];unfold Y4;generalize EW s vs b=x at g A;generalize FX vs b=y at g A;by_cases q:x.op=1
  .have f:=g.1 q
   have p:=A f;rw[if_pos q,p];by_cases q2:(szA vs e.name:Int)<=y.2
   .rw[if_pos q2,if_neg U]
    exact⟨⟨fun _=>Int.le_refl 0,fun _=>rfl⟩,fun _=>rfl⟩
   .rw[if_neg q2,if_pos f,if_pos U]
    exact⟨⟨fun q=>absurd q (by show(2:Int)≠1;decide),fun q=>absurd q (ny _)⟩,fun q=>absurd q (ny _)⟩
  .have f:¬0<=y.2:=fun h=>q (g.2 h)
   rw[if_neg q,if_neg U,if_neg f]
   have:∀k,0<k->(jx s.c e.name x (szA vs e.name) k).op≠1:=fun k hk=>by
    cases k with
    | zero=>omega
    | succ k=>show(22:Int)≠1;decide
   exact⟨⟨fun q=>absurd q (this _ U),fun q=>absurd q (ny _)⟩,fun q=>absurd q (ny _)⟩
 .rw[if_pos o3,if_neg o3]
  exact⟨⟨fun q=>absurd q o1,fun q=>absurd q (ny _)⟩,fun q=>absurd q (ny _)⟩
theorem AXQ {s:Bw}(N:s.Len)(vs:List Vr)(e:Ex):en e->OM vs e=false->(FX vs e).1<=400->(pre (EW s vs e)).length=(FX vs e).1:=by
 induction e using Ex.induct with|h e ih=>?_
 intro j l f;have p:∀a∈e.args,(pre (EW s vs a)).length=(FX vs a).1:=fun a i=>ih a i (j.arg i) (OB l i) (nW j l f i)
 rw[RG]
 rw[QR] at f|-
 unfold lq at f|-
 unfold l8;by_cases o1:e.op=1
 .rw[if_pos o1,if_neg U,if_neg U,hU j.self (.inl o1)]
  rfl
 rw[if_neg o1] at f|-
 by_cases o24:e.op=24
 .have O:=S9 l (.inr o24)
  rw[if_pos o24,if_pos o24,D1];show 2*(szA vs e.name-1)+1=2*szA vs e.name-1;omega
 rw[if_neg o24] at f|-
 rw[if_neg o24];by_cases o3:e.op=3
 .have L:¬e.op≠3:=fun q=>q o3
  rw[if_neg L] at f|-
  rw[if_pos o3];obtain⟨b,M⟩:=SA j.self o3;have O:=S9 l (.inl o3);have I:b∈e.args:=by rw[M];simp
  obtain⟨B,K⟩:=bG (s:=s) (j.arg I) (OB l I);have F:=p b I
  rw[M] at f|-
  have g:U0 ([b].map (FX vs))=FX vs b:=rfl;have E:(([b].map (EW s vs)).head?.getD (cE 0))=EW s vs b:=rfl
  rw[g] at f|-
  rw[E];unfold Y4;generalize EW s vs b=x at B K F;generalize FX vs b=y at B K F f;by_cases q:x.op=1
  .have A:=B.1 q
   have J:=K A;rw[if_pos q,J];by_cases q2:(szA vs e.name:Int)<=y.2
   .rw[if_pos q2,if_neg U];rfl
   .rw[if_neg q2,if_pos A,if_pos U];rfl
  .have A:¬0<=y.2:=fun h=>q (B.2 h)
   have C:¬(szA vs e.name:Int)<=y.2:=U
   rw[if_neg C,if_neg A] at f|-
   rw[if_neg q,Hz N,F];have f:min (szA vs e.name*(y.1+4)+1) 401<=400:=f;show szA vs e.name*(y.1+4)+1=min (szA vs e.name*(y.1+4)+1) 401;omega
 .rw[if_pos o3] at f|-
  rw[if_neg o3];have C:=(D0 f).1;show(pre (.mk e.op e.n e.name (s.md (e.args.map (EW s vs))) (e.args.map (EW s vs)))).length=WZ (e.args.map (FX vs));rw[C,YN,vZ,qG,qG];congr 1;exact wB fun a i=>p a i
theorem zt {s:Bw}(f:s.Len)(a:en e)(i:OM vs e=false)(g:(FX vs e).1<=400):wt (EW s vs e)<=10000:=by
 have h:=Bv 22 (EW s vs e) (Lt f vs e a);rw[AXQ f vs e a i g] at h;have:(FX vs e).1*23<=400*23:=Nat.mul_le_mul_right _ g;omega
def fc (vs:List Vr)(e:Ex):Int:=if OM vs e=true then 7 else if 400<(FX vs e).1 then 2 else c9 (EW c6 vs e)
theorem HP {a b:Ex}(h:cg a=cg b):c9 a=c9 b:=by rw[<-uw a,h,uw]
theorem AXS (vs:List Vr)(e:Ex):c9 (EW de vs e)=c9 (EW c6 vs e):=HP (zu zr oW vs e)
def k9 (s:Bw)(vs:List Vr)(e:Ex):AV:=.tup [.agg (if fc vs e=0 then AQ (EW s vs e) else EQ),.n (fc vs e)]
theorem Ia (n:ByteArray):cz (.agg (NQ n)) (.agg (AQ (J7 n))):=by
 rw[FP];exact cz.agg (cq.cons (cz.refl _) (cq.cons (cz.refl _) (cq.cons (cz.refl _) (cq.cons (cz.sl (Cv.nil 0 4)) cq.nil))))
theorem s_ (op:Int)(m:SM)(xs:List (List AV)):IY jA 79 [(0,.n op),(3,.sl m 4 xs)]=some (.agg [.n op,.n 0,.str ⟨#[]⟩,.sl m 4 xs]):=BC
theorem sG (op:Int)(m:SM)(l:List Ex):AQ (.mk op 0 ⟨#[]⟩ m l)=[.n op,.n 0,.str ⟨#[]⟩,.sl m 4 (l.map AQ)]:=FP _
theorem bs3 (h:Hp)(a b c:Ex):DR jA false h 23 3 [(0,.agg (AQ a)),(1,.agg (AQ b)),(2,.agg (AQ c))]=some (.sl .full 4 [AQ a,AQ b,AQ c],h):=by
 rw[FP a,FP b,FP c];exact(BC:DR jA false h 23 3 [(0,.agg [.n a.op,.n a.n,.str a.name,.sl a.m 4 (a.args.map AQ)]),(1,.agg [.n b.op,.n b.n,.str b.name,.sl b.m 4 (b.args.map AQ)]),(2,.agg [.n c.op,.n c.n,.str c.name,.sl c.m 4 (c.args.map AQ)])]=_)
theorem z4:([AV.int .i64 0,.n 0,.str ⟨#[]⟩,.sl .nil 0 []]:List AV)=EQ:=rfl
section
variable (G:Nat->AV)
theorem TT (a:ByteArray)(k:Nat)(hk:k<9)(i:a.size<=1048576)(h:Hp):a_ (En G) 302 [.str a,.n (k:Nat)] h (.agg (AQ (gw a k))):=by
 refine a_.res ?_ (Ia (elN a k));refine RN 3 (fun n H=>rfl) ?_;refine e7 Tryz.func302 [.cell 4 79] ?_;have f:=A8 h (qH 4 [EQ]);have g:=Sm.ext.r1 h (qH 4 [EQ]);refine AZ OH z4 ?_
 generalize h++[qH 4 [EQ]]=H1 at f g|-
 refine(sP G a k hk H1 i).use ?_;have j:=O4 (cs:=NQ (elN a k)) f rfl rfl rfl;refine AZ @qt j ?_;rw[IU (b:=h.length) AL (HY (CO f) rfl)];exact⟨rfl,g.set (jF _) _⟩
theorem aC (n:Int)(h:Hp):a_ (En G) 304 [.n n] h (.agg (AQ (cE n))):=by
 refine a_.res ?_ (XX n);refine RN 3 (fun n H=>rfl) ?_;refine e7 Tryz.func304 [.cell 2 79] ?_;have a:=A8 h (qH 4 [EQ]);have f:=O4 (cs:=SL 1 n) a rfl rfl rfl;refine EH OH @tK z4 f ?_;rw[IU (b:=h.length) AL (HY (CO a) rfl)];exact⟨rfl,((ext.rfl' h).app _).set (jF _) _⟩
theorem iZ (op:Int)(m:SM)(l:List Ex)(h:Hp):a_ (En G) 303 [.n op,.sl m 4 (l.map AQ)] h (.agg (AQ (.mk op 0 ⟨#[]⟩ m l))):=by
 refine RN 3 (fun n H=>PL n H 0 _) ?_;refine e7 Tryz.func303 [.cell 4 79] ?_;have a:=A8 h (qH 4 [EQ]);have f:=O5 (e:=.mk op 0 ⟨#[]⟩ m l) a rfl;rw[sG] at f;refine EH OH @s_ z4 f ?_;rw[<-sG];rw[IU (b:=h.length) AL (MR (CO a))];exact⟨rfl,((ext.rfl' h).app _).set (jF _) _⟩
theorem TO:∀(w:Nat) (e:Ex) (h:Hp),wt e<=w->wt e<=1048576->a_ (En G) 305 [.agg (AQ e)] h (.agg (AQ (cg e))):=by
 intro w
 induction w with
 | zero=>intro e h h1 _;have:=OI e;omega
 | succ w ih =>
   intro e h h1 h2;have a0:=YB e.args;have a2:=OI e;refine a_.res (r:=.agg (pt e)) ?_ (Jm e);refine ACalls.pure (R:=fun v H=>Sm.ext h H/\FK h.length H 4 v=.agg (pt e)) 4 ?_ (fun v H ⟨a,b⟩=>⟨a,b⟩);refine e7 Tryz.func305 [.cell 2 79] ?_;have N:=AU (x:=qH 4 [[.n 0,.n 0,.str ⟨#[]⟩,.sl .nil 0 []]]) (A8 h (qH 4 [AQ e]));have J:=A8 (h++[qH 4 [AQ e]]) (qH 4 [[.n 0,.n 0,.str ⟨#[]⟩,.sl .nil 0 []]]);have X:Sm.ext h (h++[qH 4 [AQ e]]++[qH 4 [[.n 0,.n 0,.str ⟨#[]⟩,.sl .nil 0 []]]]):=((ext.rfl' h).app _).app _;have P:h.length<(h++[qH 4 [AQ e]]).length:=BA;refine AZ @fa OH ?_
   generalize h++[qH 4 [AQ e]]++[qH 4 [[.n 0,.n 0,.str ⟨#[]⟩,.sl .nil 0 []]]]=H0 at N J X|-
   generalize (h++[qH 4 [AQ e]]).length=b2 at J P|-
   have l2:=AY J;refine A7 (Rk.tp N) ?_
   refine BB (fun n F H=>∃k u,n+k=e.args.length/\F 1=.ptr h.length 0 0/\F 2=.ptr b2 0 0/\F 3=u/\F 7=.sl e.m 4 (e.args.map AQ)/\F 8=.n (e.args.length:Nat)/\F 9=.n (k:Nat)/\Sm.ext H0 H/\bw 4 AQ H0 ((e.args.take k).map cg) u H) e.args.length
    ⟨0,.sl .nil 0 [],BA,AL,AL,AL,AL,AL,AL,ext.rfl' _,bw.nil _ _ _ _⟩ ?_
   rintro n F H ⟨k,u,hk,Y,K,Z,f7,f8,L,l,A⟩;refine AZ f8 L ?_;refine DV ?_ ?_<;>intro g
   .have a1:=Rk.mc g
    have p:=l.app [qH 4 [AQ e.args[k]]];have B:=A.app [qH 4 [AQ e.args[k]]];have gT:=ka H e.args[k];simp only[vQ,CP,↓reduceIte,jC,b_,P5,jQ,f7,L,CE g,DL NU G9 EF g,OH,iN _ _ [.n 0,.n 0,.str ⟨#[]⟩,.sl .nil 0 []] rfl,gT]
    generalize H++[qH 4 [AQ e.args[k]]]=H1 at p B|-
    refine(ih e.args[k] H1 U U).use ?_;have hbs:=Q8 H1 (cg e.args[k]);obtain⟨v',H2,ha,C,_,Q,_,_⟩:=B.append NV G9 QF QD U NI p (cg e.args[k]);have e3:(e.args.take k).map cg++[cg e.args[k]]=(e.args.take (k+1)).map cg:=by rw[jW g,qE];rfl
    rw[e3] at C;refine G7 Z hbs ha L (CZ k) ?_;exact⟨n-1,U,k+1,v',U,AO,AO,AO,AO,AO,AO,Q,C⟩
   .rw[jK U] at A
    have f:=DZ l N;have M:=DZ l J;have hle:=l.le;have S:=A.leaf;have O:h.length<H0.length:=U
    have V:D7 jA H 23 (.ptr h.length 0 3) u=some (H.set h.length (qH 4 [[.n e.op,.n e.n,.str e.name,u]])):=by
     rw[FP] at f;rcases A with⟨_,rfl⟩|⟨_,o,_,rfl,_⟩
     .rw[JV (cs:=[.sl .nil 0 []]) rfl (BC:da jA 23=some 1) f BA];rfl
     .rw[JV (cs:=[.own o 0 _]) rfl (BC:da jA 23=some 1) f BA];rfl
    have j:(H.set h.length (qH 4 [[.n e.op,.n e.n,.str e.name,u]]))[h.length]?=some (qH 4 [[.n e.op,.n e.n,.str e.name,u]]):=CO f;have i:(H.set h.length (qH 4 [[.n e.op,.n e.n,.str e.name,u]]))[b2]?=_:=DU M U;have E:bw 4 AQ H0 (e.args.map cg) u (H.set h.length (qH 4 [[.n e.op,.n e.n,.str e.name,u]])):=A.setB O _;have I:Sm.ext h (H.set h.length (qH 4 [[.n e.op,.n e.n,.str e.name,u]])):=(X.trans l).set (jF _) _;refine EH Y K Z V ?_
    generalize H.set h.length (qH 4 [[.n e.op,.n e.n,.str e.name,u]])=H3 at j i E I|-
    have q:([.n e.op,.n e.n,.str e.name,u]:List AV).all AV.leaf=true:=by simp [S];exact⟨rfl,rfl,rfl⟩
    refine EH Y K (HY j rfl) (O4 i rfl rfl q) ?_;rw[IU (b:=b2) (DY K) (HY (CO i) rfl)];refine⟨I.set U _,?_⟩;have T:=E.setB (b:=b2) l2 (qH 4 [[.n e.op,.n e.n,.str e.name,u]]);have hz:=KC fr T h.length 1 (by have:=X.le;omega);show AV.agg [.n e.op,.n e.n,.str e.name,FK h.length _ 3 u]=.agg (pt e);rw[hz];rfl
theorem ASF (vs:List Vr)(m:SM)(K:vs.length<=1048576)(M:∀v∈vs,GG v.name=true)(a:ByteArray)(B:a.size<=1048576)(P:1<=szA vs a)(h:Hp):a_ (En G) 255 [.agg [.sl m 4 (vs.map bt)],.str a] h (.agg (AQ (W9 a (szA vs a-1)))):=by
 have L:=iJ vs a;refine ACalls.pure (R:=fun v H=>v=.agg (AQ (W9 a (szA vs a-1)))/\Sm.ext h H) 3 ?_ (fun v H ⟨a,b⟩=>⟨b,by rw[a];exact PL _ _ 0 _⟩);refine e7 Tryz.func255 [.cell 4 79] ?_;have j:isS (h++[qH 1 [[.sl m 4 (vs.map bt)]]]++[qH 4 [EQ]]) h.length m vs:=AU (A8 _ _);have f:=A8 (h++[qH 1 [[.sl m 4 (vs.map bt)]]]) (qH 4 [EQ]);have i:Sm.ext h (h++[qH 1 [[.sl m 4 (vs.map bt)]]]++[qH 4 [EQ]]):=((ext.rfl' h).app _).app _;have I:(h++[qH 1 [[.sl m 4 (vs.map bt)]]]).length=h.length+1:=BA;refine DC @tg OH z4 ?_
 rw[I] at f|-
 generalize h++[qH 1 [[.sl m 4 (vs.map bt)]]]++[qH 4 [EQ]]=H1 at j f i|-
 refine(TT G a 0 U B H1).use ?_;have j:=AU (x:=qH 4 [AQ (gw a 0)]) j;have N:=AY f;have f:=AU (x:=qH 4 [AQ (gw a 0)]) f;have g:=A8 H1 (qH 4 [AQ (gw a 0)]);have i:=i.app [qH 4 [AQ (gw a 0)]];refine AZ e9 gg ?_
 generalize H1++[qH 4 [AQ (gw a 0)]]=H2 at j f g i|-
 generalize H1.length=ob at g N|-
 refine EG 0 (fun F H=>F 4=.ptr (h.length+1) 0 0/\F 5=.ptr ob 0 0/\H[h.length+1]?=some (qH 4 [EQ])/\H[ob]?=some (qH 4 [AQ (W9 a (szA vs a-1))])/\Sm.ext h H) (fun _ _=>False) ?_ ?_ (fun _ _ q=>q.elim)
 .refine BB (fun n F H=>∃k,n+(k+1)=szA vs a/\F 1=.str a/\F 2=.ptr h.length 0 0/\F 4=.ptr (h.length+1) 0 0/\F 5=.ptr ob 0 0/\F 6=.n ((k+1:Nat):Int)/\isS H h.length m vs/\H[h.length+1]?=some (qH 4 [EQ])/\H[ob]?=some (qH 4 [AQ (W9 a k)])/\Sm.ext h H) (szA vs a-1)
   ⟨0,U,FB,FB,FB,FB,FB,j,f,g,i⟩ ?_
  clear j f g i;rintro n F H ⟨k,hk,C,J,A,l,p,j,f,g,i⟩;refine EH C J p (isS.ld j) ?_;refine(ed G vs m K M a B H).use ?_;refine A7 p ?_;refine DV ?_ ?_<;>intro O
  .have E:=O5 (e:=W9 a (k+1)) g (EF _)
   refine AB ?_;refine DI BC ?_;refine EH C l p (MR g) ?_;refine⟨_,TT G a (k+1) U B H,?_⟩;refine A7 @aT ?_;refine⟨_,iZ G 7 .full [W9 a k,gw a (k+1)] H,?_⟩;change D7 jA H 79 (.ptr ob 0 0) (.agg (AQ (.mk 7 0 ⟨#[]⟩ .full [W9 a k,gw a (k+1)])))=_ at E;refine EH l E p (CZ (k+1)) ?_;exact⟨n-1,U,k+1,U,AO,AO,AO,AO,AO,by unfold isS;rw[zY U];exact j,by rw[zY U];exact f,CO g,i.set U _⟩
  .have e:szA vs a-1=k:=U
   refine AB ?_;exact⟨AO,AO,f,by rw[e];exact g,i⟩
 rintro F H ⟨A,l,f,g,i⟩;simp only[vQ,VY,CP,↓reduceIte,jC,b_,jQ,A,l,MR g,O5 f rfl];rw[IU (b:=h.length+1) (UT A) (MR (CO f))];exact⟨rfl,i.set U _⟩
end
theorem Nt {op n:Int}{s:ByteArray}{m:SM}{l:List (List AV)}(g:H[b]?=some (qH 4 [[.n op,.n n,.str s,.sl m 4 l]])){o:Nat}:
  D7 jA H 23 (.ptr b 0 3) (.own o 0 k)=some (H.set b (qH 4 [[.n op,.n n,.str s,.own o 0 k]])):=by
 rw[JV (cs:=[.own o 0 k]) rfl (BC:da jA 23=some 1) g BA];rfl
section
variable (G:Nat->AV)
theorem T5 (vs:List Vr)(m:SM)(Z:vs.length<=1048576)(hv:∀v∈vs,GG v.name=true)(a:ByteArray)(N:a.size<=1048576)(i:Ex)(hw:wt i<=1048576)(Y:i.op=1->0<=i.n)(h:Hp):a_ (En G) 256 [.agg [.sl m 4 (vs.map bt)],.str a,.agg (AQ i)] h (.agg (AQ (Y4 cg a i (szA vs a)))):=by
 have a0:=iJ vs a;refine ACalls.pure (R:=fun v H=>v=.agg (AQ (Y4 cg a i (szA vs a)))/\Sm.ext h H) 3 ?_ (fun v H ⟨a,b⟩=>⟨b,by rw[a];exact PL _ _ 0 _⟩);refine e7 Tryz.func256 [.cell 6 79] ?_;have C:isS (h++[qH 1 [[.sl m 4 (vs.map bt)]]]++[qH 4 [AQ i]]++[qH 4 [EQ]]) h.length m vs:=AU (AU (A8 _ _));have l:=AU (x:=qH 4 [EQ]) (A8 (h++[qH 1 [[.sl m 4 (vs.map bt)]]]) (qH 4 [AQ i]));have f:=A8 (h++[qH 1 [[.sl m 4 (vs.map bt)]]]++[qH 4 [AQ i]]) (qH 4 [EQ]);have p:Sm.ext h (h++[qH 1 [[.sl m 4 (vs.map bt)]]]++[qH 4 [AQ i]]++[qH 4 [EQ]]):=(((ext.rfl' h).app _).app _).app _;have P:(h++[qH 1 [[.sl m 4 (vs.map bt)]]]).length=h.length+1:=BA;have Q:(h++[qH 1 [[.sl m 4 (vs.map bt)]]]++[qH 4 [AQ i]]).length=h.length+2:=BA;refine EH @tg @fa OH z4 ?_
 rw[P] at l|-
 rw[Q] at f|-
 generalize h++[qH 1 [[.sl m 4 (vs.map bt)]]]++[qH 4 [AQ i]]++[qH 4 [EQ]]=H1 at C l f p|-
 clear P Q;refine A7 (isS.ld C) ?_;refine(ed G vs m Z hv a N H1).use ?_;refine A7 (XR l) ?_;cases K:(i.op==1)
 case true =>
  have O:i.op=1:=BQ K;have X:=Y O;refine AZ K (px l) ?_;cases L:decide (i.n<((szA vs a:Nat):Int))
  .have q:=of_decide_eq_false L
   refine A7 L ?_;refine(aC G 0 H1).use ?_;refine A7 (O5 (e:=cE 0) f rfl) ?_;rw[IU (b:=h.length+2) FB (MR (CO f))];exact⟨by unfold Y4;rw[if_pos O,if_neg q],p.set U _⟩
  .have q:=of_decide_eq_true L
   obtain⟨k,hk⟩:=wK X;have J:=TT G a k U N H1;rw[<-hk] at J;refine AZ L (px l) ?_;refine J.use ?_;refine A7 (O5 (e:=gw a k) f rfl) ?_;rw[IU (b:=h.length+2) FB (MR (CO f))];exact⟨by unfold Y4;rw[if_pos O,if_pos q,hk,qI],p.set U _⟩
 have o1:¬i.op=1:=BQ K;refine A7 K ?_;refine(aC G 0 H1).use ?_;have C:=AU (x:=qH 4 [AQ (cE 0)]) C;have l:=AU (x:=qH 4 [AQ (cE 0)]) l;have lr:=AY f;have f:=AU (x:=qH 4 [AQ (cE 0)]) f;have g:=A8 H1 (qH 4 [AQ (cE 0)]);have p:=p.app [qH 4 [AQ (cE 0)]];have w1:IntKind.i64.wrap (((szA vs a:Nat):Int)-1)=((szA vs a:Nat):Int)-1:=wrap_i64 U U;refine DC e9 gg w1 ?_
 generalize H1++[qH 4 [AQ (cE 0)]]=H2 at C l f g p|-
 generalize H1.length=ob at g lr|-
 refine EG 0 (fun F H=>F 6=.ptr (h.length+2) 0 0/\F 8=.ptr ob 0 0/\H[h.length+2]?=some (qH 4 [EQ])/\H[ob]?=some (qH 4 [AQ (jx cg a i (szA vs a) (szA vs a))])/\Sm.ext h H) (fun _ _=>False) ?_ ?_ (fun _ _ q=>q.elim)
 .refine BB (fun n F H=>∃j,n+j=szA vs a/\F 1=.str a/\F 5=.ptr (h.length+1) 0 0/\F 6=.ptr (h.length+2) 0 0/\F 8=.ptr ob 0 0/\F 9=.n (((szA vs a:Nat):Int)-1-(j:Nat))/\H[h.length+1]?=some (qH 4 [AQ i])/\H[h.length+2]?=some (qH 4 [EQ])/\H[ob]?=some (qH 4 [AQ (jx cg a i (szA vs a) j)])/\Sm.ext h H) (szA vs a)
   ⟨0,U,FB,FB,FB,FB,by simp only[AX,↓reduceIte];simp,l,f,g,p⟩ ?_
  clear C l f g p;rintro n F H ⟨j,hj,E,V,M,A,B,l,f,g,p⟩;refine A7 B ?_;refine BL ?_ ?_<;>intro I
  .have I:j<szA vs a:=by have:=of_decide_eq_true I;omega
   have T:((szA vs a:Nat):Int)-1-(j:Nat)=((szA vs a-1-j:Nat):Int):=U;have w2:IntKind.i64.wrap (((szA vs a-1-j:Nat):Int)-1)=((szA vs a:Nat):Int)-1-((j+1:Nat):Int):=by rw[wrap_i64 U U];omega
   rw[T] at B;have S:=O5 (e:=jx cg a i (szA vs a) (j+1)) g (EF _);refine AB ?_;refine DI BC ?_;refine LP E V A B (IL l) (MR g) ?_;refine⟨_,TO G (wt i) i H (jF _) hw,?_⟩
   try refine EH E A B (MR g) ?_
   refine⟨_,aC G _ H,?_⟩
   try refine G7 @aT E A B (MR g) ?_
   refine⟨_,iZ G 15 .full [cg i,cE ((szA vs a-1-j:Nat):Int)] H,?_⟩
   try refine EH E A B (MR g) ?_
   refine⟨_,TT G a (szA vs a-1-j) U N H,?_⟩
   try refine G7 bs3 E A B (MR g) ?_
   refine⟨_,iZ G 22 .full [.mk 15 0 ⟨#[]⟩ .full [cg i,cE ((szA vs a-1-j:Nat):Int)],gw a (szA vs a-1-j),jx cg a i (szA vs a) j] H,?_⟩;change D7 jA H 79 (.ptr ob 0 0) (.agg (AQ (.mk 22 0 ⟨#[]⟩ .full [.mk 15 0 ⟨#[]⟩ .full [cg i,cE ((szA vs a-1-j:Nat):Int)],gw a (szA vs a-1-j),jx cg a i (szA vs a) j])))=_ at S;refine EH A S B w2 ?_;exact⟨n-1,U,j+1,U,AO,AO,AO,AO,AO,by rw[zY U];exact l,by rw[zY U];exact f,CO g,p.set U _⟩
  .have I:¬j<szA vs a:=fun q=>by rw[decide_eq_true U] at I;cases I
   have e:j=szA vs a:=U;rw[e] at g;refine AB ?_;exact⟨AO,AO,f,g,p⟩
 rintro F H ⟨M,A,f,g,p⟩;simp only[vQ,VY,CP,↓reduceIte,jC,b_,jQ,M,A,MR g,O5 f rfl];rw[IU (b:=h.length+2) (UT M) (MR (CO f))];exact⟨by unfold Y4;rw[if_neg o1],p.set U _⟩
theorem Za (vs:List Vr)(m:SM)(hl:vs.length<=1048576)(hv:∀v∈vs,GG v.name=true)(e:Ex):en e->OM vs e=false->(FX vs e).1<=400->∀h:Hp,a_ (En G) 177 [.agg [.sl m 4 (vs.map bt)],.agg (AQ e)] h (.agg (AQ (EW c6 vs e))):=by
 induction e using Ex.induct with|h e ih=>?_
 intro K Q a6 h;have ag:=K.name;have ae:=K.len;refine ACalls.pure (R:=fun v H=>Sm.ext h H/\FK h.length H 4 v=.agg (AQ (EW c6 vs e))) 4 ?_ (fun v H ⟨a,b⟩=>⟨a,b⟩);refine e7 Tryz.func177 [.cell 4 79] ?_;have f:=RG c6 vs e;unfold l8 at f;have A:isS (h++[qH 1 [[.sl m 4 (vs.map bt)]]]++[qH 4 [AQ e]]++[qH 4 [EQ]]) h.length m vs:=AU (AU (A8 _ _));have i:=AU (x:=qH 4 [EQ]) (A8 (h++[qH 1 [[.sl m 4 (vs.map bt)]]]) (qH 4 [AQ e]));have l:=A8 (h++[qH 1 [[.sl m 4 (vs.map bt)]]]++[qH 4 [AQ e]]) (qH 4 [EQ]);have p:Sm.ext h (h++[qH 1 [[.sl m 4 (vs.map bt)]]]++[qH 4 [AQ e]]++[qH 4 [EQ]]):=(((ext.rfl' h).app _).app _).app _;have e1:(h++[qH 1 [[.sl m 4 (vs.map bt)]]]).length=h.length+1:=BA;have e2:(h++[qH 1 [[.sl m 4 (vs.map bt)]]]++[qH 4 [AQ e]]).length=h.length+2:=BA;refine EH @tg @fa OH z4 ?_
 rw[e1] at i|-
 rw[e2] at l|-
 generalize h++[qH 1 [[.sl m 4 (vs.map bt)]]]++[qH 4 [AQ e]]++[qH 4 [EQ]]=H1 at A i l p|-
 clear e1 e2;refine A7 (XR i) ?_;cases J:(e.op==24)
 case true =>
  have B:e.op=24:=BQ J;rw[if_pos B] at f;refine DC J (isS.ld A) (OZ i) ?_;refine(ASF G vs m hl hv e.name U (S9 Q (.inr B)) H1).use ?_;refine A7 (O5 (e:=W9 e.name (szA vs e.name-1)) l rfl) ?_;rw[IU (b:=h.length+2) AL (MR (CO l))];exact⟨p.set U _,by rw[f];exact PL _ _ 1 _⟩
 have ad:¬e.op=24:=BQ J;rw[if_neg ad] at f;have lr:=AY l;refine DC J (O1 i) (C8 H1 e.args.length U) ?_;have B:mS h ((e.args.map (EW c6 vs)).take 0) (.own H1.length 0 0) (H1++[qH 4 (zD e.args.length EQ)]):=⟨H1.length,zD e.args.length EQ,p.le,rfl,BA⟩;have A:=AU (x:=qH 4 (zD e.args.length EQ)) A;have i:=AU (x:=qH 4 (zD e.args.length EQ)) i;have l:=AU (x:=qH 4 (zD e.args.length EQ)) l;have p:=p.app [qH 4 (zD e.args.length EQ)];have g:∀b,db (.own H1.length 0 0) b->h.length+2<b:=fun b P=>by cases P;omega
 generalize H1++[qH 4 (zD e.args.length EQ)]=H2 at A i l p B|-
 refine A7 (O1 i) ?_;generalize AV.own H1.length 0 0=v0 at B g;have ah:(e.args.map (EW c6 vs)).length=e.args.length:=jI _;refine EG 0 (fun F H=>∃v,F 2=.ptr h.length 0 0/\F 3=.ptr (h.length+1) 0 0/\F 4=.ptr (h.length+2) 0 0/\F 5=v/\isS H h.length m vs/\H[h.length+1]?=some (qH 4 [AQ e])/\H[h.length+2]?=some (qH 4 [EQ])/\Sm.ext h H/\mS h (e.args.map (EW c6 vs)) v H/\∀b,db v b->h.length+2<b) (fun _ _=>False) ?_ ?_ (fun _ _ q=>q.elim)
 .refine BB (fun n F H=>∃j v,n+j=e.args.length/\F 2=.ptr h.length 0 0/\F 3=.ptr (h.length+1) 0 0/\F 4=.ptr (h.length+2) 0 0/\F 5=v/\F 20=.sl e.m 4 (e.args.map AQ)/\F 21=.n (e.args.length:Nat)/\F 22=.n (j:Nat)/\isS H h.length m vs/\H[h.length+1]?=some (qH 4 [AQ e])/\H[h.length+2]?=some (qH 4 [EQ])/\Sm.ext h H/\mS h ((e.args.map (EW c6 vs)).take j) v H/\∀b,db v b->h.length+2<b) e.args.length
   ⟨0,v0,BA,AL,AL,AL,AL,AL,AL,AL,A,i,l,p,B,g⟩ ?_
  clear A i l p B g;rintro n F H ⟨j,v,hj,f2,T,L,V,f20,f21,f22,A,i,l,p,B,g⟩;refine AZ f21 f22 ?_;refine DV ?_ ?_<;>intro O
  .have C:e.args[j]∈e.args:=jH O
   have ga:=A8 H (qH 4 [AQ e.args[j]]);have A:=AU (x:=qH 4 [AQ e.args[j]]) A;have i:=AU (x:=qH 4 [AQ e.args[j]]) i;have l:=AU (x:=qH 4 [AQ e.args[j]]) l;have p:=p.app [qH 4 [AQ e.args[j]]]
   have B:mS h ((e.args.map (EW c6 vs)).take j) v (H++[qH 4 [AQ e.args[j]]]):=by
    obtain⟨o,E,q1,q2,S⟩:=B;exact⟨o,E,q1,q2,AU S⟩
   simp only[vQ,CP,↓reduceIte,jC,b_,P5,jQ,f20,f22,CE O,DL NU G9 EF O,e9,gg]
   generalize H++[qH 4 [AQ e.args[j]]]=H3 at A i l p ga B|-
   refine EH f2 V (isS.ld A) (IL ga) ?_;refine(ih e.args[j] C (K.arg C) (OB Q C) (nW K Q a6 C) H3).use ?_;obtain⟨v',H',a1,a2,a3,a4,a5⟩:=D4 B p (by rw[jT];omega) (EW c6 vs e.args[j]);have hit:j<(e.args.map (EW c6 vs)).length:=U;have Y:(e.args.map (EW c6 vs))[j]=EW c6 vs e.args[j]:=BA;rw[<-Y,<-jW hit] at a2;have aj:=AY l;refine EH @Q8 a1 f22 (CZ j) ?_;refine⟨n-1,U,j+1,v',U,AO,AO,AO,AO,AO,AO,AO,a4 _ _ A (fun q=>?_),a4 _ _ i (fun q=>?_),a4 _ _ l (fun q=>?_),a3,a2,fun b P=>?_⟩
   .have:=g _ q;omega
   .have:=g _ q;omega
   .have:=g _ q;omega
   .have:=a5 b P;omega
  .rw[jK U] at B
   refine AB ?_;exact⟨v,AO,AO,AO,AO,A,i,l,p,B,g⟩
 clear A i l p B g;rintro F H ⟨v,f2,T,L,V,A,i,l,p,B,g⟩;obtain⟨o,E,q1,rfl,S⟩:=B;have af:=g o rfl;refine AZ T (XR i) ?_;cases b3:(e.op==3)
 case true =>
  have o3:e.op=3:=BQ b3;rw[if_pos o3] at f;obtain⟨b,P⟩:=SA K.self o3;have hm:b∈e.args:=by rw[P];simp
  have I:e.args.map (EW c6 vs)=[EW c6 vs b]:=by rw[P];rfl
  rw[I] at f S;have hw:=zt Gj (K.arg hm) (OB Q hm) (nW K Q a6 hm);obtain⟨c1,c2⟩:=bG (s:=c6) (K.arg hm) (OB Q hm);have Z:(e.args.map (EW c6 vs)).length=1:=by rw[I];rfl
  rw[Z] at V;have ab:JJ 4 H (.own o 0 1) (.n 0)=some (.ptr o 0 0):=GR S (show 0<1 from Nat.one_pos)
  have ac:BR jA H 79 (.ptr o 0 0)=some (.agg (AQ (EW c6 vs b))):=by
   rw[EK NU G9 S (row:=AQ (EW c6 vs b)) rfl (by rw[EF];exact jF 4),zI,jK (by rw[EF];exact jF 4)]
  refine A7 b3 ?_;refine DI BC ?_;refine N7 f2 T L V (isS.ld A) (OZ i) ab ac ?_;refine⟨_,T5 G vs m hl hv e.name U (EW c6 vs b) U (fun q=>by rw[c2 (c1.1 q)];exact c1.1 q) H,?_⟩;refine AZ L (O5 (e:=Y4 cg e.name (EW c6 vs b) (szA vs e.name)) l rfl) ?_;rw[IU (b:=h.length+2) (DY L) (MR (CO l))];exact⟨p.set U _,by rw[f];exact PL _ _ 1 _⟩
 have o3:¬e.op=3:=BQ b3;rw[if_neg o3] at f;generalize ai:e.args.map (EW c6 vs)=ys at *;have N:=i;rw[FP] at N;have aa:=Nt N (o:=o) (k:=ys.length);have X:(H.set (h.length+1) (qH 4 [[.n e.op,.n e.n,.str e.name,.own o 0 ys.length]]))[h.length+1]?=some (qH 4 [[.n e.op,.n e.n,.str e.name,.own o 0 ys.length]]):=CO N;have M:(H.set (h.length+1) (qH 4 [[.n e.op,.n e.n,.str e.name,.own o 0 ys.length]]))[h.length+2]?=some (qH 4 [EQ]):=by rw[zY U];exact l
 have a8:(H.set (h.length+1) (qH 4 [[.n e.op,.n e.n,.str e.name,.own o 0 ys.length]]))[o]?=some (qH 4 (ys.map AQ++E)):=by rw[zY U];exact S
 have a7:=p.set (b:=h.length+1) U (qH 4 [[.n e.op,.n e.n,.str e.name,.own o 0 ys.length]]);refine G7 b3 T L V aa ?_
 generalize H.set (h.length+1) (qH 4 [[.n e.op,.n e.n,.str e.name,.own o 0 ys.length]])=H3 at X M a8 a7|-
 have a0:([.n e.op,.n e.n,.str e.name,.own o 0 ys.length]:List AV).all AV.leaf=true:=rfl;refine EH T L (HY X rfl) (O4 M rfl rfl a0) ?_;rw[IU (b:=h.length+2) (DY L) (HY (CO M) rfl)];refine⟨a7.set U _,?_⟩;have a9:mS h ys (.own o 0 ys.length) (H3.set (h.length+2) (qH 4 [[.n e.op,.n e.n,.str e.name,.own o 0 ys.length]])):=⟨o,E,q1,rfl,by rw[zY U];exact a8⟩;have hz:=D3 a9 1;show AV.agg [.n e.op,.n e.n,.str e.name,FK h.length _ 3 (.own o 0 ys.length)]=_;rw[hz,f,FP];rfl
theorem Qf (h:Hp):H9 jA h 233=some (.ptr h.length 0 0,h++[qH 1 [[.sl .nil 0 []]]]):=FZ (row:=[.sl .nil 0 []]) BC
theorem PJ (m:SM)(xs:List (List AV)):IY jA 233 [(0,.sl m 4 xs)]=some (.agg [.sl m 4 xs]):=BC
theorem Nw (h:Hp)(m:SM)(vs:List Vr):D7 jA (h++[qH 1 [[.sl .nil 0 []]]]) 233 (.ptr h.length 0 0) (.agg [.sl m 4 (vs.map bt)])=some (h++[qH 1 [[.sl m 4 (vs.map bt)]]]):=by
 rw[JV (cs:=[.sl m 4 (vs.map bt)]) (row:=[.sl .nil 0 []]) rfl BS (A8 _ _) (jF 1),KZ];rfl
theorem qz:IY jA 79 []=some (.agg EQ):=BC
theorem o6 (g:H[b]?=some (qH 4 [EQ])):D7 jA H 79 (.ptr b 0 0) (.agg EQ)=some (H.set b (qH 4 [EQ])):=O4 g rfl rfl rfl
theorem UW {p:Pr}(a:H[b]?=some (qH 5 [CW p])):BR jA H 27 (.ptr b 0 0)=some (.agg (CW p)):=by rw[EK eP ZU a (row:=CW p) rfl (by rw[LD];exact jF 5)];rfl
theorem B8 {p:Pr}(P:PV p):∀v∈p.vars,GG v.name=true:=fun v a=>(VM (P.vr v a)).1
theorem uc {s:Bw}(h:fc vs e=0):k9 s vs e=.tup [.agg (AQ (EW s vs e)),.n 0]:=by unfold k9;rw[if_pos h,h]
theorem iP {s:Bw}{z:Int}(h:fc vs e=z)(a:z≠0):k9 s vs e=.tup [.agg EQ,.n z]:=by unfold k9;rw[if_neg (by rw[h];exact a),h]
theorem Gk (s:Bw)(vs:List Vr)(e:Ex)(n:Nat)(H:Hp):FK n H 4 (k9 s vs e)=k9 s vs e:=by
 unfold k9;split
 .show AV.tup [FK n H 3 (.agg (AQ _)),.n _]=_
  rw[PL n H 0]
 .rfl
theorem Ud (Q:fm G)(p:Pr)(Y:fp p)(Z:JY p=0)(e:Ex)(S:c9 e=0)(h:Hp):a_ (En G) 97 [.agg (CW p),.agg (AQ e)] h (k9 c6 p.vars e):=by
 have P:=PV.of Z;have M:=en.of S;have A:=B8 P;have B:=Y.vars;have hw:=z7 S;refine ACalls.pure (R:=fun v H=>v=k9 c6 p.vars e/\Sm.ext h H) 4 ?_ (fun v H ⟨a,b⟩=>⟨b,by rw[a];exact Gk _ _ _ _ _⟩);refine e7 Tryz.func97 [.cell 4 79,.tmp 5] ?_;have O:=AU (x:=qH 4 [EQ]) (AU (x:=qH 4 [AQ e]) (A8 h (qH 5 [CW p])));have j:=AU (x:=qH 4 [EQ]) (A8 (h++[qH 5 [CW p]]) (qH 4 [AQ e]));have i:=A8 (h++[qH 5 [CW p]]++[qH 4 [AQ e]]) (qH 4 [EQ]);have E:Sm.ext h (h++[qH 5 [CW p]]++[qH 4 [AQ e]]++[qH 4 [EQ]]):=(((ext.rfl' h).app _).app _).app _;have V:(h++[qH 5 [CW p]]).length=h.length+1:=BA;have X:(h++[qH 5 [CW p]]++[qH 4 [AQ e]]).length=h.length+2:=BA;refine EH @QE @fa OH z4 ?_
 rw[V] at j|-
 rw[X] at i|-
 generalize h++[qH 5 [CW p]]++[qH 4 [AQ e]]++[qH 4 [EQ]]=H1 at O j i E|-
 clear V X;refine A7 (UW O) ?_;refine(Bd.df G Q p Y H1).use ?_;refine AZ (show(JY p != 0)=false by rw[Z];rfl) (IL j) ?_;refine(P8 G Q e H1 U).use ?_;have lr:=AY i;refine G7 (show(c9 e != 0)=false by rw[S];rfl) (ZL O) PJ Qf Nw ?_;have J:isS (H1++[qH 1 [[.sl p.vm 4 (p.vars.map bt)]]]) H1.length p.vm p.vars:=A8 _ _;have j:=AU (x:=qH 1 [[.sl p.vm 4 (p.vars.map bt)]]) j;have i:=AU (x:=qH 1 [[.sl p.vm 4 (p.vars.map bt)]]) i;have E:=E.app [qH 1 [[.sl p.vm 4 (p.vars.map bt)]]]
 generalize H1++[qH 1 [[.sl p.vm 4 (p.vars.map bt)]]]=H2 at J j i E|-
 generalize H1.length=sb at J lr|-
 have bad:∀(z:Int) (F:Fr),fc p.vars e=z->z≠0->F 4=.ptr (h.length+2) 0 0->F 5=.n z->MW jA [.cell 4 79,.tmp 5] (fun v H=>v=k9 c6 p.vars e/\Sm.ext h H) .ret F (H2.set (h.length+2) (qH 4 [EQ])):=fun z F q1 q2 f4 f5=>by
  rw[cC (ba:=h.length+2) f4 (HY (CO i) rfl),f5];exact⟨by rw[iP q1 q2],E.set U _⟩
 refine AZ (isS.ld J) (IL j) ?_;refine(ATU G p.vars p.vm B A e M H2).use ?_;cases I:OM p.vars e
 case true =>
  refine AZ @qz (o6 i) ?_;exact bad 7 _ (by unfold fc;rw[if_pos I]) DX FB FB
 have l:fc p.vars e=if 400<(FX p.vars e).1 then 2 else c9 (EW c6 p.vars e):=by unfold fc;rw[if_neg (by rw[I];decide)]
 refine AZ (isS.ld J) (IL j) ?_;refine(Zt G p.vars p.vm B A e M I H2).use ?_;have fx:tU jA 235 (.agg (ks (FX p.vars e))) 0=some (.n ((FX p.vars e).1:Nat)):=BC;refine AZ @AW7 fx ?_;cases K:decide ((((FX p.vars e).1:Nat):Int)>400)
 case true =>
  have q:=of_decide_eq_true K;refine DC K @qz (o6 i) ?_;exact bad 2 _ (by rw[l,if_pos U]) DX FB FB
 have q:=of_decide_eq_false K;rw[if_neg U] at l;have g:(FX p.vars e).1<=400:=U;refine DC K (isS.ld J) (IL j) ?_;refine(Za G p.vars p.vm B A e M I g H2).use ?_;have a0:=zt Gj M I g;have N:=A8 H2 (qH 4 [AQ (EW c6 p.vars e)]);have f:=AU (x:=qH 4 [AQ (EW c6 p.vars e)]) i;have C:=E.app [qH 4 [AQ (EW c6 p.vars e)]];refine AZ e9 gg ?_
 generalize H2++[qH 4 [AQ (EW c6 p.vars e)]]=H3 at N f C|-
 refine A7 (MR N) ?_;refine(P8 G Q (EW c6 p.vars e) H3 U).use ?_;cases L:(c9 (EW c6 p.vars e) != 0)
 case true =>
  have T:c9 (EW c6 p.vars e)≠0:=BQ L;refine DC L @qz (o6 f) ?_;rw[cC (ba:=h.length+2) FB (HY (CO f) rfl)];refine AB ?_;exact⟨by rw[iP l T],C.set U _⟩
 have T:c9 (EW c6 p.vars e)=0:=BQ L;simp only[vQ,CP,↓reduceIte,jC,b_,jQ,L,MR N,O5 f rfl];rw[cC (ba:=h.length+2) FB (MR (CO f))];refine AB ?_;exact⟨by rw[uc (l.trans T)],C.set U _⟩
end
theorem y4 (nm:ByteArray)(l:List cp):cf (j0 nm l) (AQ (I7 (J7 nm) l)):=by
 rw[rE,<-IS,qG];exact cf.cons rfl (Cv.refl _) (cf.cons rfl (Cv.refl _) (cf.cons rfl (Cv.refl _) (cf.cons rfl (Cv.map fun x _=>Fc x) cf.nil)))
def sumW (nm:ByteArray)(R:List cp):Nat->List AV
 | 0=>j0 nm (Ho.part R 0)
 | k+1=>[.n 20,.n 0,.str ⟨#[]⟩,.sl .full 4 [sumW nm R k,j0 nm (Ho.part R (k+1))]]
theorem fH (nm:ByteArray)(R:List cp)(k:Nat):(sumW nm R k).length=4:=by cases k<;>rfl
theorem vR (nm:ByteArray)(R:List cp)(k:Nat):(sumW nm R k).all AV.leaf=true:=by cases k<;>rfl
theorem uf {a b f g:List AV}(h:cf a f)(h2:cf b g):Cv (.sl .full 4 [a,b]) (.sl .full 4 [f,g]):=Cv.rows rfl fun i r j p q=>by
 match i,p,q with
 | 0,p,q=>cases p;cases q;exact h
 | 1,p,q=>cases p;cases q;exact h2
theorem GC (nm:ByteArray)(R:List cp):∀k,cf (sumW nm R k) (AQ (PD (J7 nm) R k))
 | 0=>y4 nm _
 | k+1=>by
   show cf _ (AQ (i5 _ _));rw[fO];exact cf.cons rfl (Cv.refl _) (cf.cons rfl (Cv.refl _) (cf.cons rfl (Cv.refl _) (cf.cons rfl (uf (GC nm R k) (y4 nm _)) cf.nil)))
theorem ASH (nm:ByteArray)(R:List cp)(k:Nat):cz (.agg (sumW nm R k)) (.agg (AQ (PD (J7 nm) R k))):=by
 cases k with
 | zero=>exact IN nm _
 | succ k =>
   show cz _ (.agg (AQ (i5 _ _)));rw[fO];exact cz.agg (cq.cons (cz.refl _) (cq.cons (cz.refl _) (cq.cons (cz.refl _) (cq.cons (cz.sl (uf (GC nm R k) (y4 nm _))) cq.nil))))
theorem ASG (nm:ByteArray)(R:List cp)(k n:Nat)(H:Hp):FK n H 3 (.agg (sumW nm R k))=.agg (sumW nm R k):=by cases k<;>rfl
theorem AYZ (nm:ByteArray)(l:List cp):LH ((jz nm l).map ZA)=true:=by
 unfold LH;rw[zJ];intro row a;obtain⟨x,_,rfl⟩:=zO.1 a
 cases x with
 | inl n=>rfl
 | inr e=>show(AQ e).all AV.frozen=true;rw[FP];rfl
theorem EL:∀R:List cp,(eD R).map cE=h_ R
 | []=>rfl
 | r::R=>by
   show([r.lo,r.hi]++eD R).map cE=_;rw[qE,EL R,UR];rfl
theorem FR:∀(R:List cp) (k:Nat),(h_ R).drop (2*k)=h_ (R.drop k)
 | R,0=>BA
 | [],k+1=>by simp [h_]
 | r::R,k+1=>by
   rw[UR,show 2*(k+1)=2*k+1+1 by omega,List.drop_succ_cons,List.drop_succ_cons,FR R k];rfl
theorem yR:∀(R:List cp) (k:Nat),(h_ R).take (2*k)=h_ (R.take k)
 | R,0=>by simp [h_]
 | [],k+1=>by simp [h_]
 | r::R,k+1=>by
   rw[UR,show 2*(k+1)=2*k+1+1 by omega,List.take_succ_cons,List.take_succ_cons,yR R k];rfl
theorem AVK (R:List cp)(k n:Nat)(h:n=min (32*k+32) (2*R.length)-32*k):((h_ R).drop (32*k)).take n=h_ (Ho.part R k):=by
 have a:32*k=2*(16*k):=U;unfold Ho.part;rw[a,FR,<-yR,List.take_eq_take_iff,WP,yB];omega
theorem AS1 {P:Program}{t e:TypeId}(j:P.underlying t=some (.slice e))(i:da P e=some k){h:Hp}{kk:IntKind}{off len l u:Nat}{xs:List (List AV)}(g:h[b]?=some (qH k xs))(p:l<=u)(h2:u<=len):
  IW P h t (.own b off len) (some (.int kk (l:Int))) (some (.int kk (u:Int))) none=some (.own b (off+l) (u-l)):=by
 have a:G8 (some (.int kk (l:Int))) (some 0)=some l:=by simp [G8]
 have f:G8 (some (.int kk (u:Int))) (some len)=some u:=by simp [G8]
 simp only[IW,j,a,f,i,g,true_and];rw[if_pos U]
section
variable (G:Nat->AV)
theorem LY (n:Int)(h:Hp):a_ (En G) 207 [.n n] h (.agg (AQ (cE n))):=by
 refine a_.res ?_ (XX n);refine RN 3 (fun n H=>rfl) ?_;refine e7 Tryz.func207 [.cell 2 79] ?_;have a:=A8 h (qH 4 [EQ]);have f:=O4 (cs:=SL 1 n) a rfl rfl rfl;refine AZ OH @tK ?_;rw[show([AV.int .i64 0,.n 0,.str ⟨#[]⟩,.sl .nil 0 []]:List AV)=EQ from rfl];refine A7 f ?_;rw[IU (b:=h.length) AL (HY (CO a) rfl)];exact⟨rfl,((ext.rfl' h).app _).set (jF _) _⟩
theorem SG (ws:List Wg)(m:SM)(n:Int)(I:ws.length<=1048576)(h:Hp):a_ (En G) 206 [.sl m 4 (ws.map JE),.n n] h (.bool (MM n ws)):=by
 refine cn Tryz.func206 4 ?_;refine AB ?_
 refine BB (fun k F H=>∃i,k+i=ws.length/\(∀(j:Nat) (f:j<i) (I:j<ws.length),VQ n ws[j]=false)/\F 0=.sl m 4 (ws.map JE)/\F 1=.n n/\F 5=.n (i:Nat)/\H=h) ws.length
  ⟨0,BA,fun j f=>absurd f U,AL,AL,AL,rfl⟩ ?_
 rintro k F H ⟨i,S,J,E,L,B,rfl⟩;refine DC xK E B ?_;refine DV ?_ ?_<;>intro a
 .have T:∀j (c:Nat),BR jA H 3 (.fptr 4 (ws.map JE) i c)=some j↔(JE ws[i])[c]?=some j:=fun j c=>by rw[BK ct a]
  have O:BR jA H 3 (.fptr 4 (ws.map JE) i 0)=some (.n ws[i].lo):=by rw[BK ct a];rfl
  have Q:BR jA H 3 (.fptr 4 (ws.map JE) i 1)=some (.n ws[i].hi):=by rw[BK ct a];rfl
  have R:BR jA H 3 (.fptr 4 (ws.map JE) i 2)=some (.n ws[i].w):=by rw[BK ct a];rfl
  have step:VQ n ws[i]=false->∃q,q<k/\∃C,q+C=ws.length/\(∀(j:Nat) (f:j<C) (I:j<ws.length),VQ n ws[j]=false)/\C=i+1:=fun K=>⟨k-1,U,i+1,U,fun j f I=>by
   rcases Nat.lt_or_ge j i with M|M
   .exact J j M I
   .obtain rfl:j=i:=U
    exact K,rfl⟩
  cases A:decide (ws[i].lo<=n)
  .obtain⟨q,g,C,l,p,rfl⟩:=step (by unfold VQ;rw[A];rfl)
   refine N7 xP E L B a O A (CZ i) ?_;exact⟨q,g,i+1,l,p,AO,AO,AO,AO⟩
  .refine N7 xP E L B a O Q A ?_
   refine BL ?_ ?_<;>intro N
   .have K:VQ n ws[i]=true:=by unfold VQ;rw[A,N];rfl
    refine WU xP @bY E B a R ?_;exact⟨by rw[yy a (fun j f=>J j f U) K],AO⟩
   .obtain⟨q,g,C,l,p,rfl⟩:=step (by unfold VQ;rw[A,N];rfl)
    refine AZ B (CZ i) ?_;exact⟨q,g,i+1,l,p,AO,AO,AO,AO⟩
 .refine AB ?_
  exact⟨by rw[yx fun x P=>by obtain⟨j,f,rfl⟩:=List.getElem_of_mem P;exact J j U f],AO⟩
end
theorem BAU (h:Hp)(n:ByteArray):DR jA false h 23 1 [(0,.agg (NQ n))]=some (.sl .full 4 [NQ n],h):=BC
theorem Dl (h:Hp)(a b:Int)(s:ByteArray)(m:SM)(xs:List (List AV))(f g:Int)(i:ByteArray)(m':SM)(ys:List (List AV)):
 DR jA false h 23 2 [(0,.agg [.n a,.n b,.str s,.sl m 4 xs]),(1,.agg [.n f,.n g,.str i,.sl m' 4 ys])]=some (.sl .full 4 [[.n a,.n b,.str s,.sl m 4 xs],[.n f,.n g,.str i,.sl m' 4 ys]],h):=BC
theorem BAX (h:Hp)(nm:ByteArray)(R:List cp)(k:Nat)(l:List cp):DR jA false h 23 2 [(0,.agg (sumW nm R k)),(1,.agg (j0 nm l))]=some (.sl .full 4 [sumW nm R k,j0 nm l],h):=by
 cases k with
 | zero=>exact Dl h _ _ _ _ _ _ _ _ _ _
 | succ k=>exact Dl h _ _ _ _ _ _ _ _ _ _
theorem BAY (xs:List (List AV)):IY jA 79 [(0,.n 23),(3,.sl .any 4 xs)]=some (.agg [.n 23,.n 0,.str ⟨#[]⟩,.sl .any 4 xs]):=BC
def rW (nm:ByteArray)(R:List cp):Nat->List AV
 | 0=>AQ (cE 0)
 | k+1=>sumW nm R k
theorem ud (nm:ByteArray)(R:List cp)(k:Nat):(rW nm R k).length=4:=by
 cases k with
 | zero=>exact EF _
 | succ k=>exact fH nm R k
theorem AXZ (nm:ByteArray)(R:List cp)(k:Nat):(rW nm R k).all AV.leaf=true:=by
 cases k with
 | zero=>exact TL _
 | succ k=>exact vR nm R k
theorem Ly (nm:ByteArray)(R:List cp)(k n:Nat)(H:Hp):FK n H 3 (.agg (rW nm R k))=.agg (rW nm R k):=by
 cases k with
 | zero=>exact PL n H 0 _
 | succ k=>exact ASG nm R k n H
theorem Lz (nm:ByteArray)(R:List cp):cz (.agg (rW nm R (parts R))) (.agg (AQ (iK nm R))):=by
 unfold iK;by_cases h:R=[]
 .rw[if_pos h,show parts R=0 by rw[h];rfl];exact cz.refl _
 .rw[if_neg h]
  have a:0<R.length:=List.length_pos_iff.2 h;have:parts R=(parts R-1)+1:=by unfold parts;omega
  rw[this];exact ASH nm R _
section
variable (G:Nat->AV)
theorem SU (p:Pr)(hs:fp p)(P:PV p)(d:Ds)(hr:Q9 p.vars d.var=true)(T:d.ws.length<=1048576)(h:Hp):a_ (En G) 115 [.agg (CW p),.agg (I9 d)] h (.agg (AQ (iL p d))):=by
 obtain⟨k,hk,aa,hm⟩:=XL hr;obtain⟨_,w1,w8,_⟩:=VM (P.vr _ (jH hk));obtain⟨w,hw⟩:=wK (U:0<=p.vars[k].width)
 have ae:iL p d=iK p.vars[k].name (runs d.ws (2^w)):=by
  unfold iL;rw[aa,qI,List.getElem?_eq_getElem hk];simp only;rw[hw,qI]
 have hW:(2:Nat)^w<=256:=by
  have:w<=8:=U
  calc (2:Nat)^w<=2^8:=Nat.pow_le_pow_right DX this
   _=256:=rfl
 have e2:(2:Int)^w=((2^w:Nat):Int):=by rw[Int.natCast_pow];rfl
 have C:IZ jA 3 .shl (.n 1) (.n (w:Nat))=some (.n ((2^w:Nat):Int)):=by rw[wb w U,e2]
 rw[ae];have al:=AVW d.ws (2^w);have an:=EL (runs d.ws (2^w));have av:(runs d.ws (2^w)).length<=256:=by have:=iS (U8 d.ws (2^w));have:=fM d.ws (2^w);show(UD (U8 d.ws (2^w))).length<=_;omega
 have am:∀i,(gY d.ws (2^w) i).length<=2*i:=fun i=>by
  induction i with
  | zero=>exact jF 0
  | succ i ih =>
    simp only[gY,jX];split
    .rw[jX]
     have a1:∀(c:Prop) [Decidable c] (z:Int),(if c then [z] else []).length<=1:=fun c _ z=>by split<;>simp
     have:=a1 (i=0\/MM ((i:Int)-1) d.ws=false) i;have:=a1 (i+1=2^w\/MM ((i:Int)+1) d.ws=false) i;omega
    .simp;omega
 refine a_.res (r:=.agg (rW p.vars[k].name (runs d.ws (2^w)) (parts (runs d.ws (2^w))))) ?_ (Lz _ _);refine ACalls.pure (R:=fun v H=>v=.agg (rW p.vars[k].name (runs d.ws (2^w)) (parts (runs d.ws (2^w))))/\Sm.ext h H) 3 ?_ (fun v H ⟨a,b⟩=>⟨b,by rw[a];exact Ly _ _ _ _ _⟩);refine II (H:=hint [] [(85,[10])]) (ji G) Tryz.func115 rfl (by kernel_rfl) (by kernel_rfl) (jB (by kernel_rfl)) ?_;show dh _ _ _ _ _ (MW _ [.cell 4 79] _);have gp:=AU (x:=qH 4 [EQ]) (AU (x:=qH 2 [I9 d]) (A8 h (qH 5 [CW p])));have gd:=AU (x:=qH 4 [EQ]) (A8 (h++[qH 5 [CW p]]) (qH 2 [I9 d]));have Y:=A8 (h++[qH 5 [CW p]]++[qH 2 [I9 d]]) (qH 4 [EQ]);have hx:Sm.ext h (h++[qH 5 [CW p]]++[qH 2 [I9 d]]++[qH 4 [EQ]]):=(((ext.rfl' h).app _).app _).app _;have e4:(h++[qH 5 [CW p]]++[qH 2 [I9 d]]).length=h.length+2:=BA;have e3:(h++[qH 5 [CW p]]).length=h.length+1:=BA;refine DC @QE @A9 OH ?_;rw[show([AV.int .i64 0,.n 0,.str ⟨#[]⟩,.sl .nil 0 []]:List AV)=EQ from rfl]
 rw[e4] at Y|-
 rw[e3] at gd|-
 generalize h++[qH 5 [CW p]]++[qH 2 [I9 d]]++[qH 4 [EQ]]=H0 at gp gd Y hx|-
 have af:BR jA H0 3 (.ptr (h.length+1) 0 0)=some (.n (k:Nat)):=by rw[BJ ct gd (row:=I9 d) rfl];show some (AV.int .i64 d.var)=_;rw[aa]
 have gd:=AU (x:=qH 4 [bt p.vars[k]]) gd;have gv:=A8 H0 (qH 4 [bt p.vars[k]]);have ar:=AY Y;simp only[vQ,jU,jV,CP,XE,↓reduceIte,jC,b_,cM,nU,jQ,zZ,NR,ZL gp,af,CE hk,Bd.jo hk,Bd.ky,Bd.k_];have Y:=AU (x:=qH 4 [bt p.vars[k]]) Y;have hx:=hx.app [qH 4 [bt p.vars[k]]]
 generalize H0++[qH 4 [bt p.vars[k]]]=H1 at gd Y gv hx|-
 generalize H0.length=vb at gv ar|-
 clear af e3 e4 gp;have L:∀ {H:Hp},Sm.ext H1 H->BR jA H 3 (.ptr vb 0 1)=some (.n (w:Nat)):=fun q=>by rw[BJ ct (DZ q gv) rfl];show some (AV.int .i64 p.vars[k].width)=_;rw[hw]
 have K:∀ {H:Hp},Sm.ext H1 H->BR jA H 120 (.ptr (h.length+1) 0 1)=some (.sl d.wm 4 (d.ws.map JE)):=fun q=>by rw[BJ si (DZ q gd) rfl];rfl
 have ag:∀ {H:Hp},Sm.ext H1 H->BR jA H 9 (.ptr vb 0 0)=some (.str p.vars[k].name):=fun q=>by rw[BJ eo (DZ q gv) rfl];rfl
 refine EG 0 (fun F H=>∃u,F 4=.ptr (h.length+2) 0 0/\F 5=.ptr vb 0 0/\F 6=u/\Sm.ext H1 H/\bw 4 AQ H1 ((gY d.ws (2^w) (2^w)).map cE) u H) (fun _ _=>False) ?_ ?_ (fun _ _ q=>q.elim)
 .refine BB (fun n F H=>∃i u,n+i=2^w/\F 3=.ptr (h.length+1) 0 0/\F 4=.ptr (h.length+2) 0 0/\F 5=.ptr vb 0 0/\F 6=u/\F 7=.n (i:Nat)/\Sm.ext H1 H/\bw 4 AQ H1 ((gY d.ws (2^w) i).map cE) u H) (2^w)
   ⟨0,.sl .nil 0 [],BA,AL,AL,AL,AL,AL,ext.rfl' _,bw.nil _ _ _ _⟩ ?_
  rintro n F H ⟨i,u,hi,f3,f4,N,S,A,f,E⟩;have ax:=am i;refine EH N A (L f) @C ?_;refine DV ?_ ?_<;>intro ay
  .have j:IntKind.i64.wrap (((i:Nat):Int)+1)=((i+1:Nat):Int):=wrap_succ U
   have ek:((i:Int)+1)=((i+1:Nat):Int):=U;have zi:IntKind.i64.wrap (((i:Nat):Int)-1)=((i:Nat):Int)-1:=wrap_i64 U U;refine DC f3 A (K f) ?_;refine(SG G d.ws d.wm ((i:Nat):Int) T H).use ?_
   cases hp:MM ((i:Nat):Int) d.ws with
   | false =>
     have hb:gY d.ws (2^w) (i+1)=gY d.ws (2^w) i:=by simp only[gY];rw[if_neg (by rw[hp];decide),jL]
     rw[<-hb] at E;refine AZ A j ?_;exact⟨n-1,U,i+1,u,U,AO,AO,AO,AO,AO,f,E⟩
   | true =>
     have g:gY d.ws (2^w) (i+1)=gY d.ws (2^w) i++((if i=0\/MM ((i:Int)-1) d.ws=false then [(i:Int)] else [])++(if i+1=2^w\/MM ((i:Int)+1) d.ws=false then [(i:Int)] else [])):=by
      simp only[gY];rw[if_pos hp]
     rw[ek] at g;cases b0:(((i:Nat):Int)==0)
     .have a4:i≠0:=fun q=>by subst q;exact absurd b0 DX
      refine G7 f3 A (K f) b0 zi ?_;refine(SG G d.ws d.wm (((i:Nat):Int)-1) T H).use ?_
      cases bp:MM (((i:Nat):Int)-1) d.ws with
      | false =>
        rw[if_pos (.inr bp)] at g;refine A7 A ?_;obtain⟨u1,Ha,a1,a2,_,M,_,_⟩:=E.append (P:=jA) NV G9 QF QD U (by rw[jI];omega) f (cE (i:Nat));refine(LY G _ _).use ?_;refine EH S A @Q8 a1 ?_;cases I:(((i+1:Nat):Int)==((2^w:Nat):Int))
        .have B:¬i+1=2^w:=fun q=>by rw[q] at I;simp at I
         refine N7 f3 N A (L M) (K M) @C j I ?_;refine(SG G d.ws d.wm ((i+1:Nat):Int) T _).use ?_
         cases br:MM ((i+1:Nat):Int) d.ws with
         | false =>
           rw[if_pos (.inr br)] at g;obtain⟨V,Hb,O,Q,_,X,_,_⟩:=a2.append (P:=jA) NV G9 QF QD U (by simp only[jX,jI,zF,zH];omega) M (cE (i:Nat));refine A7 A ?_;refine(LY G _ _).use ?_;refine EH A @Q8 O j ?_;refine⟨n-1,U,i+1,V,U,AO,AO,AO,AO,AO,X,?_⟩;rw[g];simpa using Q
         | true =>
           rw[if_neg (by rw[br];simp [B])] at g;refine AZ A j ?_;refine⟨n-1,U,i+1,u1,U,AO,AO,AO,AO,AO,M,?_⟩;rw[g];simpa using a2
        .have B:i+1=2^w:=by have:((i+1:Nat):Int)=((2^w:Nat):Int):=BQ I
                            omega
         rw[if_pos (.inl B)] at g;obtain⟨V,Hb,O,Q,_,X,_,_⟩:=a2.append (P:=jA) NV G9 QF QD U (by simp only[jX,jI,zF,zH];omega) M (cE (i:Nat));refine LJ f3 N A (L M) @C j I ?_;refine(LY G _ _).use ?_;refine EH A @Q8 O j ?_;refine⟨n-1,U,i+1,V,U,AO,AO,AO,AO,AO,X,?_⟩;rw[g];simpa using Q
      | true =>
        rw[if_neg (by rw[bp];simp [a4])] at g;cases I:(((i+1:Nat):Int)==((2^w:Nat):Int))
        .have B:¬i+1=2^w:=fun q=>by rw[q] at I;simp at I
         refine N7 f3 N A (L f) (K f) @C j I ?_;refine(SG G d.ws d.wm ((i+1:Nat):Int) T _).use ?_
         cases br:MM ((i+1:Nat):Int) d.ws with
         | false =>
           rw[if_pos (.inr br)] at g;obtain⟨V,Hb,O,Q,_,X,_,_⟩:=E.append (P:=jA) NV G9 QF QD U (by simp only[jX,jI,zF,zH];omega) f (cE (i:Nat));refine A7 A ?_;refine(LY G _ _).use ?_;refine G7 S A @Q8 O j ?_;refine⟨n-1,U,i+1,V,U,AO,AO,AO,AO,AO,X,?_⟩;rw[g];simpa using Q
         | true =>
           rw[if_neg (by rw[br];simp [B])] at g;refine DC S A j ?_;refine⟨n-1,U,i+1,u,U,AO,AO,AO,AO,AO,f,?_⟩;rw[g];simpa using E
        .have B:i+1=2^w:=by have:((i+1:Nat):Int)=((2^w:Nat):Int):=BQ I
                            omega
         rw[if_pos (.inl B)] at g;obtain⟨V,Hb,O,Q,_,X,_,_⟩:=E.append (P:=jA) NV G9 QF QD U (by simp only[jX,jI,zF,zH];omega) f (cE (i:Nat));refine LJ f3 N A (L f) @C j I ?_;refine(LY G _ _).use ?_;refine G7 S A @Q8 O j ?_;refine⟨n-1,U,i+1,V,U,AO,AO,AO,AO,AO,X,?_⟩;rw[g];simpa using Q
     .have a4:i=0:=BQ b0
      rw[if_pos (.inl a4)] at g;refine AZ A b0 ?_;obtain⟨u1,Ha,a1,a2,_,M,_,_⟩:=E.append (P:=jA) NV G9 QF QD U (by rw[jI];omega) f (cE (i:Nat));refine(LY G _ _).use ?_;refine EH S A @Q8 a1 ?_;cases I:(((i+1:Nat):Int)==((2^w:Nat):Int))
      .have B:¬i+1=2^w:=fun q=>by rw[q] at I;simp at I
       refine N7 f3 N A (L M) (K M) @C j I ?_;refine(SG G d.ws d.wm ((i+1:Nat):Int) T _).use ?_
       cases br:MM ((i+1:Nat):Int) d.ws with
       | false =>
         rw[if_pos (.inr br)] at g;obtain⟨V,Hb,O,Q,_,X,_,_⟩:=a2.append (P:=jA) NV G9 QF QD U (by simp only[jX,jI,zF,zH];omega) M (cE (i:Nat));refine A7 A ?_;refine(LY G _ _).use ?_;refine EH A @Q8 O j ?_;refine⟨n-1,U,i+1,V,U,AO,AO,AO,AO,AO,X,?_⟩;rw[g];simpa using Q
       | true =>
         rw[if_neg (by rw[br];simp [B])] at g;refine AZ A j ?_;refine⟨n-1,U,i+1,u1,U,AO,AO,AO,AO,AO,M,?_⟩;rw[g];simpa using a2
      .have B:i+1=2^w:=by have:((i+1:Nat):Int)=((2^w:Nat):Int):=BQ I
                          omega
       rw[if_pos (.inl B)] at g;obtain⟨V,Hb,O,Q,_,X,_,_⟩:=a2.append (P:=jA) NV G9 QF QD U (by simp only[jX,jI,zF,zH];omega) M (cE (i:Nat));refine LJ f3 N A (L M) @C j I ?_;refine(LY G _ _).use ?_;refine EH A @Q8 O j ?_;refine⟨n-1,U,i+1,V,U,AO,AO,AO,AO,AO,X,?_⟩;rw[g];simpa using Q
  .have ei:i=2^w:=U
   rw[ei] at E;refine AB ?_;exact⟨u,AO,AO,AO,f,E⟩
 .rintro F H ⟨u,f4,N,S,f,E⟩
  rw[al,an] at E
  generalize runs d.ws (2^w)=R at E av|-
  have l:(h_ R).length=2*R.length:=WP R
  have ab:KI jA 23 u=some (.n ((2*R.length:Nat):Int)):=by
   rcases E with⟨z,rfl⟩|⟨z,o,_,rfl,_⟩
   .rw[z] at l
    simp only[zH] at l;simp only[mz,<-l];rfl
   .simp only[mz,l]
  have Z:=DZ f Y;have aj:=DZ f gv;have aw:=f.le;have b3:=AY Y;have b4:=AY gv;refine AB ?_;refine(LY G 0 _).use ?_;have gc:=A8 H (qH 4 [AQ (cE 0)]);have ah:=iN H (cE 0) EQ rfl;refine A7 OH ?_;rw[show([AV.int .i64 0,.n 0,.str ⟨#[]⟩,.sl .nil 0 []]:List AV)=EQ from rfl];refine A7 ah ?_;have ad:∀b,db u b->b<H.length:=fun b hb=>(E.lt hb).2
  have E:=E.app [qH 4 [AQ (cE 0)]];have f:=f.app [qH 4 [AQ (cE 0)]]
  generalize H++[qH 4 [AQ (cE 0)]]=H2 at gc E f|-
  generalize H.length=cb at gc ad aw|-
  clear ah Z aj
  generalize p.vars[k].name=nm at ag|-
  refine EG 2 (fun F H=>F 4=.ptr (h.length+2) 0 0/\F 8=.ptr cb 0 0/\Sm.ext H1 H/\H[cb]?=some (qH 4 [rW nm R (parts R)])) (fun _ _=>False) ?_ ?_ (fun _ _ q=>q.elim)
  .refine BB (fun n F H=>∃k,n=2*R.length-32*k/\(k=0\/32*(k-1)<2*R.length)/\F 4=.ptr (h.length+2) 0 0/\F 5=.ptr vb 0 0/\F 6=u/\F 8=.ptr cb 0 0/\F 9=.n ((32*k:Nat):Int)/\Sm.ext H1 H/\H[cb]?=some (qH 4 [rW nm R k])/\bw 4 AQ H1 (h_ R) u H) (2*R.length)
    ⟨0,U,.inl rfl,DY f4,DY N,DY S,AL,AL,f,gc,E⟩ ?_
   clear f gc E f4 N S;rintro n F H ⟨k,rfl,az,f4,N,S,f8,f9,f,gc,E⟩;have ec:decide (((32*k:Nat):Int)<((2*R.length:Nat):Int))=decide (32*k<2*R.length):=by rw[decide_eq_decide];omega
   refine EH S f9 @ab ec ?_;refine BL ?_ ?_<;>intro hc
   .have aq:32*k<2*R.length:=BQ hc
    obtain⟨o,ac,rfl,a5⟩:∃o,H1.length<=o/\u=.own o 0 (2*R.length)/\H[o]?=some (qH 4 ((h_ R).map AQ)):=by
     rcases E with⟨z,_⟩|⟨z,o,q1,q2,q3⟩
     .rw[z] at l;simp at l;omega
     .exact⟨o,q1,by rw[q2,l],q3⟩
    have b1:o≠cb:=by have:=ad o rfl;omega
    have zw:IntKind.i64.wrap (((32*k:Nat):Int)+32)=((32*k+32:Nat):Int):=by rw[wrap_i64 U U];omega
    have em:min ((32*k+32:Nat):Int) ((2*R.length:Nat):Int)=((min (32*k+32) (2*R.length):Nat):Int):=U;have sl:=AS1 (P:=jA) NV G9 (kk:=.i64) (off:=0) (len:=2*R.length) a5 (U:32*k<=min (32*k+32) (2*R.length)) (U:min (32*k+32) (2*R.length)<=2*R.length);have ao:=AVK R k _ rfl;have b2:=RQ R k
    have a9:JR H (.own o (0+32*k) (min (32*k+32) (2*R.length)-32*k))=some (4,(h_ (Ho.part R k)).map AQ):=by
     rw[KH a5 (by rw[jI,l];omega),<-List.map_drop,<-List.map_take,jG,ao]
    rw[jG] at sl a9
    have au:(h_ (Ho.part R k)).map AQ≠[]:=by
     intro e;have:=congrArg List.length e;rw[jI,WP] at this;unfold Ho.part at this;rw[jT,yB] at this;simp at this;omega
    have ap:=aU (P:=jA) (xs:=[NQ nm]) NV G9 QF QD a9 au (JF (by rw[jI,WP];simp;omega) U)
    have a0 : [NQ nm]++(h_ (Ho.part R k)).map AQ=(jz nm (Ho.part R k)).map ZA:=by
     unfold jz;rw[jJ,qG];rfl
    have a8 : [NQ nm].length+((h_ (Ho.part R k)).map AQ).length=((jz nm (Ho.part R k)).map ZA).length:=by rw[<-a0,jX]
    rw[a0,a8] at ap;have ak:=A8 H (qH 4 ((jz nm (Ho.part R k)).map ZA));have hz:=gA (i:=10) (off:=0) (len:=((jz nm (Ho.part R k)).map ZA).length) ak U (by rw[zI,jK (jF _)];exact AYZ nm _);rw[zI,jK (jF _),KZ] at hz;have gT:=A8 (H++[bO.dead]) (qH 4 [EQ]);have stT:=O4 (cs:=j0 nm (Ho.part R k)) gT rfl rfl rfl;rw[KZ] at stT;have gI:=A8 (H++[bO.dead]) (qH 4 [j0 nm (Ho.part R k)]);have J:=AU (x:=qH 4 [j0 nm (Ho.part R k)]) (AU (x:=bO.dead) gc);have a6:=AU (x:=qH 4 [j0 nm (Ho.part R k)]) (AU (x:=bO.dead) a5);have a7:=(f.app [bO.dead]).app [qH 4 [j0 nm (Ho.part R k)]];have ai:IY jA 79 [(0,.n 23),(3,.sl .any 4 ((jz nm (Ho.part R k)).map ZA))]=some (.agg (j0 nm (Ho.part R k))):=BAY _;simp only[vQ,Option.map_some,Option.map_none,jU,jV,CP,OA,U6,u6,uo,↓reduceIte,jC,b_,mz,WL,jQ,zZ,NR,N,S,f9,ag f,qt,BAU,zw,em,sl,ap,UJ,hz,ai,OH];rw[show([AV.int .i64 0,.n 0,.str ⟨#[]⟩,.sl .nil 0 []]:List AV)=EQ from rfl];refine AZ @stT f9 ?_
    generalize H++[bO.dead]++[qH 4 [j0 nm (Ho.part R k)]]=H3 at gI J a6 a7|-
    generalize (H++[bO.dead]).length=tb at gI|-
    cases k with
    | zero =>
      have sc:=O4 (cs:=j0 nm (Ho.part R 0)) J (ud nm R 0) rfl rfl;refine LP (show((((32*0:Nat)):Int)==0)=true by decide) f8 (HY gI rfl) sc f9 zw ?_;exact⟨_,U,1,rfl,.inr U,AO,AO,AO,AO,AO,a7.set U _,CO J,.inr ⟨fun e=>by rw[e] at l;simp at l;omega,o,ac,by rw[l],DU a6 U⟩⟩
    | succ k =>
      have zn:((((32*(k+1):Nat)):Int)==0)=false:=by rw[beq_eq_false_iff_ne];omega
      have a3:IY jA 79 [(0,.n 20),(3,.sl .full 4 [sumW nm R k,j0 nm (Ho.part R (k+1))])]=some (.agg (sumW nm R (k+1))):=vn _;have J:H3[cb]?=some (qH 4 [sumW nm R k]):=J;refine U3 zn f8 (HY gI rfl) (HY J (fH nm R k)) @BAX a3 (O4 J (fH nm R k) (fH nm R (k+1)) (vR nm R (k+1))) f9 zw ?_;exact⟨_,U,k+1+1,rfl,.inr U,AO,AO,AO,AO,AO,a7.set U _,CO J,.inr ⟨fun e=>by rw[e] at l;simp at l;omega,o,ac,by rw[l],DU a6 U⟩⟩
   .have aq:¬32*k<2*R.length:=BQ hc
    have ek:parts R=k:=by unfold parts;omega
    refine AB ?_;exact⟨AO,AO,f,by rw[ek];exact gc⟩
  .rintro F H ⟨f4,f8,f,gc⟩
   have Z:=DZ f Y;simp only[vQ,jU,jV,VY,CP,↓reduceIte,jC,b_,jQ,zZ,NR,f4,f8,HY gc (ud _ _ _),O4 Z rfl (ud _ _ _) (AXZ _ _ _)];rw[IU (b:=h.length+2) (DY f4) (HY (CO Z) (ud _ _ _))];exact⟨rfl,(hx.trans f).set U _⟩
theorem Uc (p:Pr)(I:fp p)(J:JY p=0)(h:Hp):a_ (En G) 53 [.agg (CW p)] h (.sl (Cov.nm (TB p)) 4 ((TB p).map AQ)):=by
 have P:=PV.of J;refine JL Ho.fr ?_;refine II (H:=hint [24] []) (ji G) Tryz.func53 rfl (by kernel_rfl) (by kernel_rfl) (jB (by kernel_rfl)) ?_;show dh _ _ _ _ _ (MW _ [.tmp 2] _);have B:=A8 h (qH 5 [CW p]);have N:=Sm.ext.r1 h (qH 5 [CW p]);have S:=I.dists;refine A7 @QE ?_
 generalize h++[qH 5 [CW p]]=H0 at B N|-
 have T:=AY B;have ldP:∀ {H:Hp},H[h.length]?=some (qH 5 [CW p])->BR jA H 27 (.ptr h.length 0 0)=some (.agg (CW p)):=fun q=>by rw[EK eP ZU q (row:=CW p) rfl (by rw[LD];exact jF 5)];rfl
 have A:∀ {H:Hp},H[h.length]?=some (qH 5 [CW p])->BR jA H 24 (.ptr h.length 0 3)=some (.sl p.dm 2 (p.dists.map I9)):=fun q=>by rw[BJ qw q (row:=CW p) rfl];rfl
 refine A7 (ldP B) ?_;refine(Bd.dq G p I H0).use ?_;refine A7 (show(JY p != 0)=false by rw[J];rfl) ?_;have V:(TB p).length=p.dists.length:=by unfold TB;rw[jI]
 refine BB (fun n F H=>∃i v,n+i=p.dists.length/\F 1=.ptr h.length 0 0/\F 3=v/\F 4=.n (i:Nat)/\Sm.ext H0 H/\bw 4 AQ H0 ((TB p).take i) v H) p.dists.length
  ⟨0,.sl .nil 0 [],BA,AL,AL,AL,ext.rfl' _,bw.nil _ _ _ _⟩ ?_
 rintro n F H ⟨i,v,hi,L,M,C,j,E⟩;have f:=DZ j B;refine DC L C (A f) ?_;refine DV ?_ ?_<;>intro g
 .obtain⟨R,Z⟩:=zg J _ (jH g)
  obtain⟨X,Y,O,K,_,Q,_,_⟩:=E.append (P:=jA) NV G9 QF QD U (by rw[jT];omega) j (iL p p.dists[i]);have hit:i<(TB p).length:=U;have l:(TB p)[i]=iL p p.dists[i]:=by simp [TB]
  rw[<-l,<-jW hit] at K
  try refine AB ?_
  refine DI BC ?_;simp only[vQ,List.contains_cons,jU,jV,Bool.or_false,JK,KU,KE,↓reduceIte,jC,Nat.reduceAdd,b_,ph,z6,L,M,C,ldP f,A f,CE g,DL sh fG RU g];refine⟨_,SU G p I P p.dists[i] R U H,?_⟩
  try refine EH @Q8 O C (CZ i) ?_
  exact⟨n-1,U,i+1,X,U,AO,AO,AO,Q,K⟩
 .rw[jK U] at E
  refine A7 M ?_;refine⟨N.trans j,?_⟩;rcases E with⟨a,b⟩|⟨a,o,b,c,e⟩
  .exact .inl ⟨a,b⟩
  .exact .inr ⟨a,o,U,c,e⟩
end
def R4 (r:List AV):Prop:=∃a n s m k f,r=[.n a,.n n,.str s,.sl m k f]
theorem R4.enc (e:Ex):R4 (AQ e):=⟨_,_,_,_,_,_,FP e⟩
theorem R4.len (h:R4 r):r.length=4:=by obtain⟨_,_,_,_,_,_,rfl⟩:=h;rfl
theorem R4.leaf {r:List AV}(h:R4 r):r.all AV.leaf=true:=by obtain⟨_,_,_,_,_,_,rfl⟩:=h;rfl
theorem R4.frz (h:R4 r)(n:Nat)(H:Hp):FK n H 3 (.agg r)=.agg r:=by obtain⟨_,_,_,_,_,_,rfl⟩:=h;rfl
theorem Dm (h:Hp){s:List AV}(a:R4 r)(f:R4 s):DR jA false h 23 2 [(0,.agg r),(1,.agg s)]=some (.sl .full 4 [r,s],h):=by
 obtain⟨_,_,_,_,_,_,rfl⟩:=a;obtain⟨_,_,_,_,_,_,rfl⟩:=f
 kernel_rfl
theorem BAW (h:Hp){s t:List AV}(a:R4 r)(f:R4 s)(g:R4 t):DR jA false h 23 3 [(0,.agg r),(1,.agg s),(2,.agg t)]=some (.sl .full 4 [r,s,t],h):=by
 obtain⟨_,_,_,_,_,_,rfl⟩:=a;obtain⟨_,_,_,_,_,_,rfl⟩:=f;obtain⟨_,_,_,_,_,_,rfl⟩:=g
 kernel_rfl
theorem DP {a b c f g h:List AV}(j:cf a f)(h2:cf b g)(l:cf c h):Cv (.sl .full 4 [a,b,c]) (.sl .full 4 [f,g,h]):=Cv.rows rfl fun i r A p q=>by
 match i,p,q with
 | 0,p,q=>cases p;cases q;exact j
 | 1,p,q=>cases p;cases q;exact h2
 | 2,p,q=>cases p;cases q;exact l
 | i+3,p,q=>cases p
theorem sJ (e:Ex):cf (AQ e) (AQ e):=cf.refl fun v a=>by have:=TL e;rw[zJ] at this;exact this v a
abbrev ml (i:Ex)(k:Nat):List AV:=[.n 15,.n 0,.str ⟨#[]⟩,.sl .full 4 [AQ i,SL 1 (k:Nat)]]
def ni (a:ByteArray)(i:Ex)(n:Nat):Nat->List AV
 | 0=>SL 1 0
 | j+1=>[.n 22,.n 0,.str ⟨#[]⟩,.sl .full 4 [ml i (n-1-j),AQ (gw a (n-1-j)),ni a i n j]]
theorem R4.is (i:Ex)(k:Nat):R4 (ml i k):=⟨_,_,_,_,_,_,rfl⟩
theorem R4.ch (a:ByteArray)(i:Ex)(n:Nat):∀j,R4 (ni a i n j)
 | 0=>⟨_,_,_,_,_,_,rfl⟩
 | _+1=>⟨_,_,_,_,_,_,rfl⟩
theorem Iq (i:Ex)(k:Nat):cf (ml i k) (AQ (.mk 15 0 ⟨#[]⟩ .full [i,cE ((k:Nat):Int)])):=by
 rw[sG];exact cf.cons rfl (Cv.refl _) (cf.cons rfl (Cv.refl _) (cf.cons rfl (Cv.refl _) (cf.cons rfl (uf (sJ i) (nZ _)) cf.nil)))
theorem Jo (a:ByteArray)(i:Ex)(n:Nat):∀j,cf (ni a i n j) (AQ (jx id a i n j))
 | 0=>nZ 0
 | j+1=>by
   show cf _ (AQ (.mk 22 0 ⟨#[]⟩ .full [.mk 15 0 ⟨#[]⟩ .full [i,cE ((n-1-j:Nat):Int)],gw a (n-1-j),jx id a i n j]));rw[sG];exact cf.cons rfl (Cv.refl _) (cf.cons rfl (Cv.refl _) (cf.cons rfl (Cv.refl _) (cf.cons rfl (DP (Iq i _) (sJ _) (Jo a i n j)) cf.nil)))
theorem Kz (a:ByteArray)(i:Ex)(n:Nat)(j:Nat):cz (.agg (ni a i n j)) (.agg (AQ (jx id a i n j))):=by
 cases j with
 | zero=>exact XX 0
 | succ j =>
   show cz _ (.agg (AQ (.mk 22 0 ⟨#[]⟩ .full [.mk 15 0 ⟨#[]⟩ .full [i,cE ((n-1-j:Nat):Int)],gw a (n-1-j),jx id a i n j])));rw[sG];exact cz.agg (cq.cons (cz.refl _) (cq.cons (cz.refl _) (cq.cons (cz.refl _) (cq.cons (cz.sl (DP (Iq i _) (sJ _) (Jo a i n j))) cq.nil))))
theorem vS (h:Hp)(a:R4 r):D7 jA (h++[qH 4 [[.n 0,.n 0,.str ⟨#[]⟩,.sl .nil 0 []]]]) 79 (.ptr h.length 0 0) (.agg r)=some (h++[qH 4 [r]]):=by
 rw[O4 (A8 _ _) rfl a.len a.leaf,KZ]
def pv (a:ByteArray)(i:Ex)(n:Nat):List AV:=if i.op=1 then (if i.n<(n:Int) then AQ (gw a i.n.toNat) else SL 1 0) else ni a i n n
theorem R4.cs (a:ByteArray)(i:Ex)(n:Nat):R4 (pv a i n):=by
 unfold pv;split
 .split
  .exact R4.enc _
  .exact⟨_,_,_,_,_,_,rfl⟩
 .exact R4.ch a i n n
theorem AZ0 (a:ByteArray)(i:Ex)(n:Nat):cz (.agg (pv a i n)) (.agg (AQ (Y4 id a i n))):=by
 unfold pv Y4;split
 .split
  .exact cz.refl _
  .exact XX 0
 .exact Kz a i n n
theorem JT:IY jA 79 [(0,.n 1)]=some (.agg (SL 1 0)):=BC
theorem Oz (a n:Int)(s:ByteArray)(v:AV)(f:v=.sl .nil 0 []\/∃o k,v=.own o 0 k):IY jA 79 [(0,.n a),(1,.n n),(2,.str s),(3,v)]=some (.agg [.n a,.n n,.str s,v]):=by
 rcases f with rfl|⟨o,k,rfl⟩
 .kernel_rfl
 .kernel_rfl
section
variable (G:Nat->AV)
theorem fV (a:ByteArray)(k:Nat)(hk:k<9)(i:a.size<=1048576)(h:Hp):a_ (En G) 273 [.str a,.n (k:Nat)] h (.agg (AQ (gw a k))):=by
 refine a_.res ?_ (Ia (elN a k));refine RN 3 (fun n H=>rfl) ?_;refine e7 Tryz.func273 [.cell 4 79] ?_;have f:=A8 h (qH 4 [EQ]);have g:=Sm.ext.r1 h (qH 4 [EQ]);refine AZ OH z4 ?_
 generalize h++[qH 4 [EQ]]=H1 at f g|-
 refine(yL G a k hk H1 i).use ?_;have j:=O4 (cs:=NQ (elN a k)) f rfl rfl rfl;refine AZ @qt j ?_;rw[IU (b:=h.length) AL (HY (CO f) rfl)];exact⟨rfl,g.set (jF _) _⟩
theorem AQZ (a:ByteArray)(V:a.size<=1048576)(i:Ex)(hi:i.op=1->0<=i.n)(n:Nat)(a0:n<=8)(h:Hp):a_ (En G) 274 [.str a,.agg (AQ i),.n (n:Nat)] h (.agg (AQ (Y4 id a i n))):=by
 refine a_.res ?_ (AZ0 a i n);refine RN 3 (fun m H=>(R4.cs a i n).frz m H) ?_;refine e7 Tryz.func274 [.cell 6 79] ?_;have l:=AU (x:=qH 4 [EQ]) (A8 h (qH 4 [AQ i]));have f:=A8 (h++[qH 4 [AQ i]]) (qH 4 [EQ]);have g:Sm.ext h (h++[qH 4 [AQ i]]++[qH 4 [EQ]]):=((ext.rfl' h).app _).app _;have T:(h++[qH 4 [AQ i]]).length=h.length+1:=BA;refine DC @fa OH z4 ?_
 rw[T] at f|-
 generalize h++[qH 4 [AQ i]]++[qH 4 [EQ]]=H1 at l f g|-
 clear T;refine A7 (XR l) ?_;cases L:(i.op==1)
 case true =>
  have Q:i.op=1:=BQ L;have h0:=hi Q;refine AZ L (px l) ?_;cases M:decide (i.n<((n:Nat):Int))
  .have q:=of_decide_eq_false M
   refine DC M JT (O4 f rfl (cs:=SL 1 0) rfl rfl) ?_;rw[IU (b:=h.length+1) AL (HY (CO f) rfl)];exact⟨by unfold pv;rw[if_pos Q,if_neg q],g.set U _⟩
  .have q:=of_decide_eq_true M
   obtain⟨k,hk⟩:=wK h0;have J:=fV G a k U V H1;rw[<-hk] at J;refine AZ M (px l) ?_;refine J.use ?_;refine A7 (O5 (e:=gw a k) f rfl) ?_;rw[IU (b:=h.length+1) AL (MR (CO f))];exact⟨by unfold pv;rw[if_pos Q,if_pos q,hk,qI],g.set U _⟩
 have o1:¬i.op=1:=BQ L;have lr:=AY f;have l:=AU (x:=qH 4 [SL 1 0]) l;have f:=AU (x:=qH 4 [SL 1 0]) f;have p:=A8 H1 (qH 4 [SL 1 0]);have g:=g.app [qH 4 [SL 1 0]];have w1:IntKind.i64.wrap (((n:Nat):Int)-1)=((n:Nat):Int)-1:=wrap_i64 U U;refine G7 L JT e9 (vS H1 (r:=SL 1 0) ⟨_,_,_,_,_,_,rfl⟩) w1 ?_
 generalize H1++[qH 4 [SL 1 0]]=H2 at l f p g|-
 generalize H1.length=ob at p lr|-
 refine EG 0 (fun F H=>F 6=.ptr (h.length+1) 0 0/\F 7=.ptr ob 0 0/\H[h.length+1]?=some (qH 4 [EQ])/\H[ob]?=some (qH 4 [ni a i n n])/\Sm.ext h H) (fun _ _=>False) ?_ ?_ (fun _ _ q=>q.elim)
 .refine BB (fun k F H=>∃j,k+j=n/\F 0=.str a/\F 4=.ptr h.length 0 0/\F 6=.ptr (h.length+1) 0 0/\F 7=.ptr ob 0 0/\F 8=.n (((n:Nat):Int)-1-(j:Nat))/\H[h.length]?=some (qH 4 [AQ i])/\H[h.length+1]?=some (qH 4 [EQ])/\H[ob]?=some (qH 4 [ni a i n j])/\Sm.ext h H) n
   ⟨0,U,AL,AL,AL,AL,by refine AB ?_;simp,l,f,p,g⟩ ?_
  clear l f p g;rintro k F H ⟨j,hj,Z,f4,O,N,B,l,f,p,g⟩;refine A7 B ?_;refine BL ?_ ?_<;>intro I
  .have I:j<n:=by have:=of_decide_eq_true I;omega
   have Y:((n:Nat):Int)-1-(j:Nat)=((n-1-j:Nat):Int):=U;have w2:IntKind.i64.wrap (((n-1-j:Nat):Int)-1)=((n:Nat):Int)-1-((j+1:Nat):Int):=by rw[wrap_i64 U U];omega
   rw[Y] at B;have P:=A8 H (qH 4 [ml i (n-1-j)]);have C:=AU (x:=qH 4 [ml i (n-1-j)]) l;have E:=AU (x:=qH 4 [ml i (n-1-j)]) f;have A:=AU (x:=qH 4 [ml i (n-1-j)]) p;have K:=g.app [qH 4 [ml i (n-1-j)]];have R:=vS H (R4.is i (n-1-j));refine N7 f4 B (IL l) @tK (Dm H (R4.enc i) (⟨_,_,_,_,_,_,rfl⟩:R4 (SL 1 ((n-1-j:Nat):Int)))) @s_ e9 R ?_
   generalize H++[qH 4 [ml i (n-1-j)]]=H3 at P C E A K|-
   have S:=AY p
   generalize H.length=ib at P S|-
   have X:=O4 (cs:=ni a i n (j+1)) A (R4.ch a i n j).len (R4.ch a i n (j+1)).len (R4.ch a i n (j+1)).leaf;change D7 jA H3 79 (.ptr ob 0 0) (.agg [.n 22,.n 0,.str ⟨#[]⟩,.sl .full 4 [ml i (n-1-j),AQ (gw a (n-1-j)),ni a i n j]])=_ at X;refine DI BC ?_;refine G7 Z N B (HY P rfl) (HY A (R4.ch a i n j).len) ?_;refine⟨_,fV G a (n-1-j) U V H3,?_⟩;refine LP (BAW H3 (R4.is i (n-1-j)) (R4.enc (gw a (n-1-j))) (R4.ch a i n j)) @s_ N X B w2 ?_;exact⟨k-1,U,j+1,U,AO,AO,AO,AO,AO,by rw[zY U];exact C,by rw[zY U];exact E,CO A,K.set U _⟩
  .have I:¬j<n:=fun q=>by rw[decide_eq_true U] at I;cases I
   have e:j=n:=U;rw[e] at p;refine AB ?_;exact⟨AO,AO,f,p,g⟩
 rintro F H ⟨O,N,f,p,g⟩;refine EH O N (HY p (R4.ch a i n n).len) (O4 f rfl (R4.ch a i n n).len (R4.ch a i n n).leaf) ?_;rw[IU (b:=h.length+1) (DY O) (HY (CO f) (R4.ch a i n n).len)];exact⟨by unfold pv;rw[if_neg o1],g.set U _⟩
def p0 (vs:List Vr)(e:Ex):List AV:=if e.op=24\/e.op=3 then AQ (EW de vs e) else [.n e.op,.n e.n,.str e.name,gn 4 AQ (e.args.map (EW de vs))]
theorem AXR (vs:List Vr)(e:Ex):cz (.agg (p0 vs e)) (.agg (AQ (EW de vs e))):=by
 unfold p0;by_cases q:e.op=24\/e.op=3
 .rw[if_pos q];exact cz.refl _
 .rw[if_neg q,RG]
  unfold l8;rw[if_neg (fun h=>q (.inl h)),if_neg (fun h=>q (.inr h)),FP];show cz _ (.agg [.n e.op,.n e.n,.str e.name,.sl (Cov.nm (e.args.map (EW de vs))) 4 ((e.args.map (EW de vs)).map AQ)]);generalize e.args.map (EW de vs)=l
  cases l with
  | nil=>exact cz.agg (cq.cons (cz.refl _) (cq.cons (cz.refl _) (cq.cons (cz.refl _) (cq.cons (cz.sl (Cv.nil 0 4)) cq.nil))))
  | cons x l=>exact cz.refl _
theorem RB (vs:List Vr)(m:SM)(hl:vs.length<=1048576)(hv:∀v∈vs,GG v.name=true)(e:Ex):en e->OM vs e=false->(FX vs e).1<=400->∀h:Hp,a_ (En G) 205 [.sl m 4 (vs.map bt),.agg (AQ e)] h (.agg (AQ (EW de vs e))):=by
 induction e using Ex.induct with|h e ih=>?_
 intro O hu a5 h;have ac:=O.name;have ab:=O.len;have a6:=iJ vs e.name;refine a_.res (r:=.agg (p0 vs e)) ?_ (AXR vs e);refine ACalls.pure (R:=fun v H=>Sm.ext h H/\FK h.length H 4 v=.agg (p0 vs e)) 4 ?_ (fun v H ⟨a,b⟩=>⟨a,b⟩);refine e7 Tryz.func205 [.cell 4 79] ?_;have f:=RG de vs e;unfold l8 at f;have p:=AU (x:=qH 4 [EQ]) (A8 h (qH 4 [AQ e]));have l:=A8 (h++[qH 4 [AQ e]]) (qH 4 [EQ]);have C:Sm.ext h (h++[qH 4 [AQ e]]++[qH 4 [EQ]]):=((ext.rfl' h).app _).app _;have e1:(h++[qH 4 [AQ e]]).length=h.length+1:=BA;refine DC @fa OH z4 ?_
 rw[e1] at l|-
 generalize h++[qH 4 [AQ e]]++[qH 4 [EQ]]=H1 at p l C|-
 clear e1;refine A7 (XR p) ?_;cases J:(e.op==24)
 case true =>
  have B:e.op=24:=BQ J;have hz:=S9 hu (.inr B);rw[if_pos B] at f;refine AZ J (OZ p) ?_;refine(fV G e.name 0 U U H1).use ?_;have lr:=AY l;have p:=AU (x:=qH 4 [AQ (gw e.name 0)]) p;have l:=AU (x:=qH 4 [AQ (gw e.name 0)]) l;have E:=A8 H1 (qH 4 [AQ (gw e.name 0)]);have C:=C.app [qH 4 [AQ (gw e.name 0)]];refine AZ e9 gg ?_
  generalize H1++[qH 4 [AQ (gw e.name 0)]]=H2 at p l E C|-
  generalize H1.length=ob at E lr|-
  refine EG 0 (fun F H=>F 4=.ptr (h.length+1) 0 0/\F 5=.ptr ob 0 0/\H[h.length+1]?=some (qH 4 [EQ])/\H[ob]?=some (qH 4 [AQ (W9 e.name (szA vs e.name-1))])/\Sm.ext h H) (fun _ _=>False) ?_ ?_ (fun _ _ q=>q.elim)
  .refine BB (fun n F H=>∃k,n+(k+1)=szA vs e.name/\F 0=.sl m 4 (vs.map bt)/\F 3=.ptr h.length 0 0/\F 4=.ptr (h.length+1) 0 0/\F 5=.ptr ob 0 0/\F 6=.n ((k+1:Nat):Int)/\H[h.length]?=some (qH 4 [AQ e])/\H[h.length+1]?=some (qH 4 [EQ])/\H[ob]?=some (qH 4 [AQ (W9 e.name k)])/\Sm.ext h H) (szA vs e.name-1)
    ⟨0,U,AL,AL,AL,AL,AL,p,l,E,C⟩ ?_
   clear p l E C;rintro n F H ⟨k,hk,Q,K,I,f5,f6,p,l,E,C⟩;refine EH Q K f6 (OZ p) ?_;refine(VN G vs m hl hv e.name U H).use ?_;refine A7 f6 ?_;refine DV ?_ ?_<;>intro hc
   .have s2:=O5 (e:=W9 e.name (k+1)) E (EF _)
    have encS:AQ (W9 e.name (k+1))=[.n 7,.n 0,.str ⟨#[]⟩,.sl .full 4 [AQ (W9 e.name k),AQ (gw e.name (k+1))]]:=sG 7 .full [W9 e.name k,gw e.name (k+1)];rw[encS] at s2;refine AB ?_;refine DI BC ?_;refine G7 K f5 f6 (MR E) (OZ p) ?_;refine⟨_,fV G e.name (k+1) U U H,?_⟩;refine LP @aT @s_ f5 s2 f6 (CZ (k+1)) ?_;exact⟨n-1,U,k+1,U,AO,AO,AO,AO,AO,by rw[zY U];exact p,by rw[zY U];exact l,by rw[encS];exact CO E,C.set U _⟩
   .have e':szA vs e.name-1=k:=U
    refine AB ?_;exact⟨AO,AO,l,by rw[e'];exact E,C⟩
  rintro F H ⟨I,f5,l,E,C⟩;simp only[vQ,VY,CP,↓reduceIte,jC,b_,jQ,I,f5,MR E,O5 l rfl];rw[IU (b:=h.length+1) (DY I) (MR (CO l))];refine⟨C.set U _,?_⟩;unfold p0;rw[if_pos (.inl B),f];exact PL _ _ 1 _
 have X:¬e.op=24:=BQ J;rw[if_neg X] at f;refine A7 J ?_;have lr:=AY l;refine EG 2 (fun F H=>∃v,F 0=.sl m 4 (vs.map bt)/\F 3=.ptr h.length 0 0/\F 4=.ptr (h.length+1) 0 0/\F 7=v/\Sm.ext H1 H/\bw 4 AQ H1 (e.args.map (EW de vs)) v H) (fun _ _=>False) ?_ ?_ (fun _ _ q=>q.elim)
 .refine BB (fun n F H=>∃j v,n+j=e.args.length/\F 0=.sl m 4 (vs.map bt)/\F 3=.ptr h.length 0 0/\F 4=.ptr (h.length+1) 0 0/\F 7=v/\F 8=.n (j:Nat)/\Sm.ext H1 H/\bw 4 AQ H1 ((e.args.map (EW de vs)).take j) v H) e.args.length
   ⟨0,.sl .nil 0 [],BA,AL,AL,AL,AL,AL,ext.rfl' _,bw.nil _ _ _ _⟩ ?_
  rintro n F H ⟨j,v,hj,Q,K,I,S,f8,i,B⟩;have g:=DZ i p;refine DC K f8 (O1 g) ?_;refine DV ?_ ?_<;>intro M
  .have A:e.args[j]∈e.args:=jH M
   have hit:j<(e.args.map (EW de vs)).length:=by rw[jI];exact M
   have T:(e.args.map (EW de vs))[j]=EW de vs e.args[j]:=BA;simp only[vQ,CP,↓reduceIte,jC,b_,P5,UY,Q,K,S,f8,O1 g,CE M,DL NU G9 EF M];refine(ih e.args[j] A (O.arg A) (OB hu A) (nW O hu a5 A) H).use ?_;obtain⟨v',H',a1,a2,_,a3,_,_⟩:=B.append (P:=jA) NV G9 QF QD U (by rw[jT];omega) i (EW de vs e.args[j]);rw[<-T,<-jW hit] at a2;refine G7 @Q8 S a1 f8 (CZ j) ?_;exact⟨n-1,U,j+1,v',U,AO,AO,AO,AO,AO,a3,a2⟩
  .rw[jK (by rw[jI];omega)] at B
   refine AB ?_;exact⟨v,AO,AO,AO,AO,i,B⟩
 rintro F H ⟨v,Q,K,I,S,i,B⟩;have g:=DZ i p;have L:=DZ i l;have V:=C.trans i;have aa:=i.le;refine AZ K (XR g) ?_;cases Z:(e.op==3)
 case true =>
  have Y:e.op=3:=BQ Z;rw[if_pos Y] at f;obtain⟨b,hb⟩:=SA O.self Y;have hm:b∈e.args:=by rw[hb];simp
  have N:e.args.map (EW de vs)=[EW de vs b]:=by rw[hb];rfl
  rw[N] at f B;obtain⟨c1,c2⟩:=bG (s:=de) (O.arg hm) (OB hu hm);rcases B with⟨q,_⟩|⟨_,o,ad,rfl,q3⟩
  .cases q
  have a8:JJ 4 H (.own o 0 [EW de vs b].length) (.n 0)=some (.ptr o 0 0):=GR q3 (show 0<1 from Nat.one_pos)
  have a9:BR jA H 79 (.ptr o 0 0)=some (.agg (AQ (EW de vs b))):=by
   rw[EK NU G9 q3 (row:=AQ (EW de vs b)) rfl (by rw[EF];exact jF 4),zI,jK (by rw[EF];exact jF 4)]
  refine A7 Z ?_;refine DI BC ?_;refine LJ Q K I S (OZ g) a8 a9 ?_;refine⟨_,VN G vs m hl hv e.name U H,_,AQZ G e.name U (EW de vs b) (fun q=>by rw[c2 (c1.1 q)];exact c1.1 q) (szA vs e.name) a6 H,?_⟩;refine AZ I (O5 (e:=Y4 id e.name (EW de vs b) (szA vs e.name)) L rfl) ?_;rw[IU (b:=h.length+1) (DY I) (MR (CO L))];refine⟨V.set U _,?_⟩;unfold p0;rw[if_pos (.inr Y),f];exact PL _ _ 1 _
 have Y:¬e.op=3:=BQ Z
 have a7:v=.sl .nil 0 []\/∃o k,v=.own o 0 k:=by
  rcases B with⟨_,rfl⟩|⟨_,o,_,rfl,_⟩
  .exact .inl rfl
  .exact .inr ⟨o,_,rfl⟩
 have a0:([.n e.op,.n e.n,.str e.name,v]:List AV).all AV.leaf=true:=by
  have:=B.leaf;simp [this];exact⟨rfl,rfl,rfl⟩
 have a4:=B.setB (b:=h.length+1) lr (qH 4 [[.n e.op,.n e.n,.str e.name,v]]);simp only[vQ,CP,OA,↓reduceIte,jC,b_,YU,rY,kH,jQ,Z,K,I,S,XR g,px g,OZ g,Oz _ _ _ _ a7,O4 L rfl rfl a0];rw[IU (b:=h.length+1) (DY I) (HY (CO L) rfl)];refine⟨V.set U _,?_⟩;have hz:=KC fr a4 h.length 1 (by have:=C.le;omega);unfold p0;rw[if_neg (fun q=>q.elim X Y)];show AV.agg [.n e.op,.n e.n,.str e.name,FK h.length _ 3 v]=_;rw[hz]
theorem W_ (p:Pr)(V:fp p)(X:JY p=0)(e:Ex)(N:c9 e=0)(h:Hp):a_ (En G) 114 [.agg (CW p),.agg (AQ e)] h (k9 de p.vars e):=by
 have P:=PV.of X;have L:=en.of N;have j:=B8 P;have l:=V.vars;have hw:=z7 N;refine ACalls.pure (R:=fun v H=>v=k9 de p.vars e/\Sm.ext h H) 4 ?_ (fun v H ⟨a,b⟩=>⟨b,by rw[a];exact Gk _ _ _ _ _⟩);refine e7 Tryz.func114 [.cell 4 79,.tmp 5] ?_;have I:=AU (x:=qH 4 [EQ]) (AU (x:=qH 4 [AQ e]) (A8 h (qH 5 [CW p])));have B:=AU (x:=qH 4 [EQ]) (A8 (h++[qH 5 [CW p]]) (qH 4 [AQ e]));have C:=A8 (h++[qH 5 [CW p]]++[qH 4 [AQ e]]) (qH 4 [EQ]);have O:Sm.ext h (h++[qH 5 [CW p]]++[qH 4 [AQ e]]++[qH 4 [EQ]]):=(((ext.rfl' h).app _).app _).app _;have S:(h++[qH 5 [CW p]]).length=h.length+1:=BA;have T:(h++[qH 5 [CW p]]++[qH 4 [AQ e]]).length=h.length+2:=BA;refine EH @QE @fa OH z4 ?_
 rw[S] at B|-
 rw[T] at C|-
 generalize h++[qH 5 [CW p]]++[qH 4 [AQ e]]++[qH 4 [EQ]]=H1 at I B C O|-
 clear S T;refine A7 (UW I) ?_;refine(Bd.dq G p V H1).use ?_;refine AZ (show(JY p != 0)=false by rw[X];rfl) (IL B) ?_;refine(WM G e H1 U).use ?_
 have bad:∀(z:Int) (F:Fr),fc p.vars e=z->z≠0->F 4=.ptr (h.length+2) 0 0->F 5=.n z->MW jA [.cell 4 79,.tmp 5] (fun v H=>v=k9 de p.vars e/\Sm.ext h H) .ret F (H1.set (h.length+2) (qH 4 [EQ])):=fun z F q1 q2 Y Z=>by
  rw[cC (ba:=h.length+2) Y (HY (CO C) rfl),Z];exact⟨by rw[iP q1 q2],O.set U _⟩
 refine DC (show(c9 e != 0)=false by rw[N];rfl) (ZL I) (IL B) ?_;refine(SP G p.vars p.vm l j e L H1).use ?_;cases E:OM p.vars e
 case true =>
  refine AZ @qz (o6 C) ?_;exact bad 7 _ (by unfold fc;rw[if_pos E]) DX FB FB
 have i:fc p.vars e=if 400<(FX p.vars e).1 then 2 else c9 (EW c6 p.vars e):=by unfold fc;rw[if_neg (by rw[E];decide)]
 refine AZ (ZL I) (IL B) ?_;refine(AVM G p.vars p.vm l j e L E H1).uu ?_;cases J:decide ((((FX p.vars e).1:Nat):Int)>400)
 case true =>
  have q:=of_decide_eq_true J;refine DC J @qz (o6 C) ?_;exact bad 2 _ (by rw[i,if_pos U]) DX FB FB
 have q:=of_decide_eq_false J;rw[if_neg U] at i;have g:(FX p.vars e).1<=400:=U;refine DC J (ZL I) (IL B) ?_;refine(RB G p.vars p.vm l j e L E g H1).use ?_;have a0:=zt AXM L E g;have M:=A8 H1 (qH 4 [AQ (EW de p.vars e)]);have f:=AU (x:=qH 4 [AQ (EW de p.vars e)]) C;have A:=O.app [qH 4 [AQ (EW de p.vars e)]];refine AZ e9 gg ?_
 generalize H1++[qH 4 [AQ (EW de p.vars e)]]=H3 at M f A|-
 refine A7 (MR M) ?_;refine(WM G (EW de p.vars e) H3 U).use ?_;rw[AXS];cases K:(c9 (EW c6 p.vars e) != 0)
 case true =>
  have Q:c9 (EW c6 p.vars e)≠0:=BQ K;refine DC K @qz (o6 f) ?_;rw[cC (ba:=h.length+2) FB (HY (CO f) rfl)];refine AB ?_;exact⟨by rw[iP i Q],A.set U _⟩
 have Q:c9 (EW c6 p.vars e)=0:=BQ K;simp only[vQ,CP,↓reduceIte,jC,b_,jQ,K,MR M,O5 f rfl];rw[cC (ba:=h.length+2) FB (MR (CO f))];refine AB ?_;exact⟨by rw[uc (i.trans Q)],A.set U _⟩
end
end Bd.Cl
namespace Ho
open Sm Bins Cov Go.RowKit
variable {ins:Ex->List cp->Ex} {m:Mo} {x:Hl}
def fJ (l:List Ex):List AV:=[gn 4 AQ l]
theorem HC:jd fJ:=fun _ _ _ l=>by cases l<;>exact⟨rfl,rfl⟩
theorem AR (h:Hp)(l:List Ex):DR jA false h 100 1 [(0,gn 4 AQ l)]=some (.sl .full 1 [fJ l],h):=by
 cases l with
 | nil=>show DR jA false h 100 1 [(0,.sl .nil 0 [])]=some (.sl .full 1 [[.sl .nil 0 []]],h);kernel_rfl
 | cons x a=>exact sf h .any _
def mf (ins:Ex->List cp->Ex)(m:Mo)(x:Hl):AV:=.tup [if gz ins m x=0 then .sl .any 1 ((fu ins m x).map fJ) else .sl .nil 0 [],.n (gz ins m x)]
theorem Mx (ins:Ex->List cp->Ex)(m:Mo)(x:Hl):cz (mf ins m x) (jh ins m x):=by
 unfold mf jh;split
 .exact cz.tup (cq.cons (cz.sl (Cv.map fun l _=>AI l)) (cq.cons (cz.refl _) cq.nil))
 .exact cz.refl _
theorem AZ5 (h:O9 m x=false):mf ins m x=.tup [.sl .nil 0 [],.n 1]:=by
 have:gz ins m x=1:=by unfold gz;rw[if_neg (by rw[h];decide)]
 unfold mf;rw[this];rfl
theorem AZ4 (h:O9 m x=true)(a:(fu ins m x).flatten.all (fun e=>c9 e==0)=false):mf ins m x=.tup [.sl .nil 0 [],.n 2]:=by
 have:gz ins m x=2:=by unfold gz;rw[if_pos h,if_neg (by rw[a];decide)]
 unfold mf;rw[this];rfl
theorem Mw (h:O9 m x=true)(a:(fu ins m x).flatten.all (fun e=>c9 e==0)=true):mf ins m x=.tup [.sl .any 1 ((fu ins m x).map fJ),.n 0]:=by
 have:gz ins m x=0:=by unfold gz;rw[if_pos h,if_pos a]
 unfold mf;rw[this];rfl
def RJ (N:Nat)(cs:List (List (List Ex)))(t:Nat):List (List Ex):=(List.range t).map (rowA N cs)
theorem pD (N:Nat)(cs:List (List (List Ex)))(t:Nat):RJ N cs (t+1)=RJ N cs t++[rowA N cs t]:=by simp [RJ,List.range_succ]
theorem vW (N:Nat)(cs:List (List (List Ex)))(t:Nat):(RJ N cs t).length=t:=by simp [RJ]
theorem Xl (N:Nat)(cs:List (List (List Ex))){t:Nat}(h:t<N):∃a,RJ N cs N=RJ N cs t++rowA N cs t::a:=by
 have g:RJ N cs (t+1)=(RJ N cs N).take (t+1):=by
  unfold RJ;rw[<-List.map_take,List.take_range,Nat.min_eq_left U]
 refine⟨(RJ N cs N).drop (t+1),?_⟩;have f:=List.take_append_drop (t+1) (RJ N cs N);rw[<-g,pD,List.append_assoc] at f;exact f.symm
section
variable (G:Nat->AV)
theorem vI (m:Mo)(hm:dt m)(x:Hl)(hn:x.bins.length<=1048576)(h:Hp):a_ (En G) 51 [.agg (C9 m),.agg (FH x)] h (jh GI m x):=by
 refine a_.res ?_ (Mx GI m x);refine ACalls.pure (R:=fun v H=>Sm.ext h H/\FK h.length H 3 v=mf GI m x) 3 ?_ (fun v H ⟨a,b⟩=>⟨a,b⟩);refine II (H:=hint [] [(80,[79])]) (ji G) Tryz.func51 rfl (by kernel_rfl) (by kernel_rfl) (Nat.le_of_ble_eq_true (by kernel_rfl)) ?_;show dh _ _ _ _ _ (MW _ [.tmp 4,.tmp 5] _);have t:=Hb.mk' h m x;refine AZ @er @kz ?_
 generalize h++[qH 2 [C9 m]]++[qH 3 [FH x]]=H at t|-
 generalize (h++[qH 2 [C9 m]]).length=hb at t|-
 refine AZ (dk t.gm) (kl t.gh) ?_;refine(dq G m hm x hn H).use ?_;cases hv:O9 m x
 .refine AB ?_
  exact⟨t.hx,by rw[AZ5 hv];rfl⟩
 have h0:=bC hv;have hL:=pL hv;obtain⟨s,hp⟩:=Yt G m hm x hv H;have Z:fu GI m x=O3 ((U7 m x).map (fi GI m)):=rfl;have ah:=hL.n4;have T:=hL.n1
 have Q:∀q∈U7 m x,(∀r∈fi GI m q,r.length<=2/\∀e∈r,WN e)/\1<=(fi GI m q).length/\(fi GI m q).length<=8:=fun q E=>by
  obtain⟨a,b⟩:=hL.ok q E;have hw:=(hm.pts _ (jH a)).ex;exact⟨tC h0 a b fun l hl=>⟨(HV hw hl).1,(HU (HV hw hl)).1⟩,zh h0 a b⟩
 generalize U7 m x=L at hL Z ah T Q hp;have ad:(L.map (fi GI m)).length<=4:=by rw[jI];exact ah
 have ac:1<=(L.map (fi GI m)).length:=by rw[jI];exact T
 have Y:∀c∈L.map (fi GI m),1<=c.length/\c.length<=8:=fun c I=>by
  obtain⟨q,E,rfl⟩:=zO.1 I;exact(Q q E).2
 have X:∀c∈L.map (fi GI m),∀r∈c,r.length<=2:=fun c I r hr=>by
  obtain⟨q,E,rfl⟩:=zO.1 I;exact((Q q E).1 r hr).1
 have ae:∀c∈L.map (fi GI m),∀r∈c,∀e∈r,WN e:=fun c I r hr=>by
  obtain⟨q,E,rfl⟩:=zO.1 I;exact((Q q E).1 r hr).2
 generalize L.map (fi GI m)=cs at Z ad ac Y X ae hp;clear Q;have ao:QV cs<=8:=YR cs 0 _ (Nat.zero_le _) fun c I=>(Y c I).2
 have an:1<=QV cs:=by
  have ai:cs[0]∈cs:=jH U;have:=rA ai;have:=(Y _ ai).1;omega
 refine AZ (dk t.gm) (kl t.gh) ?_;refine hp.use ?_;clear hp;refine AB ?_;refine EG 0 (fun F H'=>F 6=.sl s 1 (cs.map PM)/\F 7=.n (QV cs:Nat)/\H'=H) (fun _ _=>False) ?_ ?_ (fun _ _ q=>q.elim)
 .refine BB (fun n F H'=>∃i,n+i=cs.length/\F 6=.sl s 1 (cs.map PM)/\F 7=.n (QV (cs.take i):Nat)/\F 8=.n (i:Nat)/\H'=H) cs.length
   ⟨0,BA,AL,AL,AL,rfl⟩ ?_
  rintro n F H' ⟨i,hi,p,C,f8,rfl⟩;refine DC vg p f8 ?_;refine DV ?_ ?_<;>intro f
  .have hm:max ((QV (cs.take i):Nat):Int) ((cs[i].length:Nat):Int)=((QV (cs.take (i+1)):Nat):Int):=by rw[xL cs i f];omega
   simp only[vQ,jU,jV,CP,ri,pX,↓reduceIte,jC,b_,WG,ry,zZ,NR,p,C,f8,CE f,BK sj f,sK,jI,hm,CZ i];exact⟨n-1,U,i+1,U,AO,AO,AO,AO⟩
  .rw[jK U] at C
   refine AB ?_;exact⟨AO,AO,AO⟩
 rintro F H' ⟨p,C,rfl⟩;have a0:fu GI m x=RJ (QV cs) cs (QV cs):=Z;clear Z;have ag:∀c∈cs,c.length<=QV cs:=fun c I=>rA I
 generalize QV cs=N at C ao an a0 ag;refine AB ?_
 refine BB (fun n F H=>∃k v,n+k=N/\F 6=.sl s 1 (cs.map PM)/\F 7=.n (N:Nat)/\F 9=v/\F 10=.n (k:Nat)/\Sm.ext H' H/\bw 1 fJ H' (RJ N cs k) v H/\(RJ N cs k).flatten.all (fun e=>c9 e==0)=true) N
  ⟨0,.sl .nil 0 [],BA,DY p,DY C,AL,AL,ext.rfl' _,bw.nil _ _ _ _,rfl⟩ ?_
 clear p C;rintro n F H1 ⟨k,v,hk,p,C,J,f10,hx,ho,ak⟩;refine AZ C f10 ?_;refine BL ?_ ?_<;>intro I
 rotate_left
 .have a4:k=N:=by have:¬k<N:=BQ I
                  omega
  subst a4;refine A7 J ?_;refine⟨t.hx.trans hx,?_⟩;rw[Mw hv (by rw[a0];exact ak)];have:=KC HC (ho.base t.hx.le) h.length 0 (jF _);show AV.tup [FK h.length H1 2 v,_]=_;rw[this,a0];have ar:RJ k cs k≠[]:=by intro q;have:=congrArg List.length q;rw[vW,List.length_nil] at this;omega
  cases E:RJ k cs k with
  | nil=>exact absurd E ar
  | cons a b=>rfl
 have a4:k<N:=BQ I;obtain⟨aw,V⟩:=Xl N cs a4;have S:(rowA N cs k).all (fun e=>c9 e==0)=false->mf GI m x=.tup [.sl .nil 0 [],.n 2]:=fun q=>AZ4 hv (by rw[a0,V,List.flatten_append,List.all_append,ak,List.flatten_cons,List.all_append,q];rfl)
 have al:∀e∈rowA N cs k,WN e:=fun e K=>by
  unfold rowA at K;obtain⟨c,I,K⟩:=List.mem_flatMap.1 K;unfold YK at K;split at K
  .cases hx:c[k-(N-c.length)]? with
   | none=>rw[hx] at K;cases K
   | some r0=>rw[hx] at K;exact ae c I r0 (List.mem_of_getElem? hx) e K
  .cases K
 refine AB ?_;refine EG 4 (fun F H=>∃u,F 6=.sl s 1 (cs.map PM)/\F 7=.n (N:Nat)/\F 9=v/\F 10=.n (k:Nat)/\F 11=u/\Sm.ext H1 H/\bw 4 AQ H1 (rowA N cs k) u H) (fun _ _=>False) ?_ ?_ (fun _ _ q=>q.elim)
 .refine BB (fun n F H=>∃i u,n+i=cs.length/\F 6=.sl s 1 (cs.map PM)/\F 7=.n (N:Nat)/\F 9=v/\F 10=.n (k:Nat)/\F 11=u/\F 12=.n (i:Nat)/\Sm.ext H1 H/\bw 4 AQ H1 (rowA N (cs.take i) k) u H) cs.length
   ⟨0,.sl .nil 0 [],BA,DY p,DY C,DY J,DY f10,AL,AL,ext.rfl' _,bw.nil _ _ _ _⟩ ?_
  clear p C J f10;rintro n2 F H2 ⟨i,u,hi,p,C,J,f10,f11,f12,j,g⟩;refine DC vg p f12 ?_;refine DV ?_ ?_<;>intro f
  .have ax:=ag _ (jH f)
   have ab:=Y _ (jH f);have aa:=X _ (jH f);have a9:=vX N k cs i f
   have aq:(rowA N (cs.take i) k).length<=2*i:=by
    have:=ZY (n:=N) (t:=k) (B:=2) (cs:=cs.take i) fun c I=>X c (List.mem_of_mem_take I)
    rw[List.length_take,Nat.min_eq_left U] at this;exact this
   have au:IntKind.i64.wrap (((k:Nat):Int)-((N:Nat):Int))=(k:Int)-(N:Int):=wrap_i64 U U;have av:∀l:Nat,l<=8->IntKind.i64.wrap ((k:Int)-(N:Int)+((l:Nat):Int))=(k:Int)-(N:Int)+(l:Int):=fun l hl=>wrap_i64 U U
   simp only[vQ,jU,jV,CP,L9,↓reduceIte,jC,b_,WG,ry,zZ,NR,p,C,f10,f12,CE f,BK sj f,sK,jI,au,av cs[i].length ab.2];refine UQ (fun F H=>∃u,F 6=.sl s 1 (cs.map PM)/\F 7=.n (N:Nat)/\F 9=v/\F 10=.n (k:Nat)/\F 11=u/\F 12=.n (i:Nat)/\Sm.ext H1 H/\bw 4 AQ H1 (rowA N (cs.take (i+1)) k) u H) (fun _ _=>False) (fun K=>?_) (fun K=>?_) ?_ (fun _ _ q=>q.elim)
   .have a3:N-cs[i].length<=k:=by have:=of_decide_eq_true K;omega
    have ap:(k:Int)-(N:Int)+((cs[i].length:Nat):Int)=((k-(N-cs[i].length):Nat):Int):=U;have a5:k-(N-cs[i].length)<cs[i].length:=U
    have a7:YK N k cs[i]=cs[i][k-(N-cs[i].length)]:=by
     unfold YK;rw[if_pos a3,List.getElem?_eq_getElem a5];rfl
    have ay:=aa _ (jH a5);obtain⟨u',H3,ha,M,_,O,_,_⟩:=MX (P:=jA) .any g NV G9 QF QD U (ys:=cs[i][k-(N-cs[i].length)]) U j;rw[<-a7,<-a9] at M;refine V3 ry p f11 f12 ap f sj @sK a5 @Bn ha ?_;exact⟨u',AO,AO,AO,AO,AO,AO,O,M⟩
   .have a3:¬N-cs[i].length<=k:=by have:=of_decide_eq_false K;omega
    have a7:YK N k cs[i]=[]:=by unfold YK;rw[if_neg a3]
    rw[a7,List.append_nil] at a9;refine AB ?_;exact⟨u,AO,AO,AO,AO,AO,AO,j,by rw[a9];exact g⟩
   clear p C J f10 f11 f12 j g;rintro F H2 ⟨u,p,C,J,f10,f11,f12,j,g⟩;refine AZ f12 (CZ i) ?_;exact⟨n2-1,U,i+1,u,U,AO,AO,AO,AO,AO,AO,j,g⟩
  .rw[jK U] at g
   refine AB ?_;exact⟨u,AO,AO,AO,AO,AO,j,g⟩
 clear p C J f10;rintro F H2 ⟨u,p,C,J,f10,f11,j,g⟩
 have a6:(rowA N cs k).length<=8:=by
  have:=ZY (n:=N) (t:=k) (B:=2) (cs:=cs) X;omega
 have af:=g.len mz;have a8:=pD N cs k;generalize rowA N cs k=A at g S al V a6 af a8;refine AB ?_;refine EG 6 (fun F H=>F 6=.sl s 1 (cs.map PM)/\F 7=.n (N:Nat)/\F 9=v/\F 10=.n (k:Nat)/\F 11=u/\H=H2/\A.all (fun e=>c9 e==0)=true) (fun F H=>F 4=.sl .nil 0 []/\F 5=.n 2/\H=H2/\A.all (fun e=>c9 e==0)=false) ?_ ?_ ?_
 .refine BB (fun n F H=>∃i,n+i=A.length/\F 6=.sl s 1 (cs.map PM)/\F 7=.n (N:Nat)/\F 9=v/\F 10=.n (k:Nat)/\F 11=u/\F 14=.n (i:Nat)/\H=H2/\A.all (fun e=>c9 e==0)=(A.drop i).all (fun e=>c9 e==0)) A.length
   ⟨0,BA,DY p,DY C,DY J,DY f10,DY f11,AL,rfl,rfl⟩ ?_
  clear p C J f10 f11;rintro n2 F H3 ⟨i,hi,p,C,J,f10,f11,f14,rfl,E⟩;refine DC f11 f14 af ?_;refine DV ?_ ?_<;>intro f
  .obtain⟨o,rfl,aj⟩:∃o,u=.own o 0 A.length/\H3[o]?=some (qH 4 (A.map AQ)):=by
    rcases g with⟨e1,_⟩|⟨_,o,_,h2,h3⟩
    .rw[e1] at f;simp at f
    .exact⟨o,h2,h3⟩
   have ii:JJ 4 H3 (.own o 0 A.length) (.n (i:Nat))=some (.ptr o i 0):=by rw[GR aj f,Nat.zero_add]
   have dd:BR jA H3 79 (.ptr o i 0)=some (.agg (AQ A[i])):=by
    rw[EK NU G9 aj (Cov.c8 f) (by rw[EF];exact jF 4),zI,<-EF A[i],List.take_length]
   rw[List.drop_eq_getElem_cons f,List.all_cons] at E;refine EH f11 f14 ii dd ?_;refine(YZ G A[i] _ (al _ (jH f))).use ?_;simp only[vQ,jU,jV,CP,↓reduceIte,b_,zZ,NR,bne];cases hz:(c9 A[i]==0)
   .rw[hz,Bool.false_and] at E
    refine AB ?_;exact⟨AO,AO,AO,E⟩
   .rw[hz,Bool.true_and] at E
    refine AZ f14 (CZ i) ?_;exact⟨n2-1,U,i+1,U,AO,AO,AO,AO,AO,AO,AO,E⟩
  .rw[List.drop_eq_nil_of_le U] at E
   refine AB ?_;exact⟨AO,AO,AO,AO,AO,AO,E⟩
 .clear p C J f10 f11
  rintro F H3 ⟨p,C,J,f10,f11,rfl,E⟩;have a1:(RJ N cs (k+1)).flatten.all (fun e=>c9 e==0)=true:=by grind
  have T:(RJ N cs k).length<8388608:=by rw[vW];omega
  rcases g with⟨e1,rfl⟩|⟨e1,o,e2,rfl,e3⟩
  .have hz:=fZ (H:=H3) (i:=79) (k:=0) (m:=.nil) (xs:=[])
   obtain⟨v',H4,ha,M,_,O,_,_⟩:=(fh ho j).append (P:=jA) lK mO oH mF U T (hx.trans j) A;have a2:EJ jA true H3 100 100 v (.sl .full 1 [fJ A])=some (v',H4):=ha
   have hb:DR jA false H3 100 1 [(0,.sl .nil 0 [])]=some (.sl .full 1 [fJ A],H3):=by
    have:=AR H3 A
    rw[e1] at this|-
    exact this
   refine N7 J f10 f11 @UJ hz hb a2 (CZ k) ?_;exact⟨n-1,U,k+1,v',U,AO,AO,AO,AO,O,by rw[a8];exact M,a1⟩
  .have hz:=gA (i:=79) (off:=0) (len:=A.length) e3 BA (by rw[zI,jK BA];exact NT A)
   rw[zI,jK BA] at hz;have am:=j.set e2 .dead;obtain⟨v',H4,ha,M,_,O,_,_⟩:=(fh ho am).append (P:=jA) lK mO oH mF U T (hx.trans am) A;have a2:EJ jA true (H3.set o .dead) 100 100 v (.sl .full 1 [fJ A])=some (v',H4):=ha
   have hb:DR jA false (H3.set o .dead) 100 1 [(0,.sl .any 4 (A.map AQ))]=some (.sl .full 1 [fJ A],H3.set o .dead):=by
    have:=AR (H3.set o .dead) A
    cases hA:A with
    | nil=>exact absurd hA e1
    | cons a b=>rw[hA] at this;exact this
   refine N7 J f10 f11 @UJ hz hb a2 (CZ k) ?_;exact⟨n-1,U,k+1,v',U,AO,AO,AO,AO,O,by rw[a8];exact M,a1⟩
 .rintro F H3 ⟨f4,f5,rfl,E⟩
  refine AZ f4 f5 ?_;exact⟨t.hx.trans (hx.trans j),by rw[S E];rfl⟩
end
end Ho
end Go.Proofs.YtiihpnicbekebaaGreatDoor
