/- Merged texts (7 of 12) of the proof that ends in Amy: ab Ub Ms Nm Gb Gc Gd Ge Gf Gg Gh Gi Gj Gk Gl Gm Em Ar. -/
import Derived.Test.YtfjladalegioaaaGreatDoorAbQam6
set_option linter.unusedSectionVars false
set_option linter.unusedSimpArgs false
set_option linter.unusedVariables false
namespace Go.Ab
variable [Inhabited cn]
def bC:Op->Nat
 | .move _ | .assign _ | .pick .. | .binOp .. | .unOp .. | .convert .. | .makeFunc .. | .extract .. | .field .. | .index .. | .build ..=>0
 | .load .. | .fieldAddr .. | .indexAddr .. | .nilCheck _ | .call ⟨.builtin .len,_,_⟩=>1
 | .alloc _=>3
 | .store ..=>4
 | _=>2
def jP (a b:Nat):Bool:=a == 0 || b == 0 || (a == 1 && (b == 1 || b == 3 || b == 4)) || (a == 3 && (b == 1 || b == 3 || b == 4)) || (a == 4 && (b == 1 || b == 3))
def rP (n0:Nat):ao->Prop
 | .ptr id _ _ _ | .arr id _ _ _=>id.1<n0
 | _=>True
def cK (n0:Nat) (op:Op) (O:Env):Prop:=
 match op with
 | .load _ a | .fieldAddr _ a _ | .nilCheck a=>rP n0 (O.ev a)
 | .indexAddr _ x _=>rP n0 (O.ev x)
 | .call ⟨.builtin .len,args,_⟩=>∀ x ∈ args.toList,rP n0 (O.ev x)
 | .store _ a _=>∃ id g idx off,O.ev a = .ptr id g idx off/\n0<=id.1
 | _=>bC op=0
theorem gh {n0:Nat} {H H2:au} (hag:∀ id:Id,id.1<n0->H2 id=H id) {p:ao} (hp:rP n0 p):bT H2 p=bT H p:=by
 cases p with
 | ptr id g idx off=>simp only[bT];rw[hag id hp]
 | _=>rfl
theorem ma {n0:Nat} {H H2:au} (hag:∀ id:Id,id.1<n0->H2 id=H id) {id:Id} {g:Nat} (hp:id.1<n0):live H2 id g=live H id g:=by
 unfold live;rw[hag id hp]
section
variable {Ty:Types} {O:Env} {H H2 H':au} {n n2 n' n0:Nat} {d:Option Tmp} {v:ao} {op:Op}
theorem eQ (hk:bC op=0) (h:aK Ty d op O H n=some (v,H',n')):H'=H/\n'=n/\∀ H2 n2,aK Ty d op O H2 n2=some (v,H2,n2):=by
 refine jy ?_ h;cases op with
 | call c=>
  obtain⟨cal,args,ats⟩:=c;cases cal with
  | builtin b=>cases b<;>simp[bC] at hk
  | _=>simp[bC] at hk
 | _=>first | rfl | (simp[bC] at hk)
theorem dd (hk:bC op=1) (hc:cK n0 op O) (hag:∀ id:Id,id.1<n0->H2 id=H id) (h:aK Ty d op O H n=some (v,H',n')):H'=H/\n'=n/\aK Ty d op O H2 n2=some (v,H2,n2):=by
 cases op with
 | load t a=>
  simp only[aK] at h ⊢;rw[gh hag hc]
  split at h
  ·split at h
   ·cases h;exact⟨rfl,rfl,rfl⟩
   ·cases h
  ·cases h
 | fieldAddr t a f=>
  simp only[aK] at h ⊢;rw[gh hag hc]
  split at h
  ·split at h
   ·split at h
    ·cases h
    ·rename_i hz
     cases h;exact⟨rfl,rfl,by rw[if_neg hz]⟩
   ·cases h
  ·cases h
 | nilCheck a=>
  simp only[aK] at h ⊢;rw[gh hag hc]
  split at h
  ·cases h;exact⟨rfl,rfl,rfl⟩
  ·cases h
 | indexAddr t x ix=>
  obtain⟨h1,h2,h3⟩:=bp h;refine⟨h2,h3,?_⟩;have:ar Ty H2 t (O.ev x) (O.ev ix)=ar Ty H t (O.ev x) (O.ev ix):=by
   simp only[cK] at hc;unfold ar
   split
   ·generalize O.ev x=p at hc;cases hkd:kd Ty t with
    | slice j=>cases p with
     | arr id g off len=>simp only[ma hag (show id.1<n0 from hc)]
     | _=>rfl
    | arr len j=>simp only[gh hag hc]
    | _=>rfl
   ·rfl
  simp only[aK,this,h1,Option.map_some]
 | call c=>
  obtain⟨cal,args,ats⟩:=c;cases cal with
  | builtin b=>
   cases b<;>simp[bC] at hk;simp only[aK] at h ⊢
   split at h
   ·rename_i x t hx ht
    obtain⟨h1,h2,h3⟩:=bp h;refine⟨h2,h3,?_⟩;have hcx:rP n0 (O.ev x):=hc x (by rw[hx];simp);have:bL Ty H2 t (O.ev x)=bL Ty H t (O.ev x):=by
     unfold bL;generalize O.ev x=p at hcx;cases hkd:kd Ty t with
     | slice j=>cases p with
      | arr id g off len=>simp only[ma hag (show id.1<n0 from hcx)]
      | v x=>cases x<;>rfl
      | _=>rfl
     | string=>cases p with
      | v x=>cases x<;>rfl
      | _=>rfl
     | _=>rfl
    simp only[this,h1,Option.map_some]
   ·cases h
  | _=>simp[bC] at hk
 | _=>simp[bC] at hk
def tgt:Op->Env->Option Id
 | .store _ a _,O=>match O.ev a with
  | .ptr id _ _ _=>some id
  | _=>none
 | _,_=>none
theorem eV (hk:bC op=4) (hc:cK n0 op O) (h:aK Ty d op O H n=some (v,H',n')) :
  ∃ id ob ob',tgt op O=some id/\n0<=id.1/\H id=some ob/\H'=H.set id ob'/\n'=n/\∀ H2 n2,H2 id=some ob->aK Ty d op O H2 n2=some (v,H2.set id ob',n2):=by
 cases op with
 | store t a x=>
  obtain⟨id,g,idx,off,ha,hid⟩:=hc;simp only[aK] at h ⊢;rw[ha] at h ⊢
  split at h
  ·rename_i H1 hs
   cases h;unfold bf at hs
   split at hs
   ·rename_i i id1 g1 idx1 off1 new e1 e2 e3
    cases e2
    split at hs
    ·rename_i o hl
     split at hs
     ·rename_i hcond
      cases hs;obtain⟨l1,l2⟩:=cu hl;refine⟨id,o,o.write idx off new,by simp only[tgt,ha],hid,l1,rfl,rfl,fun H2 n2 h2=>?_⟩;have hl2:live H2 id g=some o:=by
       unfold live;rw[h2];simp[l2]
      simp only[bf,e1,e3,hl2,if_pos hcond]
     ·cases hs
    ·cases hs
   ·cases hs
  ·cases h
 | call c=>
  obtain⟨cal,args,ats⟩:=c;cases cal with
  | builtin b=>cases b<;>simp[bC] at hk
  | _=>simp[bC] at hk
 | _=>simp[bC] at hk
end
theorem iI {n0:Nat} {op:Op} {O:Env}:cK n0 op (loc op O)↔cK n0 op O:=by
 have h:∀ x,x ∈ op.operands->(loc op O).ev x=O.ev x:=fun x hx=>gp hx
 generalize loc op O=ρ' at h;cases op with
 | call c=>
  obtain⟨cal,args,ats⟩:=c;cases cal with
  | builtin b=>
   cases b<;>try rfl
   have ha:∀ x,x ∈ args.toList->ρ'.ev x=O.ev x:=fun x hx=>h x (by simp[Op.operands,Call.operands];simpa using hx)
   simp only[cK];exact⟨fun hc x hx=>by rw[<- ha x hx];exact hc x hx,fun hc x hx=>by rw[ha x hx];exact hc x hx⟩
  | _=>rfl
 | load t a=>simp only[cK];rw[h a (by simp[Op.operands])]
 | fieldAddr t a f=>simp only[cK];rw[h a (by simp[Op.operands])]
 | nilCheck a=>simp only[cK];rw[h a (by simp[Op.operands])]
 | indexAddr t x i=>simp only[cK];rw[h x (by simp[Op.operands])]
 | store t a x=>simp only[cK];rw[h a (by simp[Op.operands])]
 | _=>rfl
section
variable (Ty:Types) (ops:Array Oper) (n0:Nat)
def mh (o:Oper) (s:AS) (R:AS->Prop):Prop:=
 (eG ops o s.1=some false/\R (s.1.put o.dst gF,s.2)) \/
 (eG ops o s.1=some true/\bC o.op ≠ 3/\cK n0 o.op s.1/\∃ v H',aK Ty o.dst o.op s.1 s.2.1 s.2.2=some (v,H',s.2.2)/\R (s.1.put o.dst v,H',s.2.2)) \/
 (eG ops o s.1=some true/\∃ t k i,o.op = .alloc t/\o.dst=some k/\Ty t=some i/\∀ a,n0<=a->(∀ j,s.2.1 (a,j)=none)->R (s.1.put (some k) (.ptr (a,k) 1 0 0),s.2.1.set (a,k) ⟨i.zero.length,[i.zero.map .v]⟩,max s.2.2 (a+1)))
def Bd (s:AS):Prop:=n0<=s.2.2/\∀ id o,s.2.1 id=some o->id.1<s.2.2
end
theorem set_comm {H:au} {i j:Id} (o p:Ob) (h:i ≠ j):(H.set i o).set j p=(H.set j p).set i o:=by
 funext x
 simp only[au.set]
 by_cases h1:x=i<;>by_cases h2:x=j<;>simp_all
section
variable {Ty:Types} {ops:Array Oper} {n0:Nat}
theorem mh.mono {o:Oper} {s:AS} {R R':AS->Prop} (h:mh Ty ops n0 o s R) (hR:∀ s,R s->R' s):mh Ty ops n0 o s R':=by
 rcases h with ⟨h1,h2⟩ | ⟨h1,h2,h3,v,H',h4,h5⟩ | ⟨h1,t,k,i,h2,h3,h4,h5⟩
 ·exact .inl ⟨h1,hR _ h2⟩
 ·exact .inr (.inl ⟨h1,h2,h3,v,H',h4,hR _ h5⟩)
 ·exact .inr (.inr ⟨h1,t,k,i,h2,h3,h4,fun a ha hf=>hR _ (h5 a ha hf)⟩)
theorem dO {op:Op} {O:Env} (h3:bC op ≠ 3) (h:cK n0 op O):bC op=0\/bC op=1\/bC op=4:=by
 cases op with
 | call c=>
  obtain⟨cal,args,ats⟩:=c;cases cal with
  | builtin b=>cases b<;>first | (simp[bC];done) | (simp[cK,bC] at h)
  | _=>simp[cK,bC] at h
 | buildSlice t len ps=>simp only[cK] at h;exact .inl h
 | _=>first | (simp[bC];done) | (simp[cK,bC] at h;done) | (simp[bC] at h3)
theorem pk {s:AS} (hb:Bd n0 s) (j:Nat):s.2.1 (s.2.2,j)=none:=by
 cases h:s.2.1 (s.2.2,j) with
 | none=>rfl
 | some o=>have:=hb.2 _ o h;simp at this
theorem mh.bd {o:Oper} {s:AS} {R:AS->Prop} (hb:Bd n0 s) (h:mh Ty ops n0 o s R):mh Ty ops n0 o s fun s'=>Bd n0 s'/\R s':=by
 rcases h with ⟨h1,h2⟩ | ⟨h1,h2,h3,v,H',h4,h5⟩ | ⟨h1,t,k,i,h2,h3,h4,h5⟩
 ·exact .inl ⟨h1,hb,h2⟩
 ·refine .inr (.inl ⟨h1,h2,h3,v,H',h4,⟨hb.1,?_⟩,h5⟩);rcases dO h2 h3 with hk | hk | hk
  ·obtain⟨rfl,_⟩:=eQ hk h4;exact hb.2
  ·obtain⟨rfl,_⟩:=dd (H2:=s.2.1) (n2:=s.2.2) hk h3 (fun _ _=>rfl) h4;exact hb.2
  ·obtain⟨id,ob,ob',_,_,e2,rfl,_⟩:=eV hk h3 h4;intro id' o' ho';simp only at ho' ⊢
   by_cases he:id'=id
   ·rw[he];exact hb.2 _ _ e2
   ·rw[au.ay _ _ he] at ho';exact hb.2 _ _ ho'
 ·refine .inr (.inr ⟨h1,t,k,i,h2,h3,h4,fun a ha hf=>⟨⟨?_,?_⟩,h5 a ha hf⟩⟩)
  ·have:=hb.1;simp only;omega
  ·intro id' o' ho';simp only at ho' ⊢
   by_cases he:id'=(a,k)
   ·rw[he];simp only;omega
   ·rw[au.ay _ _ he] at ho';have:=hb.2 _ _ ho';omega
theorem mh.swap {oi oj:Oper} (hap:oi.apart ops oj=true) (hc:jP (bC oi.op) (bC oj.op)=true) {s:AS} (hb:Bd n0 s) {R:AS->Prop} (h:mh Ty ops n0 oi s fun si=>mh Ty ops n0 oj si R) :
  mh Ty ops n0 oj s fun sj=>mh Ty ops n0 oi sj R:=by
 obtain⟨h1,h2,h3⟩:=Oper.apart_spec hap;have sj:∀ v H n,aK Ty oj.dst oj.op (s.1.put oi.dst v) H n=aK Ty oj.dst oj.op s.1 H n:=fun v H n=>by rw[<- bP,dX (cm h1),bP]
 have si:∀ v H n,aK Ty oi.dst oi.op (s.1.put oj.dst v) H n=aK Ty oi.dst oi.op s.1 H n:=fun v H n=>by rw[<- bP,dX (cm h3),bP]
 have cj:∀ v,cK n0 oj.op (s.1.put oi.dst v)↔cK n0 oj.op s.1:=fun v=>by rw[<- iI,dX (cm h1),iI]
 have ci:∀ v,cK n0 oi.op (s.1.put oj.dst v)↔cK n0 oi.op s.1:=fun v=>by rw[<- iI,dX (cm h3),iI]
 have gj:∀ v,eG ops oj (s.1.put oi.dst v)=eG ops oj s.1:=fun v=>fi h1
 have gi:∀ v,eG ops oi (s.1.put oj.dst v)=eG ops oi s.1:=fun v=>fi h3
 have pc:∀ v u,(s.1.put oi.dst v).put oj.dst u=(s.1.put oj.dst u).put oi.dst v:=fun v u=>put_comm v u h2
 obtain⟨O,H,n⟩:=s;simp only at sj si cj ci gj gi pc;rcases h with ⟨hgi,h⟩ | ⟨hgi,hki,hci,v,Hi,hsi,h⟩ | ⟨hgi,t,k,i,hop,hd,hT,h⟩
 ·
  rcases h with ⟨hgj,h⟩ | ⟨hgj,hkj,hcj,u,Hj,hsj,h⟩ | ⟨hgj,t',k',i',hop',hd',hT',h⟩
  ·simp only[gj] at hgj;exact .inl ⟨hgj,.inl ⟨by simpa only [gi] using hgi,by simpa only [pc] using h⟩⟩
  ·simp only[gj,cj,sj] at hgj hcj hsj;exact .inr (.inl ⟨hgj,hkj,hcj,u,Hj,hsj,.inl ⟨by simpa only [gi] using hgi,by simpa only [pc] using h⟩⟩)
  ·simp only[gj] at hgj;rw[hd'] at pc gi;exact .inr (.inr ⟨hgj,t',k',i',hop',hd',hT',fun a ha hf=>.inl ⟨by simpa only [gi] using hgi,by simpa only [pc] using h a ha hf⟩⟩)
 ·
  rcases h with ⟨hgj,h⟩ | ⟨hgj,hkj,hcj,u,Hj,hsj,h⟩ | ⟨hgj,t',k',i',hop',hd',hT',h⟩
  ·simp only[gj] at hgj;exact .inl ⟨hgj,.inr (.inl ⟨by simpa only [gi] using hgi,hki,by simpa only [ci] using hci,v,Hi,by simpa only [si] using hsi,by simpa only [pc] using h⟩)⟩
  ·simp only[gj,cj,sj] at hgj hcj hsj;simp only at hsi hci hgi h;have key:∃ Hj',aK Ty oj.dst oj.op O H n=some (u,Hj',n)/\aK Ty oi.dst oi.op O Hj' n=some (v,Hj,n):=by
    rcases dO hki hci with ki | ki | ki
    ·obtain⟨rfl,_,hall⟩:=eQ ki hsi;exact⟨Hj,hsj,hall Hj n⟩
    ·obtain⟨rfl,_,_⟩:=dd (H2:=H) (n2:=n) ki hci (fun _ _=>rfl) hsi;rcases dO hkj hcj with kj | kj | kj
     ·obtain⟨rfl,_,hall⟩:=eQ kj hsj;exact⟨_,hsj,hsi⟩
     ·obtain⟨rfl,_,_⟩:=dd (H2:=Hi) (n2:=n) kj hcj (fun _ _=>rfl) hsj;exact⟨_,hsj,hsi⟩
     ·obtain⟨id,ob,ob',_,e1,e2,rfl,_,_⟩:=eV kj hcj hsj;refine⟨_,hsj,?_⟩;exact (dd ki hci (fun id' hid=>au.ay _ _ (by rintro rfl;omega)) hsi).2.2
    ·obtain⟨id,ob,ob',_,e1,e2,rfl,_,hall⟩:=eV ki hci hsi;rcases dO hkj hcj with kj | kj | kj
     ·obtain⟨rfl,_,hall'⟩:=eQ kj hsj;exact⟨H,hall' H n,hsi⟩
     ·obtain⟨rfl,_,hst⟩:=dd (H2:=H) (n2:=n) kj hcj (fun id' hid=>(au.ay _ _ (by rintro rfl;omega)).symm) hsj;exact⟨H,hst,hsi⟩
     ·rw[ki,kj] at hc;simp[jP] at hc
   obtain⟨Hj',k1,k2⟩:=key;exact .inr (.inl ⟨hgj,hkj,hcj,u,Hj',k1,.inr (.inl ⟨by simpa only [gi] using hgi,hki,by simpa only [ci] using hci,v,Hj,by simpa only [si] using k2,by simpa only [pc] using h⟩)⟩)
  ·
   simp only[gj] at hgj;rw[hd'] at pc gi si ci;refine .inr (.inr ⟨hgj,t',k',i',hop',hd',hT',fun a ha hf=>?_⟩);simp only at hsi hci hgi h hf;rcases dO hki hci with ki | ki | ki
   ·obtain⟨rfl,_,hall⟩:=eQ ki hsi;exact .inr (.inl ⟨by simpa only [gi] using hgi,hki,by simpa only [ci] using hci,v,_,by simpa only [si] using hall _ _,by simpa only [pc] using h a ha hf⟩)
   ·obtain⟨rfl,_,_⟩:=dd (H2:=H) (n2:=n) ki hci (fun _ _=>rfl) hsi;have hst:=(dd (n2:=max n (a+1)) ki hci (fun id' hid=>au.ay Hi ⟨i'.zero.length,[i'.zero.map .v]⟩ (i:=(a,k')) (by rintro rfl;simp only at hid;omega)) hsi).2.2;exact .inr (.inl ⟨by simpa only [gi] using hgi,hki,by simpa only [ci] using hci,v,_,by simpa only [si] using hst,by simpa only [pc] using h a ha hf⟩)
   ·obtain⟨id,ob,ob',_,e1,e2,rfl,_,hall⟩:=eV ki hci hsi;have hne:id ≠ (a,k'):=by rintro rfl;rw[hf k'] at e2;cases e2
    have hf':∀ j,(H.set id ob') (a,j)=none:=fun j=>by
     rw[au.ay _ _ (by rintro rfl;rw[hf j] at e2;cases e2)];exact hf j
    have hst:=hall (H.set (a,k') ⟨i'.zero.length,[i'.zero.map .v]⟩) (max n (a+1)) (by rw[au.ay _ _ hne];exact e2);have hfin:=h a ha hf';rw[set_comm _ _ hne] at hfin;exact .inr (.inl ⟨by simpa only [gi] using hgi,hki,by simpa only [ci] using hci,v,_,by simpa only [si] using hst,by simpa only [pc] using hfin⟩)
 ·
  simp only at hgi h;rw[hd] at pc gj sj cj;have hf0:∀ j,H (n,j)=none:=fun j=>pk hb j
  have hn0:n0<=n:=hb.1;have hi3:bC oi.op=3:=by rw[hop];rfl
  rcases h n hn0 hf0 with ⟨hgj,_⟩ | ⟨hgj,hkj,hcj,u,Hj,hsj,_⟩ | ⟨hgj,t',k',i',hop',hd',hT',_⟩
  ·simp only[gj] at hgj;refine .inl ⟨hgj,.inr (.inr ⟨by simpa only [gi] using hgi,t,k,i,hop,hd,hT,fun a ha hf=>?_⟩)⟩;rcases h a ha hf with ⟨_,h⟩ | ⟨hg,_⟩ | ⟨hg,_⟩
   ·simpa only [pc] using h
   ·simp only[gj,hgj] at hg;cases hg
   ·simp only[gj,hgj] at hg;cases hg
  ·simp only[gj,cj,sj] at hgj hcj hsj;have back:∀ a,n0<=a->(∀ j,H (a,j)=none)->∃ ua Ha,aK Ty oj.dst oj.op O (H.set (a,k) ⟨i.zero.length,[i.zero.map .v]⟩) (max n (a+1))=some (ua,Ha,max n (a+1))/\R ((O.put (some k) (.ptr (a,k) 1 0 0)).put oj.dst ua,Ha,max n (a+1)):=by
    intro a ha hf;rcases h a ha hf with ⟨hg,_⟩ | ⟨_,_,_,ua,Ha,hs,hR⟩ | ⟨_,t',_,_,hop',_⟩
    ·simp only[gj,hgj] at hg;cases hg
    ·simp only[sj] at hs;exact⟨ua,Ha,hs,hR⟩
    ·exact absurd (by rw[hop'];rfl) hkj
   have hout:∀ (a:Nat) (id':Id),n0<=a->id'.1<n0->(H.set (a,k) ⟨i.zero.length,[i.zero.map .v]⟩) id'=H id':=fun a id' ha hid=>au.ay _ _ (by rintro rfl;simp only at hid;omega)
   rcases dO hkj hcj with kj | kj | kj
   ·obtain⟨rfl,_,hall⟩:=eQ kj hsj;refine .inr (.inl ⟨hgj,hkj,hcj,u,H,hall H n,.inr (.inr ⟨by simpa only [gi] using hgi,t,k,i,hop,hd,hT,fun a ha hf=>?_⟩)⟩);obtain⟨ua,Ha,hs,hR⟩:=back a ha hf;rw[hall] at hs;cases hs;simpa only [pc] using hR
   ·have hst:=(dd (H2:=H) (n2:=n) kj hcj (fun id' hid=>(hout n id' hn0 hid).symm) hsj).2.2;refine .inr (.inl ⟨hgj,hkj,hcj,u,H,hst,.inr (.inr ⟨by simpa only [gi] using hgi,t,k,i,hop,hd,hT,fun a ha hf=>?_⟩)⟩);obtain⟨ua,Ha,hs,hR⟩:=back a ha hf;have hst2:=(dd (H2:=H.set (a,k) ⟨i.zero.length,[i.zero.map .v]⟩) (n2:=max n (a+1)) kj hcj (fun id' hid=>hout a id' ha hid) hst).2.2;rw[hst2] at hs;cases hs;simpa only [pc] using hR
   ·obtain⟨id,o1,o1',t1,_,e2,rfl,_,hall⟩:=eV kj hcj hsj;obtain⟨u2,H2,hs2,_⟩:=back (n+1) (by omega) (fun j=>by
     cases hx:H (n+1,j) with
     | none=>rfl
     | some o=>have:=hb.2 (n+1,j) o hx;simp only at this;omega)
    obtain⟨id2,o2,o2',t2,_,e2',_⟩:=eV kj hcj hs2;rw[t1] at t2;cases t2;have hne:id ≠ (n,k):=by
     rintro rfl;rw[au.ay _ _ (by intro he;have:=congrArg Prod.fst he;simp only at this;omega),hf0 k] at e2';cases e2'
    rw[au.ay _ _ hne] at e2;refine .inr (.inl ⟨hgj,hkj,hcj,u,H.set id o1',hall H n e2,.inr (.inr ⟨by simpa only [gi] using hgi,t,k,i,hop,hd,hT,fun a ha hf=>?_⟩)⟩);simp only at hf ⊢;have hf':∀ j,H (a,j)=none:=fun j=>by
     have:=hf j
     by_cases he:(a,j)=id
     ·rw[he,au.bB] at this;cases this
     ·rwa [au.ay _ _ he] at this
    have hne':id ≠ (a,k):=by
     rintro rfl;rw[hf' k] at e2;cases e2
    obtain⟨ua,Ha,hs,hR⟩:=back a ha hf';rw[hall _ _ (by rw[au.ay _ _ hne'];exact e2)] at hs;cases hs;rw[set_comm _ _ hne',<- pc];exact hR
  ·simp only[gj] at hgj;rw[hd'] at pc gi;refine .inr (.inr ⟨hgj,t',k',i',hop',hd',hT',fun b hb' hfb=>.inr (.inr ⟨by simpa only [gi] using hgi,t,k,i,hop,hd,hT,fun a ha hfa=>?_⟩)⟩);simp only at hfa ⊢;have hab:a ≠ b:=by
    rintro rfl;have:=hfa k';rw[au.bB] at this;cases this
   have hfa':∀ j,H (a,j)=none:=fun j=>by
    have:=hfa j
    rwa [au.ay _ _ (by intro he;exact hab (congrArg Prod.fst he))] at this
   rcases h a ha hfa' with ⟨hg,_⟩ | ⟨_,hk3,_⟩ | ⟨_,t2,k2,i2,hop2,hd2,hT2,h2'⟩
   ·simp only[gj,hgj] at hg;cases hg
   ·exact absurd (by rw[hop'];rfl) hk3
   ·rw[hop'] at hop2;cases hop2;rw[hd'] at hd2;cases hd2;rw[hT'] at hT2;cases hT2;have hfin:=h2' b hb' (fun j=>by simp only;rw[au.ay _ _ (by intro he;exact hab (congrArg Prod.fst he).symm)];exact hfb j);simp only at hfin;rw[set_comm _ _ (by intro he;exact hab (congrArg Prod.fst he)),pc] at hfin;have hm:max (max n (b+1)) (a+1)=max (max n (a+1)) (b+1):=by omega
    rw[hm];exact hfin
theorem mh.some_ {o:Oper} {s:AS} {q:Prop} (hb:Bd n0 s) (h:mh Ty ops n0 o s fun _=>q):q:=by
 rcases h with ⟨_,h⟩ | ⟨_,_,_,_,_,_,h⟩ | ⟨_,_,_,_,_,_,_,h⟩
 ·exact h
 ·exact h
 ·exact h s.2.2 hb.1 (fun j=>pk hb j)
variable (Ty ops n0) in
def iN (R:AS->Prop):Nat->Array Bool->AS->Prop
 | 0,listed,s=>Region.ready .any ops listed=[]/\R s
 | fuel+1,listed,s=>(Region.ready .any ops listed=[]->R s)/\∀ i ∈ Region.ready .any ops listed,∃ o,ops[i]?=some o/\mh Ty ops n0 o s (iN R fuel (listed.setIfInBounds i true))
variable (Ty ops n0) in
def vR (R:AS->Prop):List Oper->AS->Prop
 | [],s=>R s
 | o::l,s=>mh Ty ops n0 o s (vR R l)
theorem iN.first {R:AS->Prop} {i:Nat} {oi:Oper} (hi:ops[i]?=some oi) (ak:List Nat) (hD:∀ j oj,ops[j]?=some oj->j ∈ ak->j ≠ i->∃ e ∈ oj.after,Region.binds .any e=true/\e.on ∈ ak):∀ (fuel:Nat) (listed:Array Bool) (s:AS),Bd n0 s ->
  (∀ j ∈ ak,listed.getD j true=false)->(∀ j oj,ops[j]?=some oj->j ≠ i->listed.getD j true=false->j ∉ ak->oi.apart ops oj=true/\jP (bC oi.op) (bC oj.op)=true) ->
  i ∈ Region.ready .any ops listed->mh Ty ops n0 oi s (iN Ty ops n0 R fuel (listed.setIfInBounds i true))->iN Ty ops n0 R (fuel+1) listed s:=by
 intro fuel
 induction fuel with
 | zero=>
  intro listed s hb _ _ hr H;refine⟨fun h=>(by rw[h] at hr;cases hr),fun j hj=>?_⟩
  by_cases hji:j=i
  ·subst hji;exact⟨oi,hi,H⟩
  ·have:=ready_mono hj hji;have h0:Region.ready .any ops (listed.setIfInBounds i true)=[]:=mh.some_ hb (H.mono fun s' h=>h.1);rw[h0] at this;cases this
 | succ fuel ih=>
  intro listed s hb hinv hfree hr H;refine⟨fun h=>(by rw[h] at hr;cases hr),fun j hj=>?_⟩
  by_cases hji:j=i
  ·subst hji;exact⟨oi,hi,H⟩
  ·obtain⟨hjun,oj,hoj,hall⟩:=mem_ready.1 hj;have hnot:j ∉ ak:=fun hd=>by
    obtain⟨e,he,hb',hed⟩:=hD j oj hoj hd hji;have h1:=hall e he hb';have h0:=hinv e.on hed;rcases Nat.lt_or_ge e.on listed.size with h' | h'
    ·simp[h'] at h0 h1;rw[h0] at h1;cases h1
    ·simp[Array.getElem?_eq_none h'] at h1
   obtain⟨hap,hco⟩:=hfree j oj hoj hji hjun hnot;have H2:mh Ty ops n0 oi s fun s'=>mh Ty ops n0 oj s' (iN Ty ops n0 R fuel ((listed.setIfInBounds i true).setIfInBounds j true)):=H.mono fun s' h=>by
    obtain⟨oj',hoj',h'⟩:=h.2 j (ready_mono hj hji);rw[hoj] at hoj';cases hoj';exact h'
   refine⟨oj,hoj,(mh.bd hb (mh.swap hap hco hb H2)).mono fun sj ⟨hbj,hsj⟩=>ih (listed.setIfInBounds j true) sj hbj (fun k hk=>?_) (fun k ok hk hki hun hno=>?_) (ready_mono hr (Ne.symm hji)) ?_⟩
   ·have hjk:j ≠ k:=fun he=>hnot (he ▸ hk)
    rw[getD_set_ne true hjk];exact hinv k hk
   ·refine hfree k ok hk hki ?_ hno
    by_cases hjk:j=k
    ·subst hjk;exact hjun
    ·rw[getD_set_ne true hjk] at hun;exact hun
   ·rw[Array.setIfInBounds_comm _ _ hji];exact hsj
variable (ops) in
def uz (listed:Array Bool) (i:Nat):Bool:=
 match ops[i]? with
 | none=>false
 | some oi=>((behind ops i).all fun j => !(listed.getD j true) && match ops[j]? with
   | none=>true
   | some oj=>j == i || oj.after.any (fun e=>Region.binds .any e && (behind ops i).contains e.on)) &&
  (List.range ops.size).all fun j=>match ops[j]? with
  | none=>true
  | some oj=>j == i || listed.getD j true || (behind ops i).contains j || (oi.apart ops oj && jP (bC oi.op) (bC oj.op))
variable (ops) in
def uB:Nat->Nat->Array Bool->Bool
 | 0,_,listed=>(Region.ready .any ops listed).isEmpty
 | fuel+1,k,listed=>(Region.ready .any ops listed).contains k && uz ops listed k && uB fuel (k+1) (listed.setIfInBounds k true)
variable (ops) in
def oP:Bool:=uB ops ops.size 0 (Array.replicate ops.size false)
theorem pR {listed:Array Bool} {i:Nat} {oi:Oper} (hi:ops[i]?=some oi) (h:uz ops listed i=true) :
  (∀ j oj,ops[j]?=some oj->j ∈ behind ops i->j ≠ i->∃ e ∈ oj.after,Region.binds .any e=true/\e.on ∈ behind ops i)/\(∀ j ∈ behind ops i,listed.getD j true=false) /\
  ∀ j oj,ops[j]?=some oj->j ≠ i->listed.getD j true=false->j ∉ behind ops i->oi.apart ops oj=true/\jP (bC oi.op) (bC oj.op)=true:=by
 unfold uz at h;simp only[hi,Bool.and_eq_true] at h;obtain⟨h1,h2⟩:=h;refine⟨fun j oj hj hd hji=>?_,fun j hd=>?_,fun j oj hj hji hun hno=>?_⟩
 ·have:=List.all_eq_true.1 h1 j hd;simp only[hj,Bool.and_eq_true,Bool.or_eq_true,beq_iff_eq] at this;rcases this.2 with h3 | h3
  ·exact absurd h3 hji
  ·obtain⟨e,he,hb⟩:=Array.any_eq_true'.1 h3;simp only[Bool.and_eq_true,List.contains_iff_mem] at hb;exact⟨e,he,hb.1,hb.2⟩
 ·have:=List.all_eq_true.1 h1 j hd;simp only[Bool.and_eq_true,Bool.not_eq_true'] at this;exact this.1
 ·have hlt:j<ops.size:=(Array.getElem?_eq_some_iff.1 hj).1;have:=List.all_eq_true.1 h2 j (List.mem_range.2 hlt);simp only[hj,hun,Bool.or_false,Bool.or_eq_true,beq_iff_eq,Bool.and_eq_true,List.contains_iff_mem] at this;rcases this with (h1 | h1) | h1
  ·exact absurd h1 hji
  ·exact absurd h1 hno
  ·exact h1
theorem iN.lex {R:AS->Prop}:∀ (l:List Oper) (k:Nat) (listed:Array Bool) (s:AS),Bd n0 s->(∀ j:Nat,l[j]?=ops[k+j]?)->uB ops l.length k listed=true->vR Ty ops n0 R l s->iN Ty ops n0 R l.length listed s
 | [],_,_,_,_,_,hB,h=>⟨by simpa[uB] using hB,h⟩
 | o::l,k,listed,s,hb,hl,hB,h=>by
  have h0:ops[k]?=some o:=by simpa using (hl 0).symm
  simp only[List.length_cons,uB,Bool.and_eq_true] at hB;obtain⟨⟨hr,hf⟩,hB'⟩:=hB;obtain⟨f1,f2,f3⟩:=pR h0 hf;exact iN.first h0 (behind ops k) f1 l.length listed s hb f2 f3 (by simpa using hr)
   ((mh.bd hb h).mono fun s' ⟨hb',h'⟩=>iN.lex l (k+1) _ s' hb' (fun j=>by have:=hl (j+1);simpa[Nat.add_assoc,Nat.add_comm 1 j] using this) hB' h')
end
section
variable {P:Program} {N:Nat} {Ty:Types} {ops:Array Oper} {n0:Nat}
theorem iN.sound (hT:aN P Ty) {R:AS->Prop} (hN:ops.toList.all (fun o=>cU N o.dst)=true) {Q:Exit->Act->World->Prop} {c0:Ctx} (hQ:∀ a c O,aQ c0 c->Good c->bV N c O a->R (O,c.H,c.n)->Q .normal a c.w) :
  ∀ (fuel:Nat) (listed:Array Bool) (O:Env) (c:Ctx) (a:Act),n0<=c.n->aQ c0 c->Good c->bV N c O a->iN Ty ops n0 R fuel listed (O,c.H,c.n)->wpAny P .any ops Q fuel listed a c.w
 | 0,_,_,_,_,_,hk,g,r,h=>⟨h.1,hQ _ _ _ hk g r h.2⟩
 | fuel+1,listed,O,c,a,hn0,hk,g,r,h=>by
  refine⟨fun h0=>hQ _ _ _ hk g r (h.1 h0),fun i hi=>?_⟩;obtain⟨o,ho,hst⟩:=h.2 i hi;have hd:cU N o.dst=true:=List.all_eq_true.1 hN o (by rw[<- Array.getElem?_toList] at ho;exact List.mem_of_getElem? ho);unfold wpOp;simp only[ho];rcases hst with ⟨hg,hrest⟩ | ⟨hg,hk3,hc,v,H',hs,hrest⟩ | ⟨hg,t,k,i',hop,hdst,hTy,hrest⟩
  ·rw[if_neg (by rw[bA r hN hg];simp)];exact iN.sound hT hN hQ fuel _ _ c _ hn0 hk g (r.put hd (.v _)) hrest
  ·rw[if_pos (bA r hN hg)];simp only at hs hrest;refine .inl (bN hT hs c a rfl rfl g r _ _ ?_);rintro v1 x c' ⟨rfl,hH,hn⟩ hrep hgood hkeep;exact iN.sound hT hN hQ fuel _ _ c' _ (by rw[hn];exact hn0) (hk.trans hkeep) hgood ((r.keeps hkeep).put hd hrep) (by rw[hH,hn];exact hrest)
  ·rw[if_pos (bA r hN hg)];have hs:aK Ty o.dst o.op O c.H c.n=some (.ptr (c.n,k) 1 0 0,c.H.set (c.n,k) ⟨i'.zero.length,[i'.zero.map .v]⟩,c.n+1):=by rw[hop,hdst];simp only[aK,hTy]
   refine .inl (bN hT hs c a rfl rfl g r _ _ ?_);rintro v1 x c' ⟨rfl,hH,hn⟩ hrep hgood hkeep;have hr:=hrest c.n hn0 (fun j=>by
    show c.H (c.n,j)=none;cases hx:c.H (c.n,j) with
    | none=>rfl
    | some ob=>have:=g.stamp _ _ hx;simp only at this;omega)
   have hm:max c.n (c.n+1)=c.n+1:=by omega
   simp only[hm] at hr;rw[<- hdst] at hr;exact iN.sound hT hN hQ fuel _ _ c' _ (by rw[hn];omega) (hk.trans hkeep) hgood ((r.keeps hkeep).put hd hrep) (by rw[hH,hn];exact hr)
end
section
variable {P:Program} {f:FuncId} {N:Nat} {k:List Item} {O:Env} {H:au} {n:Nat} {Q:ao->au->Nat->Prop} {Ty:Types}
theorem I.oP (hT:aN P Ty) {id:Nat} {ops:List Oper} (hm:P.follows .mixedOrders=true) (hN:ops.all (fun o=>cU N o.dst)=true) (hB:oP ops.toArray=true)
  (h:vR Ty ops.toArray n (fun s=>I P f N k s.1 s.2.1 s.2.2 Q) ops (O,H,n)):I P f N (.code (.region id ops.toArray true)::k) O H n Q:=by
 intro c a hH hn g r b cs hf hk;subst hH;subst hn;obtain⟨d1,d2⟩:=eR g;have hany:=iN.lex (Ty:=Ty) (ops:=ops.toArray) (n0:=c.n) ops 0 (Array.replicate ops.toArray.size false) (O,c.H,c.n) ⟨Nat.le_refl _,fun id o ho=>g.stamp id o ho⟩ (by simp) (by simpa[Ab.oP] using hB) h;have hw:(Code.region id ops.toArray true).wp P (fun e a' w'=>e = .normal/\∃ c' ρ',c'.w=w'/\aQ c c'/\Good c'/\bV N c' ρ' a'/\I P f N k ρ' c'.H c'.n Q) a c.w:=by
  refine wp_region_any hm ?_;have:=iN.sound (P:=P) (N:=N) (Ty:=Ty) (ops:=ops.toArray) (n0:=c.n) (c0:=c) hT (by simpa using hN) (Q:=fun e a' w'=>e = .normal/\∃ c' ρ',c'.w=w'/\aQ c c'/\Good c'/\bV N c' ρ' a'/\I P f N k ρ' c'.H c'.n Q)
   (R:=fun s=>I P f N k s.1 s.2.1 s.2.2 Q) (fun a' c' ρ' V hg' hr' hR=>⟨rfl,c',ρ',rfl,V,hg',hr',hR⟩) ops.length (Array.replicate ops.toArray.size false) O { c with w:={ c.w with drawn:=c.w.drawn+1 } } a (Nat.le_refl _) d1 d2 (r.keeps d1) hany
  simpa using this
 obtain⟨e,a',w',⟨rfl,c',ρ',rfl,V,hg',hr',hR⟩,harr⟩:=hw b k cs;obtain⟨x,v,c'',fr,q,hr,hg,hke,hst,rest⟩:=hR c' a' rfl rfl hg' hr' b cs hf hk;exact⟨x,v,c'',fr,q,hr,hg,V.trans hke,Steps.trans harr hst,rest⟩
end
def sw (Ty:Types) (d:Option Nat):Op->Option (Nat × Ob)
 | .alloc t=>match d,Ty t with
  | some k,some i=>some (k,⟨i.zero.length,[i.zero.map .v]⟩)
  | _,_=>none
 | _=>none
section
variable (P:Program) (f:FuncId) (N:Nat) (k:List Item) (Q:ao->au->Nat->Prop) (Ty:Types) (ops:Array Oper) (n0:Nat)
def fy:List Oper->Env->au->Nat->Prop
 | [],O,H,n=>I P f N k O H n Q
 | o::l,O,H,n=>
  match eG ops o O with
  | some false=>fy l (O.put o.dst gF) H n
  | some true=>match sw Ty o.dst o.op with
   | some (j,ob)=>∀ a,n0<=a->(∀ q,H (a,q)=none)->fy l (O.put (some j) (.ptr (a,j) 1 0 0)) (H.set (a,j) ob) (max n (a+1))
   | none=>match aK Ty o.dst o.op O H n with
    | some (v,H',_)=>cK n0 o.op O/\fy l (O.put o.dst v) H' n
    | none=>False
  | none=>False
end
section
variable {P:Program} {f:FuncId} {N:Nat} {k:List Item} {O:Env} {H:au} {n:Nat} {Q:ao->au->Nat->Prop} {Ty:Types} {ops:Array Oper} {n0:Nat}
theorem sF {d:Option Nat} {op:Op} {v:ao} {H':au} {n':Nat} (h:sw Ty d op=none) (hs:aK Ty d op O H n=some (v,H',n')):bC op ≠ 3:=by
 cases op with
 | alloc t=>
  simp only[aK] at hs
  split at hs
  ·rename_i k' i hi
   simp only[sw,hi] at h;cases h
  ·cases hs
 | call c=>
  obtain⟨cal,args,ats⟩:=c;cases cal with
  | builtin b=>cases b<;>simp[bC]
  | _=>simp[bC]
 | buildSlice t len ps=>
  unfold bC;simp only
  by_cases h0:len=0<;>simp[h0]
 | _=>simp[bC]
theorem fe:∀ (l:List Oper) (O:Env) (H:au) (n:Nat),fy P f N k Q Ty ops n0 l O H n->vR Ty ops n0 (fun s=>I P f N k s.1 s.2.1 s.2.2 Q) l (O,H,n)
 | [],_,_,_,h=>h
 | o::l,O,H,n,h=>by
  rw[fy] at h
  split at h
  ·rename_i hg
   exact .inl ⟨hg,fe l _ _ _ h⟩
  ·rename_i hg
   split at h
   ·rename_i j ob hnew
    unfold sw at hnew
    split at hnew
    ·rename_i t hop
     split at hnew
     ·rename_i k' i hdst hTy
      cases hnew;exact .inr (.inr ⟨hg,t,_,_,hop,hdst,hTy,fun a ha hf=>fe l _ _ _ (h a ha hf)⟩)
     ·cases hnew
    ·cases hnew
   ·rename_i hnew
    split at h
    ·rename_i v H' n' hs
     have hk3:=sF hnew hs;obtain⟨hc,h⟩:=h;have hn:n'=n:=by
      rcases dO hk3 hc with hk | hk | hk
      ·exact (eQ hk hs).2.1
      ·exact (dd (H2:=H) (n2:=n) hk hc (fun _ _=>rfl) hs).2.1
      ·obtain⟨_,_,_,_,_,_,_,e,_⟩:=eV hk hc hs;exact e
     subst hn;exact .inr (.inl ⟨hg,hk3,hc,v,H',hs,fe l _ _ _ h⟩)
    ·exact h.elim
  ·exact h.elim
@[simp] theorem evalN_nil : fy P f N k Q Ty ops n0 [] O H n = I P f N k O H n Q := by rw [fy]
@[simp] theorem evalN_cons {o : Oper} {l : List Oper} : fy P f N k Q Ty ops n0 (o :: l) O H n = (match eG ops o O with
  | some false=>fy P f N k Q Ty ops n0 l (O.put o.dst gF) H n
  | some true=>match sw Ty o.dst o.op with
   | some (j,ob)=>∀ a,n0<=a->(∀ q,H (a,q)=none)->fy P f N k Q Ty ops n0 l (O.put (some j) (.ptr (a,j) 1 0 0)) (H.set (a,j) ob) (max n (a+1))
   | none=>match aK Ty o.dst o.op O H n with
    | some (v,H',_)=>cK n0 o.op O/\fy P f N k Q Ty ops n0 l (O.put o.dst v) H' n
    | none=>False
  | none=>False):=by rw[fy]
theorem I.seqN (hT:aN P Ty) {id:Nat} {ops:List Oper} {y:Code} (hm:P.follows .mixedOrders=true) (hN:ops.all (fun o=>cU N o.dst)=true) (hB:Ab.oP ops.toArray=true)
  (h:∀ k':List Item,(∀ O H n,I P f N (.code y::k) O H n Q->I P f N k' O H n Q)->fy P f N k' Q Ty ops.toArray n ops O H n):I P f N (.code (.seq (.region id ops.toArray true) y)::k) O H n Q:=
 I.seq (I.oP hT hm hN hB (fe ops _ _ _ (h (.code y::k) fun _ _ _ h=>h)))
end
attribute [simp] eG cK rP sw bC
end Go.Ab
namespace Go.Ab
open Go.Proofs
structure aq where
 kind:Int
 cap:Int
 place:Int
 deriving Inhabited,DecidableEq
def aq.cells (s:aq):List ao:=[int s.kind,int s.cap,int s.place]
end Go.Ab
namespace Go.Ab.Vg
abbrev tD (p:aw) (k:Int):Bool:=within k 0 ((p.length:Int) - 1)
abbrev mP (p:aw) (k:Int):Bool:=idle p k.toNat
abbrev iC (p:aw) (k:Int):Prop:=Valid p/\0<=k/\k<p.length
abbrev nP (p:aw) (s:aq):Int:=(at' p s.cap).parent
def cZ (p:aw) (s:aq):Bool:=
 if s.kind=1 then decide (0<=nP p s) && decide (nP p s ≠ s.place) && decide ((at' p s.place).parent=(at' p (nP p s)).parent)
 else if s.kind=2 then decide (0<=nP p s) && decide ((at' p (nP p s)).parent=s.place)
 else decide ((at' p s.place).parent=nP p s)
def qq (p:aw) (s:aq):Bool:=decide ((at' p s.cap).kind=s.kind) && !mP p s.cap && decide ((at' p s.place).kind=0) && decide ((at' p s.place).name=(at' p s.cap).name)
def br (p:aw) (s:aq):Bool:=(within s.kind 1 3 && tD p s.cap && tD p s.place) && qq p s && cZ p s
theorem cJ {p:aw} (hp:Valid p) {k:Int} (h0:0<=k) (h1:k<p.length):(0<=(at' p k).kind/\(at' p k).kind<=3)/\(at' p k).name.length<=4 /\ -1<=(at' p k).parent/\(at' p k).parent<k:=by
 obtain⟨c,rfl⟩:∃ c:Nat,k=c:=⟨k.toNat,by omega⟩
 have hc:c<p.length:=by omega
 rw[gI];exact⟨hp.kind c hc,hp.name c hc,(hp.up c hc).1,(hp.up c hc).2⟩
abbrev fU (p:aw) (_:aq):Prop:=Valid p
abbrev possible (p:aw) (s:aq):Bool:=br p s
def fc (p:aw) (s:aq) (Z:Bool->Prop):Prop:=
 ed (fun (J5:Bool->Prop)=>∀ r68:Bool,r68=within s.kind 1 3->((r68=true->(p.length<=1048576)/\∀ r70:Bool,r70=tD p s.cap->((r70=true->(p.length<=1048576)/\∀ r72:Bool,r72=tD p s.place->J5 ((!r72)))/\(r70=false->J5 (true))))/\(r68=false->J5 (true)))) (fun b8=>((b8=true->Z false)/\(b8=false->(0<=s.cap/\s.cap<p.length)/\∀ x12:J,x12=at' p s.cap->(0<=s.place/\s.place<p.length)/\∀ x15:J,x15=at' p s.place->ed (fun (J20:Bool->Prop)=>∀ c60:Bool,c60=decide (x12.kind ≠ s.kind)->((c60=true->J20 (true))/\(c60=false->(iC p s.cap)/\∀ r63:Bool,r63=mP p s.cap->((r63=true->J20 (true))/\(r63=false->∀ c64:Bool,c64=decide (x15.kind ≠ 0)->((c64=true->J20 (true))/\(c64=false->∀ c66:Bool,c66=decide (x15.name ≠ x12.name)->J20 (c66)))))))) (fun b23=>((b23=true->Z false)/\(b23=false->∀ c26:Bool,c26=decide (s.kind=1)->((c26=true->ed (fun (J28:Bool->Prop)=>∀ c34:Bool,c34=decide (0<=x12.parent)->((c34=true->∀ c36:Bool,c36=decide (x12.parent ≠ s.place)->((c36=true->(0<=x12.parent/\x12.parent<p.length)/\∀ x39:J,x39=at' p x12.parent->∀ c41:Bool,c41=decide (x15.parent=x39.parent)->J28 (c41))/\(c36=false->J28 (false))))/\(c34=false->J28 (false)))) (fun b31=>Z b31))/\(c26=false->∀ c43:Bool,c43=decide (s.kind=2)->((c43=true->ed (fun (J45:Bool->Prop)=>∀ c51:Bool,c51=decide (0<=x12.parent)->((c51=true->(0<=x12.parent/\x12.parent<p.length)/\∀ x54:J,x54=at' p x12.parent->∀ c56:Bool,c56=decide (x54.parent=s.place)->J45 (c56))/\(c51=false->J45 (false)))) (fun b48=>Z b48))/\(c43=false->∀ c58:Bool,c58=decide (x15.parent=x12.parent)->Z c58))))))))))
theorem rz {p:aw} (hp:Valid p) {s:aq} (c1:0<=s.cap) (c2:s.cap<p.length):nP p s<p.length:=by
 have:=(cJ hp c1 c2).2.2.2;show (at' p s.cap).parent<_;omega
theorem pt (p:aw) (s:aq) (h:fU p s):fc p s (fun y=>y=possible p s):=by
 have hp:Valid p:=h;have hp8:=hp.len;unfold fc;refine⟨fun b=>b = !(within s.kind 1 3 && tD p s.cap && tD p s.place),?_,?_⟩
 ·rintro _ rfl;refine⟨fun h1=>⟨by omega,?_⟩,fun h1=>by rw[h1];rfl⟩;rintro _ rfl;refine⟨fun h2=>⟨by omega,?_⟩,fun h2=>by rw[h1,h2];rfl⟩;rintro _ rfl;rw[h1,h2];rfl
 ·rintro _ rfl;refine⟨fun h=>?_,fun h=>?_⟩
  ·rw[Bool.not_eq_true'] at h;rw[possible,br,h];rfl
  ·rw[Bool.not_eq_false'] at h;have h':=h;simp only[Bool.and_eq_true,within,decide_eq_true_eq] at h';obtain⟨⟨⟨k1,k2⟩,⟨c1,c2⟩⟩,⟨q1,q2⟩⟩:=h';have hn:=rz hp c1 (by omega:s.cap<p.length);refine⟨by omega,?_⟩;rintro _ rfl;refine⟨by omega,?_⟩;rintro _ rfl;refine⟨fun b=>b = !qq p s,?_,?_⟩
   ·simp only[forall_eq,decide_eq_true_eq,decide_eq_false_iff_not,qq];refine⟨fun a=>by simp[a],fun a=>⟨⟨hp,by omega,by omega⟩,fun b=>by simp[b],fun b=>⟨fun c=>by simp[c],fun c=>?_⟩⟩⟩;have a':(at' p s.cap).kind=s.kind:=by simpa using a
    have c':(at' p s.place).kind=0:=by simpa using c
    simp[a',b,c']
   ·rintro _ rfl;refine⟨fun a=>?_,fun a=>?_⟩
    ·rw[Bool.not_eq_true'] at a;rw[possible,br,h,a];rfl
    ·rw[Bool.not_eq_false'] at a;have hpo:possible p s=cZ p s:=by rw[possible,br,h,a];rfl
     rw[hpo];simp only[forall_eq,decide_eq_true_eq,decide_eq_false_iff_not];refine⟨fun e1=>⟨fun b=>b=cZ p s,?_,fun _ h=>h⟩,fun e1=>⟨fun e2=>⟨fun b=>b=cZ p s,?_,fun _ h=>h⟩,fun e2=>?_⟩⟩
     ·refine⟨fun b1=>⟨fun b2=>⟨⟨b1,hn⟩,?_⟩,fun b2=>?_⟩,fun b1=>?_⟩
      ·rw[cZ,if_pos e1];simp[b1,b2]
      ·rw[cZ,if_pos e1];simp at b2;simp[b2]
      ·rw[cZ,if_pos e1];simp[b1]
     ·refine⟨fun b1=>⟨⟨b1,hn⟩,?_⟩,fun b1=>?_⟩
      ·rw[cZ,if_neg e1,if_pos e2];simp[b1]
      ·rw[cZ,if_neg e1,if_pos e2];simp[b1]
     ·rw[cZ,if_neg e1,if_neg e2]
abbrev ft (p:aw) (_:aq):Prop:=Valid p
abbrev fS (p:aw) (s:aq):Bool:=br p s
def et (p:aw) (s:aq) (Z:Bool->Prop):Prop:=
 ed (fun (J5:Bool->Prop)=>(p.length<=1048576)/\∀ r69:Bool,r69=tD p s.cap->((r69=true->(p.length<=1048576)/\∀ r71:Bool,r71=tD p s.place->((r71=true->(iC p s.cap)/\∀ r73:Bool,r73=mP p s.cap->J5 (r73))/\(r71=false->J5 (true))))/\(r69=false->J5 (true)))) (fun b8=>((b8=true->Z false)/\(b8=false->(0<=s.cap/\s.cap<p.length)/\∀ x12:J,x12=at' p s.cap->(0<=s.place/\s.place<p.length)/\∀ x15:J,x15=at' p s.place->ed (fun (J20:Bool->Prop)=>∀ c60:Bool,c60=decide (x12.kind=0)->((c60=true->J20 (true))/\(c60=false->∀ c62:Bool,c62=decide (x12.kind ≠ s.kind)->((c62=true->J20 (true))/\(c62=false->∀ c64:Bool,c64=decide (x15.kind ≠ 0)->((c64=true->J20 (true))/\(c64=false->∀ c66:Bool,c66=decide (x12.name ≠ x15.name)->J20 (c66)))))))) (fun b23=>((b23=true->Z false)/\(b23=false->∀ c26:Bool,c26=decide (s.kind=1)->((c26=true->ed (fun (J28:Bool->Prop)=>∀ c34:Bool,c34=decide (0<=x12.parent)->((c34=true->∀ c36:Bool,c36=decide (x12.parent ≠ s.place)->((c36=true->(0<=x12.parent/\x12.parent<p.length)/\∀ x39:J,x39=at' p x12.parent->∀ c41:Bool,c41=decide (x39.parent=x15.parent)->J28 (c41))/\(c36=false->J28 (false))))/\(c34=false->J28 (false)))) (fun b31=>Z b31))/\(c26=false->∀ c43:Bool,c43=decide (s.kind=2)->((c43=true->ed (fun (J45:Bool->Prop)=>∀ c51:Bool,c51=decide (0<=x12.parent)->((c51=true->(0<=x12.parent/\x12.parent<p.length)/\∀ x54:J,x54=at' p x12.parent->∀ c56:Bool,c56=decide (x54.parent=s.place)->J45 (c56))/\(c51=false->J45 (false)))) (fun b48=>Z b48))/\(c43=false->∀ c58:Bool,c58=decide (x12.parent=x15.parent)->Z c58))))))))))
theorem oq (p:aw) (s:aq) (h:ft p s):et p s (fun y=>y=fS p s):=by
 have hp:Valid p:=h;have hp8:=hp.len;unfold et;refine⟨fun b=>b = !(tD p s.cap && tD p s.place && !mP p s.cap),?_,?_⟩
 ·refine⟨by omega,?_⟩;rintro _ rfl;refine⟨fun h1=>⟨by omega,?_⟩,fun h1=>by rw[h1];rfl⟩;rintro _ rfl;have h1':=h1;simp only[within,Bool.and_eq_true,decide_eq_true_eq] at h1';refine⟨fun h2=>⟨⟨hp,h1'.1,by omega⟩,?_⟩,fun h2=>by rw[h1,h2];rfl⟩;rintro _ rfl;rw[h1,h2];simp
 ·rintro _ rfl;refine⟨fun h=>?_,fun h=>?_⟩
  ·rw[Bool.not_eq_true'] at h;have:br p s=false:=by
    rw[Bool.eq_false_iff];intro hq;simp only[br,qq,Bool.and_eq_true,Bool.not_eq_true',decide_eq_true_eq] at hq;obtain⟨⟨⟨⟨_,a1⟩,a2⟩,⟨⟨_,a3⟩,_⟩,_⟩,_⟩:=hq;rw[a1,a2,a3] at h;simp at h
   exact this.symm
  ·rw[Bool.not_eq_false'] at h;have h':=h;simp only[Bool.and_eq_true,within,decide_eq_true_eq,Bool.not_eq_true'] at h';obtain⟨⟨⟨c1,c2⟩,⟨q1,q2⟩⟩,hid⟩:=h';have hv:=cJ hp c1 (by omega:s.cap<p.length);have hn:=rz hp c1 (by omega:s.cap<p.length);refine⟨by omega,?_⟩;rintro _ rfl;refine⟨by omega,?_⟩;rintro _ rfl;refine⟨fun b=>b = !(within s.kind 1 3 && qq p s),?_,?_⟩
   ·simp only[forall_eq,decide_eq_true_eq,decide_eq_false_iff_not,qq,hid];refine⟨fun a=>?_,fun a=>⟨fun b=>by simp[b],fun b=>⟨fun c=>by simp[c],fun c=>?_⟩⟩⟩
    ·by_cases e:(at' p s.cap).kind=s.kind
     ·have:within s.kind 1 3=false:=by
       have:¬ (1<=s.kind):=by omega
       simp[within,this]
      simp[this]
     ·simp[e]
    ·have b':(at' p s.cap).kind=s.kind:=by simpa using b
     have c':(at' p s.place).kind=0:=by simpa using c
     have:within s.kind 1 3=true:=by
      have h1:1<=s.kind:=by omega
      have h2:s.kind<=3:=by omega
      simp[within,h1,h2]
     simp[this,b',c',eq_comm]
   ·rintro _ rfl;refine⟨fun a=>?_,fun a=>?_⟩
    ·rw[Bool.not_eq_true'] at a;have:br p s=false:=by
      rw[Bool.eq_false_iff];intro hq;simp only[br,Bool.and_eq_true] at hq;rw[hq.1.1.1.1,hq.1.2] at a;simp at a
     exact this.symm
    ·rw[Bool.not_eq_false'] at a;simp only[Bool.and_eq_true] at a h;have hpo:fS p s=cZ p s:=by rw[fS,br,a.1,h.1.1,h.1.2,a.2];rfl
     rw[hpo];simp only[forall_eq,decide_eq_true_eq,decide_eq_false_iff_not];refine⟨fun e1=>⟨fun b=>b=cZ p s,?_,fun _ h=>h⟩,fun e1=>⟨fun e2=>⟨fun b=>b=cZ p s,?_,fun _ h=>h⟩,fun e2=>?_⟩⟩
     ·refine⟨fun b1=>⟨fun b2=>⟨⟨b1,hn⟩,?_⟩,fun b2=>?_⟩,fun b1=>?_⟩
      ·rw[cZ,if_pos e1];simp[b1,b2,eq_comm]
      ·rw[cZ,if_pos e1];simp at b2;simp[b2]
      ·rw[cZ,if_pos e1];simp[b1]
     ·refine⟨fun b1=>⟨⟨b1,hn⟩,?_⟩,fun b1=>?_⟩
      ·rw[cZ,if_neg e1,if_pos e2];simp[b1]
      ·rw[cZ,if_neg e1,if_pos e2];simp[b1]
     ·rw[cZ,if_neg e1,if_neg e2];simp[eq_comm]
abbrev nI (l:List J):List J:=l
abbrev eY (l:List J):Prop:=l.length<=1048576
def iq (s:List J) (Z:(List J)->Prop):Prop:=
 ∀ c2:Bool,(c2=true->s=[])->((c2=true->Z [])/\(c2=false->(([]:List J).length+s.length<=1073741824)/\∀ l7:List J,l7=([]:List J)++s->Z l7))
theorem sS (l:List J) (h:eY l):iq l (fun y=>y=nI l):=by
 unfold iq;simp only[eY] at h;intro c hc;refine⟨fun h1=>(hc h1).symm,fun _=>⟨by simp;omega,?_⟩⟩;rintro _ rfl;simp[nI]
abbrev eL (p:aw):Prop:=Gp p
noncomputable abbrev jf (p:aw):aw:=(parse (cW p (-1))).1
theorem iU {p:aw} (h:Gp p) (a:Int):(cW p a).length<=4294967296:=by
 have hp8:=h.len;have h3:=ff h.len h.name (rk p a+1) a;have hr:=uJ h a;have hpd:8 ^ (rk p a+1)<=8 ^ 9:=Nat.pow_le_pow_right (by omega) (by omega);simp only[cW];omega
def iA (p:aw) (Z:aw->Prop):Prop:=
 (dp p (-1))/\∀ r6:aH,r6=cW p (-1)->(r6.length<=4294967296)/\∀ r8:aw × Bool,r8=parse r6->Z r8.1
theorem sr (p:aw) (h:eL p):iA p (fun y=>y=jf p):=by
 unfold iA;refine⟨h,?_⟩;rintro _ rfl;refine⟨iU h _,?_⟩;rintro _ rfl
 rfl
def kK (p:aw) (q:Int->Int):aw:=p.mapIdx fun i x=>⟨x.kind,x.name,q i⟩
theorem eC (p:aw) (q:Int->Int):(kK p q).length=p.length:=by simp[kK]
theorem lI (p:aw) (q:Int->Int) {x:Int} (h0:0<=x) (h1:x<p.length):at' (kK p q) x=⟨(at' p x).kind,(at' p x).name,q x⟩:=by
 obtain⟨c,rfl⟩:∃ c:Nat,x=c:=⟨x.toNat,by omega⟩
 have hc:c<p.length:=by omega
 rw[c7 (by rw[eC];exact hc),c7 hc];simp[kK]
theorem im {p:aw} {q q':Int->Int} (h:∀ i:Int,0<=i->i<p.length->q i=q' i):kK p q=kK p q':=by
 apply List.ext_getElem
 ·simp[kK]
 ·intro j h1 h2;have hj:j<p.length:=by simpa[kK] using h1
  simp only[kK,List.getElem_mapIdx,J.mk.injEq,true_and];exact h j (by omega) (by omega)
theorem gQ (p:aw):p=kK p fun i=>(at' p i).parent:=by
 apply List.ext_getElem
 ·simp[kK]
 ·intro j h1 h2;simp only[kK,List.getElem_mapIdx,c7 h1]
theorem il {p:aw} {q:Int->Int} {x:Int} (v:Int) (h0:0<=x) (h1:x<p.length):(kK p q).set x.toNat (J.mk (at' (kK p q) x).kind (at' (kK p q) x).name v)=kK p fun i=>if i=x then v else q i:=by
 rw[lI p q h0 h1];obtain⟨c,rfl⟩:∃ c:Nat,x=c:=⟨x.toNat,by omega⟩
 have hc:c<p.length:=by omega
 rw[c7 hc,Int.toNat_natCast];apply List.ext_getElem
 ·simp[kK]
 ·intro j h2 h3;have hj:j<p.length:=by simpa[kK] using h3
  simp only[List.getElem_set,kK,List.getElem_mapIdx]
  by_cases h:c=j
  ·subst h;simp
  ·rw[if_neg h,if_neg (by omega)]
def mK (n:Nat) (q:Int->Int):List Int:=(List.range n).map fun i:Nat=>q i
theorem gl (n:Nat) (q:Int->Int):(mK n q).length=n:=by simp[mK]
theorem uw {n:Nat} (q:Int->Int) {x:Int} (h0:0<=x) (h1:x<n):at' (mK n q) x=q x:=by
 obtain⟨c,rfl⟩:∃ c:Nat,x=c:=⟨x.toNat,by omega⟩
 rw[c7 (by rw[gl];omega)];simp[mK]
theorem oH (n:Nat) (q:Int->Int):mK (n+1) q=mK n q++[q n]:=by simp[mK,List.range_succ]
theorem iF {n:Nat} {q:Int->Int} {x:Int} (v:Int) (h0:0<=x):(mK n q).set x.toNat v=mK n fun i=>if i=x then v else q i:=by
 obtain⟨c,rfl⟩:∃ c:Nat,x=c:=⟨x.toNat,by omega⟩
 rw[Int.toNat_natCast];apply List.ext_getElem
 ·simp[mK]
 ·intro j h2 h3;simp only[List.getElem_set,mK,List.getElem_map,List.getElem_range]
  by_cases h:c=j
  ·subst h;simp
  ·rw[if_neg h,if_neg (by omega)]
theorem jY {n:Nat} {q q':Int->Int} (h:∀ i:Int,0<=i->i<n->q i=q' i):mK n q=mK n q':=by
 refine List.map_congr_left fun i hi=>h i (by omega) ?_
 have:=List.mem_range.1 hi;omega
def fF (p:aw) (s:aq) (i:Int):Int:=if (at' p i).parent=s.cap\/(s.kind=3/\(at' p i).parent=s.place) then nP p s else (at' p i).parent
def cw (p:aw) (s:aq) (i:Int):Int:=
 if i=s.cap then s.cap
 else if s.kind=1 then (if i=nP p s then s.place else fF p s i)
 else if s.kind=2 then (if i=nP p s then (at' p s.place).parent else fF p s i)
 else (if i=s.place then s.place else fF p s i)
def rE (p:aw) (ps:List Int):aw:=kK p fun i=>if at' ps i=i then -2 else at' ps i
def iW (p:aw) (s:aq):aw:=rE p (mK p.length (cw p s))
structure sd (p:aw) (s:aq):Prop where
 valid:Valid p
 kind:1<=s.kind/\s.kind<=3
 cap:0<=s.cap/\s.cap<p.length
 place:0<=s.place/\s.place<p.length
 ne:s.cap ≠ s.place
 n : -1<=nP p s/\nP p s<s.cap
 inn:s.kind=1->0<=nP p s/\nP p s ≠ s.place/\(at' p s.place).parent=(at' p (nP p s)).parent
 out:s.kind=2->0<=nP p s/\(at' p (nP p s)).parent=s.place
 opn:s.kind=3->(at' p s.place).parent=nP p s
theorem poss {p:aw} {s:aq} (hp:Valid p) (h:br p s=true):sd p s:=by
 simp only[br,qq,Bool.and_eq_true,within,decide_eq_true_eq] at h;obtain⟨⟨⟨⟨⟨k1,k2⟩,⟨c1,c2⟩⟩,⟨q1,q2⟩⟩,⟨⟨m1,_⟩,m3⟩,_⟩,hr⟩:=h;have hv:=cJ hp c1 (by omega);refine⟨hp,⟨k1,k2⟩,⟨c1,by omega⟩,⟨q1,by omega⟩,?_,hv.2.2,fun e=>?_,fun e=>?_,fun e=>?_⟩
 ·intro he;rw[he,m3] at m1;omega
 ·rw[cZ,if_pos e] at hr;simpa[and_assoc] using hr
 ·rw[cZ,if_neg (by omega),if_pos e] at hr;simpa using hr
 ·rw[cZ,if_neg (by omega),if_neg (by omega)] at hr;simpa using hr
inductive Sub (p:aw) (n:Int):Int->Prop
 | self:Sub p n n
 | kid (i:Int) (h0:0<=i) (h1:i<p.length) (h:Sub p n (at' p i).parent):Sub p n i
theorem Sub.le {p:aw} (hp:Valid p) {n i:Int} (h:Sub p n i):n<=i:=by
 induction h with
 | self=>exact Int.le_refl _
 | kid i h0 h1 _ ih=>have:=(cJ hp h0 h1).2.2.2;omega
theorem Sub.up {p:aw} {n i:Int} (h:Sub p n i) (hne:i ≠ n):Sub p n (at' p i).parent:=by
 cases h with
 | self=>exact absurd rfl hne
 | kid _ _ _ h=>exact h
theorem rH {p:aw} {s:aq} (h:sd p s) {i:Int} (h0:0<=i) (h1:i<p.length):fF p s i<i:=by
 have hi:=(cJ h.valid h0 h1).2.2;have hn:=h.n;unfold fF
 split
 ·rename_i hc
  rcases hc with hc | ⟨e,hc⟩
  ·omega
  ·have h1:=h.opn e;have h2:=(cJ h.valid h.place.1 h.place.2).2.2;omega
 ·omega
theorem ln {p:aw} {s:aq} (h:sd p s) {i:Int} (h0:0<=i) (h1:i<p.length) (hc:i ≠ s.cap) (hq:s.kind=3->i ≠ s.place):cw p s i ≠ i:=by
 have hb:=rH h h0 h1;unfold cw;rw[if_neg hc]
 split
 ·rename_i e
  have:=h.inn e
  split<;>omega
 ·split
  ·rename_i e
   have h2:=h.out e;have h3:=(cJ h.valid h.place.1 h.place.2).2.2;have h4:=(cJ h.valid h2.1 (by have:=h.n;have:=h.cap;omega)).2.2
   split<;>omega
  ·have:=hq (by have:=h.kind;omega);rw[if_neg this];omega
theorem fP {p:aw} {a k:Int}:k ∈ kids p a↔0<=k/\k<p.length/\(at' p k).parent=a:=by
 simp only[kids,uW,decide_eq_true_eq]
open Classical in
theorem gZ {p:aw} {s:aq} (h:sd p s):Gp (iW p s):=by
 have hp:=h.valid;have hlen:(iW p s).length=p.length:=by rw[iW,rE,eC]
 refine⟨by rw[hlen];exact hp.len,fun i hi=>?_,fun i hi=>?_,?_⟩
 ·rw[hlen] at hi;have:=lI p (fun i=>if at' (mK p.length (cw p s)) i=i then -2 else at' (mK p.length (cw p s)) i) (x:=(i:Int)) (by omega) (by omega);rw[gI,gI] at this;rw[iW,rE,this];exact hp.kind i hi
 ·rw[hlen] at hi;have:=lI p (fun i=>if at' (mK p.length (cw p s)) i=i then -2 else at' (mK p.length (cw p s)) i) (x:=(i:Int)) (by omega) (by omega);rw[gI,gI] at this;rw[iW,rE,this];exact hp.name i hi
 ·refine⟨fun a=>((p.length:Int) - a).toNat+if s.kind=1/\¬ Sub p (nP p s) a then 10 else 0,fun a k hk=>?_⟩;rw[fP,hlen] at hk;obtain⟨h0,h1,hpa⟩:=hk;have hp8:=hp.len;show ((p.length:Int) - k).toNat+(if s.kind=1/\¬ Sub p (nP p s) k then 10 else 0)<((p.length:Int) - a).toNat+(if s.kind=1/\¬ Sub p (nP p s) a then 10 else 0);rw[iW,rE,lI _ _ h0 h1] at hpa;simp only[uw _ h0 h1] at hpa;have hb:=rH h h0 h1;have hn:=h.n;have cY:=h.cap
  by_cases hrem:cw p s k=k
  ·rw[if_pos hrem] at hpa;subst hpa
   by_cases e:s.kind=1
   ·have hs:¬ Sub p (nP p s) (-2):=fun hs=>by have:=hs.le hp;have:=(h.inn e).1;omega
    rw[if_pos (c:=s.kind=1/\¬ Sub p (nP p s) (-2)) ⟨e,hs⟩]
    split<;>omega
   ·rw[if_neg (fun E=>e E.1),if_neg (fun E=>e E.1)];omega
  ·rw[if_neg hrem] at hpa
   by_cases e:s.kind=1
   ·obtain⟨i1,i2,i3⟩:=h.inn e;have hns:¬ Sub p (nP p s) s.place:=fun hs=>by
     have h5:=hs.up (Ne.symm i2);rw[i3] at h5;have h6:=h5.le hp;have h7:=(cJ hp i1 (by omega)).2.2;omega
    have hkc:k ≠ s.cap:=fun E=>hrem (by rw[E,cw,if_pos rfl])
    rw[cw,if_neg hkc,if_pos e] at hpa
    split at hpa
    ·rename_i hkn
     subst hpa;rw[if_neg (fun E=>E.2 (hkn ▸ Sub.self)),if_pos ⟨e,hns⟩];have:=h.place;omega
    ·rename_i hkn
     unfold fF at hpa
     split at hpa
     ·rename_i hc
      have hc':(at' p k).parent=s.cap:=by rcases hc with hc | ⟨e3,_⟩;exact hc;omega
      have hsc:Sub p (nP p s) s.cap:=.kid _ h.cap.1 h.cap.2 Sub.self;have hsk:Sub p (nP p s) k:=.kid _ h0 h1 (hc' ▸ hsc);rw[if_neg (fun E=>E.2 hsk),if_neg (fun E=>E.2 (hpa ▸ Sub.self))];have:=(cJ hp h0 h1).2.2;omega
     ·have hlt:=(cJ hp h0 h1).2.2
      by_cases hsk:Sub p (nP p s) k
      ·have hsa:=hsk.up hkn;rw[hpa] at hsa;rw[if_neg (fun E=>E.2 hsk),if_neg (fun E=>E.2 hsa)];omega
      ·have hsa:¬ Sub p (nP p s) a:=fun hs=>hsk (.kid _ h0 h1 (hpa ▸ hs))
       rw[if_pos ⟨e,hsk⟩,if_pos ⟨e,hsa⟩];omega
   ·rw[if_neg (fun E=>e E.1),if_neg (fun E=>e E.1)];have hlt:a<k:=by
     have hkc:k ≠ s.cap:=fun E=>hrem (by rw[E,cw,if_pos rfl])
     rw[cw,if_neg hkc,if_neg e] at hpa
     split at hpa
     ·rename_i e2
      have h2:=h.out e2;have h3:=(cJ hp h.place.1 h.place.2).2.2;have h4:=(cJ hp h2.1 (by omega)).2.2
      split at hpa<;>omega
     ·split at hpa
      ·rename_i e3 hk3
       exact absurd (by rw[cw,if_neg hkc,if_neg e,if_neg e3,if_pos hk3,hk3]) hrem
      ·omega
    omega
abbrev jm (p:aw) (s:aq):Prop:=sd p s
noncomputable abbrev result (p:aw) (s:aq):aw:=jf (iW p s)
def iu (p:aw) (s:aq) (Z:aw->Prop):Prop:=
 (eY p)/\∀ r7:List J,r7=nI p->(0<=s.cap/\s.cap<p.length)/\∀ x21:J,x21=at' p s.cap->(ee p s.cap)/\∀ r24:List Int,r24=kids p s.cap->∀ len32:Int,len32=(r24.length:Int)->aI (σ:=Int × (List J)) (fun (v46,l47) K52=>∀ c53:Bool,c53=decide (v46<len32)->((c53=true->(0<=v46/\v46<r24.length)/\∀ x60:Int,x60=at' r24 v46->(0<=x60/\x60<l47.length)/\∀ x68:J,x68=at' l47 x60->∀ l71:List J,l71=l47.set x60.toNat (J.mk x68.kind x68.name x21.parent)->(cL (v46+1))/\∀ v79:Int,v79=v46+1->K52 (v79,l71))/\(c53=false->(0<=s.cap/\s.cap<l47.length)/\∀ x86:J,x86=at' l47 s.cap->∀ l89:List J,l89=l47.set s.cap.toNat (J.mk x86.kind x86.name (-2))->∀ c95:Bool,c95=decide (s.kind=1)->((c95=true->(0<=x21.parent/\x21.parent<l89.length)/\∀ x102:J,x102=at' l89 x21.parent->∀ l105:List J,l105=l89.set x21.parent.toNat (J.mk x102.kind x102.name s.place)->(eL l105)/\∀ r112:aw,r112=jf l105->Z r112)/\(c95=false->∀ c127:Bool,c127=decide (s.kind=2)->((c127=true->(0<=s.place/\s.place<p.length)/\∀ x130:J,x130=at' p s.place->(0<=x21.parent/\x21.parent<l89.length)/\∀ x137:J,x137=at' l89 x21.parent->∀ l140:List J,l140=l89.set x21.parent.toNat (J.mk x137.kind x137.name x130.parent)->(eL l140)/\∀ r147:aw,r147=jf l140->Z r147)/\(c127=false->(ee p s.place)/\∀ r163:List Int,r163=kids p s.place->∀ len171:Int,len171=(r163.length:Int)->aI (σ:=Int × (List J)) (fun (v185,l186) K191=>∀ c192:Bool,c192=decide (v185<len171)->((c192=true->(0<=v185/\v185<r163.length)/\∀ x199:Int,x199=at' r163 v185->(0<=x199/\x199<l186.length)/\∀ x207:J,x207=at' l186 x199->∀ l210:List J,l210=l186.set x199.toNat (J.mk x207.kind x207.name x21.parent)->(cL (v185+1))/\∀ v218:Int,v218=v185+1->K191 (v218,l210))/\(c192=false->(0<=s.place/\s.place<l186.length)/\∀ x225:J,x225=at' l186 s.place->∀ l228:List J,l228=l186.set s.place.toNat (J.mk x225.kind x225.name (-2))->(eL l228)/\∀ r235:aw,r235=jf l228->Z r235))) (0,l89)))))))) (0,r7)
theorem lQ {p:aw} {s:aq} {q:Int->Int} (hq:∀ i:Int,0<=i->i<p.length->q i=if cw p s i=i then -2 else cw p s i):kK p q=iW p s:=
 by rw[iW,rE];exact im fun i h0 h1=>by rw[uw _ h0 h1];exact hq i h0 h1
theorem rO (p:aw) (s:aq) (h:jm p s):iu p s (fun y=>y=result p s):=by
 have hp:=h.valid;have hp8:=hp.len;have hn:=h.n;have cY:=h.cap;unfold iu;refine⟨by simp only[eY];omega,?_⟩;intro r7 hr7;obtain rfl:p=r7:=hr7.symm;refine⟨h.cap,?_⟩;rintro _ rfl;refine⟨by simp only[ee];omega,?_⟩;rintro _ rfl _ rfl;have hkl:(kids p s.cap).length<=p.length:=eP _ _ _;refine aI.qy (kids p s.cap).length (fun k out=>out=kK p fun i=>if i ∈ (kids p s.cap).take k then nP p s else (at' p i).parent) p (by simpa using gQ p) ?_;rintro k out K hk rfl IH;rintro _ rfl;simp only[decide_eq_true_eq,decide_eq_false_iff_not];refine⟨fun hc=>⟨by omega,?_⟩,fun hc=>?_⟩
 ·rintro _ rfl;have hk1:k<(kids p s.cap).length:=by omega
  rw[c7 hk1];have hmem:=fP.1 (List.getElem_mem hk1);have htk:(kids p s.cap).take (k+1)=(kids p s.cap).take k++[(kids p s.cap)[k]]:=List.take_succ_eq_append_getElem hk1;generalize (kids p s.cap)[k]=x at hmem htk ⊢;refine⟨⟨hmem.1,by rw[eC];exact hmem.2.1⟩,?_⟩;rintro _ rfl _ rfl;refine⟨by simp only[cL];omega,?_⟩;rintro _ rfl;refine IH hk1 _ ?_;rw[il _ hmem.1 hmem.2.1];refine im fun i _ _=>?_
  rw[htk]
  by_cases hi:i=x<;>simp[hi]
 ·have hke:k=(kids p s.cap).length:=by omega
  subst hke;have e0:(kK p fun i=>if i ∈ (kids p s.cap).take (kids p s.cap).length then nP p s else (at' p i).parent)=kK p fun i=>if (at' p i).parent=s.cap then nP p s else (at' p i).parent:=im fun i h0 h1=>by
   rw[List.take_length];simp only[fP,h0,h1,true_and]
  rw[e0];refine⟨⟨h.cap.1,by rw[eC];exact h.cap.2⟩,?_⟩;rintro _ rfl _ rfl _ rfl;rw[il _ h.cap.1 h.cap.2];simp only[decide_eq_true_eq,decide_eq_false_iff_not];refine⟨fun e1=>?_,fun e1=>?_⟩
  ·obtain⟨i1,i2,i3⟩:=h.inn e1;have hn1:nP p s<p.length:=by omega
   refine⟨⟨i1,by rw[eC];exact hn1⟩,?_⟩;rintro _ rfl _ rfl;rw[il _ i1 hn1,lQ (s:=s)]
   ·exact⟨gZ h,by rintro _ rfl;rfl⟩
   ·intro i h0 h1
    by_cases hc:i=s.cap
    ·rw[if_neg (by omega),if_pos hc,if_pos (by rw[hc,cw,if_pos rfl])]
    ·rw[if_neg hc,if_neg (ln h h0 h1 hc (by omega)),cw,if_neg hc,if_pos e1];simp[fF,e1]
  ·rintro _ rfl;simp only[decide_eq_true_eq,decide_eq_false_iff_not];refine⟨fun e2=>?_,fun e2=>?_⟩
   ·obtain⟨i1,i2⟩:=h.out e2;have hn1:nP p s<p.length:=by omega
    refine⟨h.place,?_⟩;rintro _ rfl;refine⟨⟨i1,by rw[eC];exact hn1⟩,?_⟩;rintro _ rfl _ rfl;rw[il _ i1 hn1,lQ (s:=s)]
    ·exact⟨gZ h,by rintro _ rfl;rfl⟩
    ·intro i h0 h1
     by_cases hc:i=s.cap
     ·rw[if_neg (by omega),if_pos hc,if_pos (by rw[hc,cw,if_pos rfl])]
     ·rw[if_neg hc,if_neg (ln h h0 h1 hc (by omega)),cw,if_neg hc,if_neg e1,if_pos e2];simp[fF,e2]
   ·have e3:s.kind=3:=by have:=h.kind;omega
    have hop:=h.opn e3;have hpl:=(cJ hp h.place.1 h.place.2).2.2;refine⟨by simp only[ee];omega,?_⟩;rintro _ rfl _ rfl;have hkl:(kids p s.place).length<=p.length:=eP _ _ _;refine aI.qy (kids p s.place).length (fun k out=>out=kK p fun i=>if i ∈ (kids p s.place).take k then nP p s else if i=s.cap then -2 else if (at' p i).parent=s.cap then nP p s else (at' p i).parent) _ (by simp) ?_;rintro k out K hk rfl IH;rintro _ rfl;simp only[decide_eq_true_eq,decide_eq_false_iff_not];refine⟨fun hc=>⟨by omega,?_⟩,fun hc=>?_⟩
    ·rintro _ rfl;have hk1:k<(kids p s.place).length:=by omega
     rw[c7 hk1];have hmem:=fP.1 (List.getElem_mem hk1);have htk:(kids p s.place).take (k+1)=(kids p s.place).take k++[(kids p s.place)[k]]:=List.take_succ_eq_append_getElem hk1;generalize (kids p s.place)[k]=x at hmem htk ⊢;refine⟨⟨hmem.1,by rw[eC];exact hmem.2.1⟩,?_⟩;rintro _ rfl _ rfl;refine⟨by simp only[cL];omega,?_⟩;rintro _ rfl;refine IH hk1 _ ?_;rw[il _ hmem.1 hmem.2.1];refine im fun i _ _=>?_
     rw[htk]
     by_cases hi:i=x<;>simp[hi]
    ·have hke:k=(kids p s.place).length:=by omega
     subst hke;refine⟨⟨h.place.1,by rw[eC];exact h.place.2⟩,?_⟩;rintro _ rfl _ rfl;rw[il _ h.place.1 h.place.2,lQ (s:=s)]
     ·exact⟨gZ h,by rintro _ rfl;rfl⟩
     ·intro i h0 h1;rw[List.take_length];simp only[fP,h0,h1,true_and];have hne:=h.ne
      by_cases hc:i=s.cap
      ·have hnp:¬ (at' p i).parent=s.place:=fun E=>by
        have:nP p s=s.place:=by rw[<- E,hc]
        omega
       rw[if_neg (by omega),if_neg hnp,if_pos hc,if_pos (by rw[hc,cw,if_pos rfl])]
      ·by_cases hq:i=s.place
       ·rw[if_pos hq,if_pos (by rw[cw,if_neg hc,if_neg e1,if_neg e2,if_pos hq,hq])]
       ·rw[if_neg hq,if_neg (ln h h0 h1 hc (fun _=>hq)),cw,if_neg hc,if_neg e1,if_neg e2,if_neg hq,if_neg hc];unfold fF
        by_cases a1:(at' p i).parent=s.cap
        ·simp[a1]
        ·by_cases a2:(at' p i).parent=s.place
         ·simp[a2,e3]
         ·simp[a1,a2]
theorem vT {l:List aH} {s:aH} {R:Int->Prop} (hl:l.length<=1000000) (h:∀ k:Nat,k<=l.length->l.take k++s::l.drop k=ins s l->R k) :
  aI (σ:=Int) (fun k K=>ed (fun (ai:Bool->Prop)=>∀ len:Int,len=(l.length:Int)->∀ c:Bool,c=decide (k<len)->((c=true->(0<=k/\k<l.length)/\∀ x:aH,x=at' l k->∀ c2:Bool,c2=(Op.bytesLess x s || x == s)->ai (c2))/\(c=false->ai (false))))
   (fun b=>((b=true->(cL (k+1))/\∀ v:Int,v=k+1->K (v))/\(b=false->R k)))) 0:=by
 refine aI.up1 l.length (fun j=>∀ m<j,at' l (m:Int)<=s) (by simp) ?_;rintro j K' hj hI IH';refine⟨fun b=>b=(decide (j<l.length) && decide (at' l (j:Int)<=s)),?_,?_⟩
 ·rintro _ rfl _ rfl;simp only[decide_eq_true_eq,decide_eq_false_iff_not];refine⟨fun hc=>⟨by omega,?_⟩,fun hc=>?_⟩
  ·rintro _ rfl _ rfl;rw[leq_le];have:j<l.length:=by omega
   simp[this]
  ·have:¬ j<l.length:=by omega
   simp[this]
 ·rintro _ rfl;refine⟨fun hc=>?_,fun hc=>?_⟩
  ·simp only[Bool.and_eq_true,decide_eq_true_eq] at hc;refine⟨by simp only[cL];omega,?_⟩;rintro _ rfl;refine IH' hc.1 fun m hm=>?_
   rcases Nat.lt_or_ge m j with h5 | h5
   ·exact hI m h5
   ·rw[show m=j by omega];exact hc.2
  ·simp only[Bool.and_eq_false_iff,decide_eq_false_iff_not] at hc;exact h j hj (uM s l j hj hI (fun hl=>hc.resolve_left (by simpa using hl)))
theorem vg {r:List aH} {Z:aH->Prop} (h0:0<r.length) (hl:r.length<=8) (hb:∀ s ∈ r,s.length<=2147483648+12) (hz:Z (bD r)) :
  aI (σ:=aH × Int) (fun (s,i) K=>∀ len:Int,len=(r.length:Int)->∀ c:Bool,c=decide (i<len)->((c=true->(s.length+[124].length<4611686018427387904)/\∀ v:aH,v=s++[124]->(0<=i/\i<r.length)/\∀ x:aH,x=at' r i ->
   (v.length+x.length<4611686018427387904)/\∀ v2:aH,v2=v++x->(cL (i+1))/\∀ v3:Int,v3=i+1->K (v2,v3))/\(c=false->Z s))) (at' r 0,1):=by
 refine aI.up (r.length - 1) (fun s=>s.2 - 1) (fun k s=>(s,(k:Int)+1)) (fun _ _=>by simp) (fun k s=>s=Lib.join (r.take (k+1)) [124]) (at' r 0) (by simp) ?_ ?_
 ·cases r with
  | nil=>simp at h0
  | cons s0 r'=>simp[at',Lib.join]
 ·rintro k t K hk rfl IH;have hj:=fD (r.take (k+1)) [124] (2147483648+12) (fun s hs=>hb s (List.mem_of_mem_take hs));have hm:(r.take (k+1)).length * (2147483648+12+[124].length)<=8 * (2147483648+12+1):=Nat.mul_le_mul (by simp;omega) (by simp);rintro _ rfl _ rfl;simp only[decide_eq_true_eq,decide_eq_false_iff_not];refine⟨fun hc=>⟨by simp only[List.length_singleton];omega,?_⟩,fun hc=>?_⟩
  ·rintro _ rfl;refine⟨by omega,?_⟩;rintro _ rfl;have hk1:k+1<r.length:=by omega
   have hat:at' r ((k:Int)+1)=r[k+1]:=by
    have:((k:Int)+1).toNat=k+1:=by omega
    simp[at',this,hk1]
   have h12:=hb _ (List.getElem_mem hk1);rw[hat];refine⟨by simp only[List.length_append,List.length_singleton];omega,?_⟩;rintro _ rfl;refine⟨by simp only[cL];omega,?_⟩;rintro _ rfl;refine IH (by omega) _ ?_;rw[List.take_succ_eq_append_getElem hk1,fJ _ _ (by intro h;have:=congrArg List.length h;rw[List.length_take,List.length_nil] at this;omega)]
  ·have h3:r.take (k+1)=r:=List.take_of_length_le (by omega);rw[h3];rw[bD,if_neg (by rintro rfl;simp at h0)] at hz;exact hz
abbrev ch (p:aw) (ps:List Int) (a:Int):Prop:=ps.length=p.length /\ -1<=a/\Gp (rE p ps)
noncomputable abbrev dL (p:aw) (ps:List Int) (a:Int):Nat:=rk (rE p ps) a
noncomputable abbrev cT (p:aw) (ps:List Int) (a:Int):aH:=cW (rE p ps) a
def gm (p:aw) (parents:List Int) (parent:Int) (Z:aH->Prop):Prop:=
 aI (σ:=Int × (List aH)) (fun (i14,l15) K19=>∀ len20:Int,len20=(parents.length:Int)->∀ c22:Bool,c22=decide (i14<len20)->((c22=true->ed (fun (J24:Bool->Prop)=>(0<=i14/\i14<parents.length)/\∀ x117:Int,x117=at' parents i14->∀ c119:Bool,c119=decide (x117 ≠ parent)->((c119=true->J24 (true))/\(c119=false->∀ c121:Bool,c121=decide (i14=parent)->J24 (c121)))) (fun b27=>((b27=true->(cL (i14+1))/\∀ v32:Int,v32=i14+1->K19 (v32,l15))/\(b27=false->(0<=i14/\i14<p.length)/\∀ x35:J,x35=at' p i14->(ch p parents i14/\dL p parents i14<dL p parents parent)/\∀ r38:aH,r38=cT p parents i14->(mY x35 r38)/\∀ r40:aH,r40=aO x35 r38->aI (σ:=Int) (fun k44 K48=>ed (fun (J49:Bool->Prop)=>∀ len102:Int,len102=(l15.length:Int)->∀ c104:Bool,c104=decide (k44<len102)->((c104=true->(0<=k44/\k44<l15.length)/\∀ x111:aH,x111=at' l15 k44->∀ c114:Bool,c114=(Op.bytesLess x111 r40 || x111 == r40)->J49 (c114))/\(c104=false->J49 (false)))) (fun b52=>((b52=true->(cL (k44+1))/\∀ v57:Int,v57=k44+1->K48 (v57))/\(b52=false->((0:Int)<=0/\(0:Int)<=k44/\k44<=l15.length)/\∀ l63:List aH,l63=(l15.take k44.toNat).drop 0->(([]:List aH).length+l63.length<=1073741824)/\∀ l67:List aH,l67=([]:List aH)++l63->(l67.length+1<=1073741824)/\∀ l76:List aH,l76=l67++[r40]->(0<=k44/\k44<=(l15.length:Int)/\(l15.length:Int)<=l15.length)/\∀ l85:List aH,l85=(l15.take (l15.length:Int).toNat).drop k44.toNat->(l76.length+l85.length<=1073741824)/\∀ l89:List aH,l89=l76++l85->(cL (i14+1))/\∀ v100:Int,v100=i14+1->K19 (v100,l89))))) (0)))))/\(c22=false->∀ len123:Int,len123=(l15.length:Int)->∀ c125:Bool,c125=decide (len123=0)->((c125=true->Z [48])/\(c125=false->((0:Int)<=0/\(0:Int)<l15.length)/\∀ x132:aH,x132=at' l15 0->aI (σ:=aH × Int) (fun (s139,i140) K144=>∀ len145:Int,len145=(l15.length:Int)->∀ c147:Bool,c147=decide (i140<len145)->((c147=true->(s139.length+[124].length<4611686018427387904)/\∀ v150:aH,v150=s139++[124]->(0<=i140/\i140<l15.length)/\∀ x157:aH,x157=at' l15 i140->(v150.length+x157.length<4611686018427387904)/\∀ v161:aH,v161=v150++x157->(cL (i140+1))/\∀ v164:Int,v164=i140+1->K144 (v161,v164))/\(c147=false->Z s139))) (x132,1)))))) (0,([]:List aH))
theorem re_at {p:aw} {ps:List Int} {x:Int} (h0:0<=x) (h1:x<p.length):at' (rE p ps) x=⟨(at' p x).kind,(at' p x).name,if at' ps x=x then -2 else at' ps x⟩:=lI _ _ h0 h1
theorem qe (p:aw) (ps:List Int) (a:Int) (h:ch p ps a):gm p ps a (fun y=>y=cT p ps a):=by
 obtain⟨hl,ha,hg⟩:=h;have hlen:(rE p ps).length=p.length:=eC _ _;have hp8:=hg.len;rw[hlen] at hp8;have hrk:=uJ hg a;rw[hlen] at hrk;unfold gm;obtain⟨d,hd⟩:∃ d,rk (rE p ps) a=d:=⟨_,rfl⟩
 have hpd:8 ^ d<=8 ^ 8:=Nat.pow_le_pow_right (by omega) (by omega);have hT:∀ y,(bn (rE p ps) d y).length<=268435456:=fun y=>by have:=ff hg.len hg.name d y;omega
 generalize hq:rE p ps=q at *;have hqat:∀ x:Int,0<=x->x<p.length->at' q x=⟨(at' p x).kind,(at' p x).name,if at' ps x=x then -2 else at' ps x⟩:=fun x h0 h1=>by rw[<- hq];exact re_at h0 h1
 have hnt:∀ x:Int,0<=x->x<p.length->∀ t,aO (at' p x) t=aO (at' q x) t:=fun x h0 h1 t=>by rw[hqat x h0 h1];rfl
 refine aI.qy p.length (fun k out=>out=(idxs q (fun x=>decide (x.parent=a)) k).foldl (fun out x=>ins (aO (at' q x) (bn q d x)) out) []) [] rfl ?_;rintro k out K hk hout IH;have hol:out.length<=k:=by
  have:=(j3 (fun x=>aO (at' q x) (bn q d x)) (idxs q (fun x=>decide (x.parent=a)) k) [] List.Pairwise.nil).2.length_eq;rw[<- hout] at this;rw[this];simpa using eP q (fun x=>decide (x.parent=a)) k
 rintro _ rfl _ rfl;simp only[decide_eq_true_eq,decide_eq_false_iff_not];refine⟨fun hc=>?_,fun hc=>?_⟩
 ·have hk1:k<p.length:=by omega
  have hk2:=hqat k (by omega) (by omega);refine⟨fun b=>b=decide (¬ (at' q (k:Int)).parent=a),?_,?_⟩
  ·refine⟨by omega,?_⟩;rintro _ rfl _ rfl;simp only[decide_eq_true_eq,decide_eq_false_iff_not];rw[hk2];refine⟨fun b1=>?_,fun b1=>?_⟩
   ·have:¬ ((if at' ps (k:Int)=k then -2 else at' ps (k:Int))=a):=by split<;>omega
    simp[this]
   ·rintro _ rfl;simp only[decide_not,decide_eq_decide];have b1':at' ps (k:Int)=a:=by simpa using b1
    rw[Bool.eq_iff_iff];simp only[decide_eq_true_eq,Bool.not_eq_true',decide_eq_false_iff_not]
    split<;>omega
  ·rintro _ rfl;simp only[decide_eq_true_eq,decide_eq_false_iff_not,Decidable.not_not];refine⟨fun b1=>⟨by simp only[cL];omega,?_⟩,fun b1=>⟨by omega,?_⟩⟩
   ·rintro _ rfl;refine IH hk1 _ ?_;rw[oe _ _ (by simpa using b1)];exact hout
   ·rintro _ rfl;have hmem:(k:Int) ∈ kids q a:=fP.2 ⟨by omega,by omega,b1⟩;have hlt:=ur hg hmem;refine⟨⟨⟨hl,by omega,by rw[hq];exact hg⟩,by simp only[dL,hq];omega⟩,?_⟩;rintro _ rfl;have hf:cT p ps k=bn q d k:=by
     simp only[cT,hq];exact ja hg _ _ _ (by omega) (by omega)
    rw[hf];have hkn:=hg.kind k (by omega);have hnn:=hg.name k (by omega);rw[<- gI,hk2] at hkn hnn;refine⟨⟨hkn,by have:=hnn;simp only at this;omega,by have:=hT k;omega⟩,?_⟩;rintro _ rfl;have hnext:=IH hk1;rw[la _ _ (by simpa using b1),List.foldl_append,<- hout] at hnext;simp only[List.foldl_cons,List.foldl_nil] at hnext;rw[hnt k (by omega) (by omega)];generalize aO (at' q (k:Int)) (bn q d k)=s at hnext;refine vT (by omega) fun j hj hins=>?_
    refine⟨by omega,?_⟩;rintro _ rfl;refine⟨by simp;omega,?_⟩;rintro _ rfl;refine⟨by simp;omega,?_⟩;rintro _ rfl;refine⟨by omega,?_⟩;rintro _ rfl;refine⟨by simp;omega,?_⟩;rintro _ rfl;refine⟨by simp only[cL];omega,?_⟩;rintro _ rfl;refine hnext _ ?_;rw[<- hins];simp
 ·have hke:k=p.length:=by omega
  subst hke;have hkids:idxs q (fun x=>decide (x.parent=a)) p.length=kids q a:=by rw[kids,hlen]
  rw[hkids,ql (fun x=>aO (at' q x) (bn q d x))] at hout;have hfin:cT p ps a=bD out:=by
   simp only[cT,hq,cW,hd,bn,dA,hout]
  have hbb:∀ t ∈ out,t.length<=2147483648+12:=fun t ht=>by
   rw[hout] at ht;simp only[List.mem_mergeSort,List.mem_map] at ht;obtain⟨y,hy,rfl⟩:=ht;obtain⟨i,rfl,hi,hx⟩:=jz hy;have h1:=cz (at' q i) (bn q d i) (by simpa[at'] using hg.name i hi);have:=hT i;omega
  rw[hfin];rintro _ rfl _ rfl;simp only[decide_eq_true_eq,decide_eq_false_iff_not];refine⟨fun h0=>?_,fun h0=>⟨by omega,?_⟩⟩
  ·have:out=[]:=List.eq_nil_of_length_eq_zero (by omega);simp[this,bD]
  ·rintro _ rfl;exact vg (Z:=fun y=>y=bD out) (by omega) (by omega) hbb rfl
abbrev gO (p:aw) (s:aq):Prop:=sd p s
noncomputable abbrev iz (p:aw) (s:aq):aw:=jf (iW p s)
def fV (p:aw) (s:aq) (Z:aw->Prop):Prop:=
 (0<=s.cap/\s.cap<p.length)/\∀ x7:J,x7=at' p s.cap->(0<=s.place/\s.place<p.length)/\∀ x10:J,x10=at' p s.place->aI (σ:=Int × (List Int)) (fun (i25,l26) K30=>∀ len31:Int,len31=(p.length:Int)->∀ c33:Bool,c33=decide (i25<len31)->((c33=true->(0<=i25/\i25<p.length)/\∀ x36:J,x36=at' p i25->ed (fun (J38:Bool->Prop)=>∀ c71:Bool,c71=decide (x36.parent=s.cap)->((c71=true->J38 (true))/\(c71=false->∀ c73:Bool,c73=decide (s.kind=3)->((c73=true->∀ c75:Bool,c75=decide (x36.parent=s.place)->J38 (c75))/\(c73=false->J38 (false)))))) (fun b41=>((b41=true->(l26.length+1<=1073741824)/\∀ l46:List Int,l46=l26++[x7.parent]->(cL (i25+1))/\∀ v56:Int,v56=i25+1->K30 (v56,l46))/\(b41=false->(l26.length+1<=1073741824)/\∀ l59:List Int,l59=l26++[x36.parent]->(cL (i25+1))/\∀ v69:Int,v69=i25+1->K30 (v69,l59)))))/\(c33=false->∀ c77:Bool,c77=decide (s.kind=1)->((c77=true->(0<=x7.parent/\x7.parent<l26.length)/\∀ x84:Int,x84=at' l26 x7.parent->∀ l87:List Int,l87=l26.set x7.parent.toNat s.place->(0<=s.cap/\s.cap<l87.length)/\∀ x98:Int,x98=at' l87 s.cap->∀ l101:List Int,l101=l87.set s.cap.toNat s.cap->(ch p l101 (-1))/\∀ r108:aH,r108=cT p l101 (-1)->(r108.length<=4294967296)/\∀ r110:aw × Bool,r110=parse r108->Z r110.1)/\(c77=false->∀ c114:Bool,c114=decide (s.kind=2)->((c114=true->(0<=x7.parent/\x7.parent<l26.length)/\∀ x121:Int,x121=at' l26 x7.parent->∀ l124:List Int,l124=l26.set x7.parent.toNat x10.parent->(0<=s.cap/\s.cap<l124.length)/\∀ x135:Int,x135=at' l124 s.cap->∀ l138:List Int,l138=l124.set s.cap.toNat s.cap->(ch p l138 (-1))/\∀ r145:aH,r145=cT p l138 (-1)->(r145.length<=4294967296)/\∀ r147:aw × Bool,r147=parse r145->Z r147.1)/\(c114=false->(0<=s.place/\s.place<l26.length)/\∀ x156:Int,x156=at' l26 s.place->∀ l159:List Int,l159=l26.set s.place.toNat s.place->(0<=s.cap/\s.cap<l159.length)/\∀ x170:Int,x170=at' l159 s.cap->∀ l173:List Int,l173=l159.set s.cap.toNat s.cap->(ch p l173 (-1))/\∀ r180:aH,r180=cT p l173 (-1)->(r180.length<=4294967296)/\∀ r182:aw × Bool,r182=parse r180->Z r182.1))))))) (0,([]:List Int))
theorem qu (p:aw) (s:aq) (h:gO p s):fV p s (fun y=>y=iz p s):=by
 have hp:=h.valid;have hp8:=hp.len;have hn:=h.n;have cY:=h.cap;unfold fV;refine⟨h.cap,?_⟩;rintro _ rfl;refine⟨h.place,?_⟩;rintro _ rfl;refine aI.qy p.length (fun k out=>out=mK k (fF p s)) [] rfl ?_;rintro k out K hk rfl IH;have hlk:=gl k (fF p s);rintro _ rfl _ rfl;simp only[decide_eq_true_eq,decide_eq_false_iff_not];refine⟨fun hc=>⟨by omega,?_⟩,fun hc=>?_⟩
 ·rintro _ rfl;refine⟨fun b=>b=decide ((at' p (k:Int)).parent=s.cap\/(s.kind=3/\(at' p (k:Int)).parent=s.place)),?_,?_⟩
  ·simp only[forall_eq,decide_eq_true_eq,decide_eq_false_iff_not];exact⟨fun a=>by simp[a],fun a=>⟨fun b=>by simp[a,b],fun b=>by simp[a,b]⟩⟩
  ·rintro _ rfl;simp only[decide_eq_true_eq,decide_eq_false_iff_not];refine⟨fun a=>⟨by omega,?_⟩,fun a=>⟨by omega,?_⟩⟩
   ·rintro _ rfl;refine⟨by simp only[cL];omega,?_⟩;rintro _ rfl;exact IH (by omega) _ (by rw[oH,fF,if_pos a])
   ·rintro _ rfl;refine⟨by simp only[cL];omega,?_⟩;rintro _ rfl;exact IH (by omega) _ (by rw[oH,fF,if_neg a])
 ·have hke:k=p.length:=by omega
  subst hke;have fin:∀ l:List Int,l=mK p.length (cw p s)->ch p l (-1)/\∀ r:aH,r=cT p l (-1)->(r.length<=4294967296)/\∀ r2:aw × Bool,r2=parse r->r2.1=iz p s:=by
   rintro _ rfl;refine⟨⟨gl _ _,by omega,gZ h⟩,?_⟩;rintro _ rfl;refine⟨iU (gZ h) _,?_⟩;rintro _ rfl
   rfl
  rintro _ rfl;simp only[decide_eq_true_eq,decide_eq_false_iff_not];refine⟨fun e1=>?_,fun e1=>?_⟩
  ·obtain⟨i1,i2,i3⟩:=h.inn e1;refine⟨⟨i1,by rw[hlk];show nP p s<_;omega⟩,?_⟩;rintro _ rfl _ rfl;rw[iF _ i1];refine⟨⟨h.cap.1,by rw[gl];exact h.cap.2⟩,?_⟩;rintro _ rfl _ rfl;rw[iF _ h.cap.1];refine fin _ (jY fun i _ _=>?_);simp[cw,e1]
  ·rintro _ rfl;simp only[decide_eq_true_eq,decide_eq_false_iff_not];refine⟨fun e2=>?_,fun e2=>?_⟩
   ·obtain⟨i1,i2⟩:=h.out e2;refine⟨⟨i1,by rw[hlk];show nP p s<_;omega⟩,?_⟩;rintro _ rfl _ rfl;rw[iF _ i1];refine⟨⟨h.cap.1,by rw[gl];exact h.cap.2⟩,?_⟩;rintro _ rfl _ rfl;rw[iF _ h.cap.1];refine fin _ (jY fun i _ _=>?_);simp[cw,e2]
   ·refine⟨⟨h.place.1,by rw[gl];exact h.place.2⟩,?_⟩;rintro _ rfl _ rfl;rw[iF _ h.place.1];refine⟨⟨h.cap.1,by rw[gl];exact h.cap.2⟩,?_⟩;rintro _ rfl _ rfl;rw[iF _ h.cap.1];refine fin _ (jY fun i _ _=>?_);simp[cw,e1,e2]
end Go.Ab.Vg
namespace Go.Ab.Vg
section
variable {α:Type} (m:α->Int->α × Int)
def aZ:List α->Int->List α × Int
 | [],k=>([],k)
 | x::l,k=>((m x k).1::(aZ l (m x k).2).1,(aZ l (m x k).2).2)
theorem gM (l1 l2:List α) (k:Int):aZ m (l1++l2) k=((aZ m l1 k).1++(aZ m l2 (aZ m l1 k).2).1,(aZ m l2 (aZ m l1 k).2).2):=by
 induction l1 generalizing k with
 | nil=>rfl
 | cons x l ih=>simp[aZ,ih]
theorem gN (l:List α) (k:Int):(aZ m l k).1.length=l.length:=by
 induction l generalizing k with
 | nil=>rfl
 | cons x l ih=>simp[aZ,ih]
def eh (l:List α) (k:Int) (i:Nat):List α:=(aZ m (l.take i) k).1++l.drop i
def fj (l:List α) (k:Int) (i:Nat):Int:=(aZ m (l.take i) k).2
theorem pK (l:List α) (k:Int):eh m l k 0=l:=by simp[eh,aZ]
theorem qx (l:List α) (k:Int):eh m l k l.length=(aZ m l k).1:=by simp[eh]
theorem qo (l:List α) (k:Int):fj m l k l.length=(aZ m l k).2:=by simp[fj]
theorem lD (l:List α) (k:Int) (i:Nat):(eh m l k i).length=l.length:=by
 simp only[eh,List.length_append,gN,List.length_take,List.length_drop];omega
theorem qI [Inhabited α] {l:List α} {k:Int} {i:Nat} (hi:i<l.length):at' (eh m l k i) (i:Int)=l[i]:=by
 rw[c7 (by rw[lD];exact hi)];have hl:(aZ m (l.take i) k).1.length=i:=by rw[gN];simp;omega
 simp only[eh];rw[List.getElem_append_right (by omega)];simp[hl]
theorem qp {l:List α} {k:Int} {i:Nat} (hi:i<l.length):(eh m l k i).set i (m l[i] (fj m l k i)).1=eh m l k (i+1):=by
 have hl:(aZ m (l.take i) k).1.length=i:=by rw[gN];simp;omega
 simp only[eh,fj];rw[List.set_append_right _ _ (by omega),hl,Nat.sub_self,List.take_succ_eq_append_getElem hi,gM,List.drop_eq_getElem_cons hi];simp only[List.set_cons_zero,aZ,List.append_assoc,List.cons_append,List.nil_append]
theorem kr {l:List α} {k:Int} {i:Nat} (hi:i<l.length):fj m l k (i+1)=(m l[i] (fj m l k i)).2:=by
 simp only[fj];rw[List.take_succ_eq_append_getElem hi,gM];simp[aZ]
theorem kC {sz:α->Nat} (hm:∀ x k,(m x k).2=k+sz x) (l:List α) (k:Int) (i:Nat):fj m l k i=k+((l.take i).map sz).sum:=by
 have:∀ (l:List α) (k:Int),(aZ m l k).2=k+(l.map sz).sum:=by
  intro l
  induction l with
  | nil=>intro k;simp[aZ]
  | cons x l ih=>intro k;simp only[aZ,ih,hm,List.map_cons,List.sum_cons];omega
 exact this _ _
theorem kg {f:α->Nat} (l:List α) (i:Nat):((l.take i).map f).sum<=(l.map f).sum:=by
 have:l.map f=(l.take i).map f++(l.drop i).map f:=by rw[<- List.map_append,List.take_append_drop]
 rw[this,List.sum_append];omega
end
end Go.Ab.Vg
namespace Go.Ab
open Go.Proofs
end Go.Ab
namespace Go.Ab
open Go.Proofs
end Go.Ab
namespace Go.Ab
open Go.Proofs
end Go.Ab
namespace Go.Ab
open Go.Proofs
end Go.Ab
namespace Go.Ab
open Go.Proofs
end Go.Ab
namespace Go.Ab
open Go.Proofs
end Go.Ab
namespace Go.Ab
open Go.Proofs
end Go.Ab
namespace Go.Ab
open Go.Proofs
end Go.Ab
namespace Go.Ab
open Go.Proofs
end Go.Ab
namespace Go.Ab
open Go.Proofs
end Go.Ab
namespace Go.Ab
open Go.Proofs
end Go.Ab
namespace Go.Ab
open Go.Proofs
end Go.Ab
namespace Go.Ab.Vg
theorem mI {a b:aH} (h:a<=b) (hn:a ≠ b):a<b:=by
 by_cases hl:a<b
 ·exact hl
 ·exact absurd (List.le_antisymm h hl) hn
theorem uK {a b:aH} (h:a<b):a ≠ b:=by rintro rfl;exact List.lt_irrefl a h
theorem gq {a b c:aH} (h:a<b) (h':b<c):a<c:=List.lt_trans h h'
theorem oQ {l:List aH} {k:Nat} {s:aH} (hs:l.Pairwise (·<·)) (h1:∀ a ∈ l.take k,a<s) (h2:∀ h:k<l.length,s<l[k]):(l.take k++s::l.drop k).Pairwise (·<·):=by
 have hd:∀ b ∈ l.drop k,s<b:=fun b hb=>by
  rcases Nat.lt_or_ge k l.length with hk | hk
  ·have hp:(l.drop k).Pairwise (·<·):=hs.sublist (List.drop_sublist _ _);rw[List.drop_eq_getElem_cons hk] at hb hp;rcases List.mem_cons.1 hb with rfl | hb
   ·exact h2 hk
   ·exact gq (h2 hk) ((List.pairwise_cons.1 hp).1 b hb)
  ·rw[List.drop_eq_nil_of_le hk] at hb;cases hb
 refine List.pairwise_append.2 ⟨hs.sublist (List.take_sublist _ _),List.pairwise_cons.2 ⟨hd,hs.sublist (List.drop_sublist _ _)⟩,fun a ha b hb=>?_⟩;rcases List.mem_cons.1 hb with rfl | hb
 ·exact h1 a ha
 ·exact gq (h1 a ha) (hd b hb)
theorem rV {l m:List aH} (hl:l.Pairwise (·<·)) (hm:m.Pairwise (·<·)) (h:∀ x,x ∈ l↔x ∈ m):l=m:=by
 have U:l.Nodup:=hl.imp fun h=>uK h
 have n2:m.Nodup:=hm.imp fun h=>uK h
 exact ((List.perm_ext_iff_of_nodup U n2).2 h).eq_of_pairwise (fun a b _ _ h h'=>absurd (gq h h') (List.lt_irrefl a)) hl hm
theorem fK {d:List aH} {j:Nat} (h:j<d.length):d.toArray[j]! = d[j]:=by simp[h]
theorem eT {d:List aH} (hd:d.Pairwise (·<=·)):∀ m,m<=d.length->(Go.Lib.compactUpTo d.toArray m).Pairwise (·<·)/\∀ x,x ∈ Go.Lib.compactUpTo d.toArray m↔x ∈ d.take m
 | 0,_=>by simp[Go.Lib.compactUpTo]
 | m+1,hm=>by
  obtain⟨h1,h2⟩:=eT hd m (by omega);have hm1:m<d.length:=by omega
  have htk:d.take (m+1)=d.take m++[d[m]]:=List.take_succ_eq_append_getElem hm1;rw[Go.Lib.compactUpTo_succ,htk]
  by_cases hk:Go.Lib.keeps d.toArray m=true
  ·rw[if_pos hk];have hlt:∀ a ∈ d.take m,a<d[m]:=fun a ha=>by
    obtain⟨j,hj,rfl⟩:=List.getElem_of_mem ha;have hjm:j<m:=by simp at hj;omega
    rw[List.getElem_take];simp only[Go.Lib.keeps,decide_eq_true_eq] at hk;have hne:d[m] ≠ d[m - 1]:=by
     rcases hk with h | h
     ·omega
     ·rwa [fK hm1,fK (show m - 1<d.length by omega)] at h
    have hp:=List.pairwise_iff_getElem.1 hd;have h3:d[m - 1]<=d[m]:=hp (m - 1) m (by omega) hm1 (by omega);have h4:d[m - 1]<d[m]:=mI h3 (Ne.symm hne);rcases Nat.lt_or_ge j (m - 1) with h5 | h5
    ·exact List.lt_of_le_of_lt (hp j (m - 1) (by omega) (by omega) h5) h4
    ·have:j=m - 1:=by omega
     subst this;exact h4
   refine⟨List.pairwise_append.2 ⟨h1,by simp,fun a ha b hb=>?_⟩,fun x=>?_⟩
   ·simp only[List.mem_singleton,fK hm1] at hb;subst hb;exact hlt a ((h2 a).1 ha)
   ·simp only[List.mem_append,h2,fK hm1]
  ·rw[if_neg hk,List.append_nil];refine⟨h1,fun x=>?_⟩;rw[h2,List.mem_append];refine⟨.inl,fun h=>h.elim id fun h=>?_⟩;simp only[Go.Lib.keeps,decide_eq_true_eq,not_or,Decidable.not_not] at hk;obtain⟨k0,k1⟩:=hk;rw[fK hm1,fK (show m - 1<d.length by omega)] at k1;simp only[List.mem_singleton] at h;subst h;rw[k1];exact List.mem_iff_getElem.2 ⟨m - 1,by simp;omega,by simp⟩
abbrev je (l:List aH):Prop:=l.length<=1048576
abbrev nT (l:List aH):List aH:=l
def iB (s:List aH) (Z:(List aH)->Prop):Prop:=
 ∀ c2:Bool,(c2=true->s=[])->((c2=true->Z [])/\(c2=false->(([]:List aH).length+s.length<=1073741824)/\∀ l7:List aH,l7=([]:List aH)++s->Z l7))
theorem sg (l:List aH) (h:je l):iB l (fun y=>y=nT l):=by
 unfold iB;intro c hc;refine⟨fun h1=>(hc h1).symm,fun _=>⟨by simp;omega,?_⟩⟩;rintro _ rfl;simp
abbrev fN (l:List aH):List aH:=Go.Lib.compact l
theorem lH (l:List aH):(fN l).length<=l.length:=by
 have h:(fN l).length<=(List.range l.length).length:=by
  simp only[fN,Go.Lib.compact,Go.Lib.compactUpTo,List.length_map];exact List.length_filter_le _ _
 simpa using h
abbrev dj (l:List aH):Prop:=l.length<=1048576
def cv (l:List aH):List aH:=fN (dA l).1
def dC (l:List aH) (Z:(List aH)->Prop):Prop:=
 (je l)/\∀ r3:List aH,r3=nT l->(r3.length<=1073741824)/\∀ r14:(List aH) × Unit,r14=dA r3->(r14.1.length<=1073741824)/\∀ r24:List aH,r24=fN r14.1->Z r24
theorem lU (l:List aH) (h:dj l):dC l (fun y=>y=cv l):=by
 unfold dC;simp only[forall_eq,dA,List.length_mergeSort,nT];exact⟨h,by omega,by omega,rfl⟩
theorem fB (l:List aH):(cv l).Pairwise (·<·)/\∀ x,x ∈ cv l↔x ∈ l:=by
 have h3:(dA l).1.Pairwise (·<=·):=by
  have:=List.pairwise_mergeSort (le:=fun x y:aH=>decide (x<=y)) (fun a b c h1 h2=>by simp only[decide_eq_true_eq] at *;exact List.le_trans h1 h2) (fun a b=>by simpa using j7 a b) l;simpa[dA] using this
 obtain⟨h1,h2⟩:=eT h3 (dA l).1.length (Nat.le_refl _);refine⟨h1,fun x=>(h2 x).trans ?_⟩;rw[List.take_length];exact List.mem_mergeSort
theorem kI (l:List aH):(cv l).length<=l.length:=by
 have:=lH (dA l).1;simpa[dA,cv] using this
end Go.Ab.Vg
namespace Go.Ab.Vg
def av (t:Bool) (p:aw):List ao:=[.list t (p.map J.cells)]
abbrev gT (p:aw) (_:Int):aH:=bb p (p.length+1) (-1)
abbrev ir (p:aw) (a:Int):Prop:=Valid p/\a = -1
def kG (p:aw) (kind k:Int) (m:Nat):List aq:=((List.range m).map fun i:Nat=>(⟨kind,k,i⟩:aq)).filter (br p)
def j5 (p:aw) (kind:Int) (m:Nat):List aq:=(List.range m).flatMap fun k:Nat=>kG p kind k p.length
def jB (p:aw):Nat->List aq
 | 0=>[]
 | j+1=>jB p j++j5 p ((j:Int)+1) p.length
abbrev bz (p:aw):List aq:=jB p 3
theorem ly (p:aw) (kind k:Int) (m:Nat):(kG p kind k m).length<=m:=by
 have:=List.length_filter_le (br p) ((List.range m).map fun i:Nat=>(⟨kind,k,i⟩:aq));simpa[kG] using this
theorem iH (p:aw) (kind k:Int) (m:Nat):kG p kind k (m+1)=kG p kind k m++if br p ⟨kind,k,m⟩ then [⟨kind,k,m⟩] else []:=by
 simp only[kG,List.range_succ,List.map_append,List.filter_append,List.map_cons,List.map_nil,List.filter_cons,List.filter_nil]
theorem jW (p:aw) (kind:Int) (m:Nat):j5 p kind (m+1)=j5 p kind m++kG p kind m p.length:=by
 simp only[j5,List.range_succ,List.flatMap_append,List.flatMap_cons,List.flatMap_nil,List.append_nil]
theorem jL (p:aw) (kind:Int):∀ m,(j5 p kind m).length<=m * p.length
 | 0=>by simp[j5]
 | m+1=>by
  have h1:=jL p kind m;have h2:=ly p kind m p.length;rw[jW,List.length_append,Nat.succ_mul];omega
theorem fO {p:aw} (h:p.length<=8):∀ j,(jB p j).length<=64 * j
 | 0=>by simp[jB]
 | j+1=>by
  have h1:=fO h j;have h2:=jL p ((j:Int)+1) p.length;have h3:=Nat.mul_le_mul h h;rw[jB,List.length_append];omega
theorem ig {p:aw}:∀ (j:Nat),∀ s ∈ jB p j,br p s=true
 | 0,s,h=>by simp[jB] at h
 | j+1,s,h=>by
  rcases List.mem_append.1 h with h | h
  ·exact ig j s h
  ·simp only[j5,List.mem_flatMap,kG] at h;obtain⟨k,_,h⟩:=h;exact (List.mem_filter.1 h).2
theorem vh {p:aw} {body:Int × List aq->(Int × List aq->Prop)->Prop}
  (hb:∀ (j:Nat) (K:Int × List aq->Prop),j<=3->(j<3->∀ q:Int,q=(j:Int)+2->K (q,jB p (j+1)))->body ((j:Int)+1,jB p j) K):aI body (1,([]:List aq)):=by
 refine aI.up 3 (fun s=>s.1 - 1) (fun j t=>((j:Int)+1,t)) (fun _ _=>by simp) (fun j t=>t=jB p j) [] rfl rfl ?_;rintro j _ K hj rfl IH;refine hb j K hj fun h q hq=>?_
 have:=IH h _ rfl;rw[hq,show (j:Int)+2=((j+1:Nat):Int)+1 by omega];exact this
abbrev jc (p:aw):Prop:=Valid p
def iw (p:aw) (Z:(List aq)->Prop):Prop:=
 aI (σ:=Int × (List aq)) (fun (kind14,l15) K19=>∀ c20:Bool,c20=decide (kind14<=3)->((c20=true->∀ len22:Int,len22=(p.length:Int)->aI (σ:=Int × (List aq)) (fun (v31,l32) K36=>∀ c37:Bool,c37=decide (v31<len22)->((c37=true->∀ len39:Int,len39=(p.length:Int)->aI (σ:=Int × (List aq)) (fun (v48,l49) K53=>∀ c54:Bool,c54=decide (v48<len39)->((c54=true->(fU p (aq.mk kind14 v31 v48))/\∀ r60:Bool,r60=possible p (aq.mk kind14 v31 v48)->((r60=true->(l49.length+1<=1073741824)/\∀ l62:List aq,l62=l49++[(aq.mk kind14 v31 v48)]->(cL (v48+1))/\∀ v72:Int,v72=v48+1->K53 (v72,l62))/\(r60=false->(cL (v48+1))/\∀ v75:Int,v75=v48+1->K53 (v75,l49))))/\(c54=false->(cL (v31+1))/\∀ v78:Int,v78=v31+1->K36 (v78,l49)))) (0,l32))/\(c37=false->(cL (kind14+1))/\∀ v81:Int,v81=kind14+1->K19 (v81,l32)))) (0,l15))/\(c20=false->Z l15))) (1,([]:List aq))
theorem rQ (p:aw) (h:jc p):iw p (fun y=>y=bz p):=by
 unfold iw;have hv:Valid p:=h;have h8:=hv.len;simp only[forall_eq,decide_eq_true_eq,decide_eq_false_iff_not];refine vh (p:=p) ?_;rintro j K hj IH;dsimp only;have hal:=fO h8 j;refine⟨fun hc=>?_,fun hc=>?_⟩
 ·have hj3:j<3:=by omega
  refine aI.qy p.length (fun k t=>t=jB p j++j5 p ((j:Int)+1) k) _ (by simp[j5]) ?_;rintro k _ K2 hk rfl IH2;dsimp only;have h2:=jL p ((j:Int)+1) k;have h2':=Nat.mul_le_mul hk h8;have h88:=Nat.mul_le_mul_right 8 h8;refine⟨fun hc2=>?_,fun hc2=>⟨by simp only[cL];omega,?_⟩⟩
  ·have hk2:k<p.length:=by omega
   refine aI.qy p.length (fun m t=>t=jB p j++j5 p ((j:Int)+1) k++kG p ((j:Int)+1) k m) _ (by simp[kG]) ?_;rintro m _ K3 hm rfl IH3;dsimp only;have h3:=ly p ((j:Int)+1) k m;refine⟨fun hc3=>⟨hv,fun h4=>⟨by simp only[List.length_append];omega,by simp only[cL];omega,IH3 (by omega) _ ?_⟩,fun h4=>⟨by simp only[cL];omega,IH3 (by omega) _ ?_⟩⟩,fun hc3=>⟨by simp only[cL];omega,IH2 hk2 _ ?_⟩⟩
   ·rw[iH,if_pos h4,<- List.append_assoc]
   ·rw[iH,if_neg (by rw[show br p _=false from h4];simp),List.append_nil]
   ·rw[jW,show m=p.length by omega,<- List.append_assoc]
  ·obtain rfl:k=p.length:=by omega
   exact IH hj3 _ (by omega)
 ·obtain rfl:j=3:=by omega
  rfl
abbrev dt (p:aw):List aq × Bool:=if dm p then (bz p,true) else ([],false)
abbrev fk (p:aw):Prop:=ec p
def eu (p:aw) (Z:((List aq) × Bool)->Prop):Prop:=
 (ec p)/\∀ r8:Bool,r8=dm p->((r8=true->aI (σ:=Int × (List aq)) (fun (kind17,l18) K22=>∀ c23:Bool,c23=decide (kind17<=3)->((c23=true->aI (σ:=Int × (List aq)) (fun (x32,l33) K37=>∀ len38:Int,len38=(p.length:Int)->∀ c40:Bool,c40=decide (x32<len38)->((c40=true->aI (σ:=Int × (List aq)) (fun (y49,l50) K54=>∀ len55:Int,len55=(p.length:Int)->∀ c57:Bool,c57=decide (y49<len55)->((c57=true->(ft p (aq.mk kind17 x32 y49))/\∀ r63:Bool,r63=fS p (aq.mk kind17 x32 y49)->((r63=true->(l50.length+1<=1073741824)/\∀ l65:List aq,l65=l50++[(aq.mk kind17 x32 y49)]->(cL (y49+1))/\∀ v75:Int,v75=y49+1->K54 (v75,l65))/\(r63=false->(cL (y49+1))/\∀ v78:Int,v78=y49+1->K54 (v78,l50))))/\(c57=false->(cL (x32+1))/\∀ v81:Int,v81=x32+1->K37 (v81,l50)))) (0,l33))/\(c40=false->(cL (kind17+1))/\∀ v84:Int,v84=kind17+1->K22 (v84,l33)))) (0,l18))/\(c23=false->Z (l18,true)))) (1,([]:List aq)))/\(r8=false->Z (([]:List aq),false)))
theorem nS (p:aw) (h:fk p):eu p (fun y=>y=dt p):=by
 unfold eu;simp only[forall_eq,decide_eq_true_eq,decide_eq_false_iff_not];refine⟨h,fun hg=>?_,fun hg=>by rw[dt,if_neg (by rw[hg];simp)]⟩;have hv:=ca hg;have h8:=hv.len;refine vh (p:=p) ?_;rintro j K hj IH;dsimp only;have hal:=fO h8 j;refine⟨fun hc=>?_,fun hc=>?_⟩
 ·have hj3:j<3:=by omega
  refine aI.qy p.length (fun k t=>t=jB p j++j5 p ((j:Int)+1) k) _ (by simp[j5]) ?_;rintro k _ K2 hk rfl IH2;dsimp only;have h2:=jL p ((j:Int)+1) k;have h2':=Nat.mul_le_mul hk h8;have h88:=Nat.mul_le_mul_right 8 h8;refine⟨fun hc2=>?_,fun hc2=>⟨by simp only[cL];omega,?_⟩⟩
  ·have hk2:k<p.length:=by omega
   refine aI.qy p.length (fun m t=>t=jB p j++j5 p ((j:Int)+1) k++kG p ((j:Int)+1) k m) _ (by simp[kG]) ?_;rintro m _ K3 hm rfl IH3;dsimp only;have h3:=ly p ((j:Int)+1) k m;refine⟨fun hc3=>⟨hv,fun h4=>⟨by simp only[List.length_append];omega,by simp only[cL];omega,IH3 (by omega) _ ?_⟩,fun h4=>⟨by simp only[cL];omega,IH3 (by omega) _ ?_⟩⟩,fun hc3=>⟨by simp only[cL];omega,IH2 hk2 _ ?_⟩⟩
   ·rw[iH,if_pos h4,<- List.append_assoc]
   ·rw[iH,if_neg (by rw[show br p _=false from h4];simp),List.append_nil]
   ·rw[jW,show m=p.length by omega,<- List.append_assoc]
  ·obtain rfl:k=p.length:=by omega
   exact IH hj3 _ (by omega)
 ·obtain rfl:j=3:=by omega
  rw[dt,if_pos hg]
theorem fa (t:aH):Valid (parse t).1:=by
 unfold parse
 split
 ·exact ca (by decide)
 ·split
  ·rename_i h;exact ca h.2.1
  ·exact ca (by decide)
theorem oV (t:aH):(parse (gT (parse t).1 (-1))).1=(parse t).1:=by
 have h0:(parse (gT ([]:aw) (-1))).1=[]:=by rfl
 by_cases hb:(parse t).2=true
 ·have:gT (parse t).1 (-1)=t:=by
   unfold parse at hb ⊢
   split at hb
   ·simp at hb
   ·rename_i r l he
    split at hb
    ·rename_i hc
     simp only[he,if_pos hc];exact hc.2.2
    ·simp at hb
  rw[this]
 ·have:(parse t).1=[]:=by
   unfold parse at hb ⊢
   split at hb
   ·rename_i he;simp only[he]
   ·rename_i r l he
    split at hb
    ·simp at hb
    ·rename_i hc;simp only[he,if_neg hc]
  rw[this,h0]
theorem sN {q:aw} (h:Valid q):(gT q (-1)).length<=4294967296:=by
 have h1:=dN h (q.length+1) (-1);have h2:=h.len;have h3:8 ^ (q.length+1)<=8 ^ 9:=Nat.pow_le_pow_right (by omega) (by omega);simp only[gT];omega
noncomputable abbrev kf (p:aw) (s:aq):aH:=gT (result p s) (-1)
noncomputable abbrev results (p:aw):List aH:=cv ((bz p).map (kf p))
abbrev hJ (p:aw):Prop:=Valid p
def gf (p:aw) (Z:(List aH)->Prop):Prop:=
 (jc p)/\∀ r8:List aq,r8=bz p->∀ len16:Int,len16=(r8.length:Int)->aI (σ:=Int × (List aH)) (fun (v30,l31) K36=>∀ c37:Bool,c37=decide (v30<len16)->((c37=true->(0<=v30/\v30<r8.length)/\∀ x44:aq,x44=at' r8 v30->(jm p x44)/\∀ r52:aw,r52=result p x44->(ir r52 (-1))/\∀ r64:aH,r64=gT r52 (-1)->(l31.length+1<=1073741824)/\∀ l66:List aH,l66=l31++[r64]->(cL (v30+1))/\∀ v77:Int,v77=v30+1->K36 (v77,l66))/\(c37=false->(dj l31)/\∀ r80:List aH,r80=cv l31->Z r80))) (0,([]:List aH))
theorem qj (p:aw) (h:hJ p):gf p (fun y=>y=results p):=by
 unfold gf;have hv:Valid p:=h;have hl:(bz p).length<=192:=fO hv.len 3;simp only[forall_eq,decide_eq_true_eq,decide_eq_false_iff_not];refine⟨hv,?_⟩;refine aI.qy (bz p).length (fun k t=>t=((bz p).take k).map (kf p)) [] (by simp) ?_;rintro k _ K hk rfl IH;dsimp only;have hkl:(((bz p).take k).map (kf p)).length=k:=by simp;omega
 refine⟨fun hc=>?_,fun hc=>?_⟩
 ·have hk2:k<(bz p).length:=by omega
  rw[c7 hk2];have hm:=ig 3 _ (List.getElem_mem hk2);refine⟨⟨by omega,by omega⟩,poss hv hm,⟨fa _,rfl⟩,by omega,by simp only[cL];omega,IH hk2 _ ?_⟩;rw[List.take_succ_eq_append_getElem hk2,List.map_append];rfl
 ·obtain rfl:k=(bz p).length:=by omega
  rw[List.take_length] at hkl ⊢;exact⟨by simp only[dj];omega,rfl⟩
theorem oN {p:aw} {t:aH} (h:t ∈ results p):∃ s ∈ bz p,kf p s=t:=by
 have:=((fB _).2 t).1 h;exact List.mem_map.1 this
theorem ku {p:aw} (h:Valid p):(results p).length<=192:=by
 have h1:=kI ((bz p).map (kf p));have h2:(bz p).length<=192:=fO h.len 3;rw[List.length_map] at h1;exact Nat.le_trans h1 h2
noncomputable def aY (p:aw):List aw × Bool:=if dm p then ((results p).map fun t=>(parse t).1,true) else ([],false)
abbrev dH (p:aw):Prop:=ec p
def dY (p:aw) (Z:((List aw) × Bool)->Prop):Prop:=
 (ec p)/\∀ r5:Bool,r5=dm p->((r5=true->(hJ p)/\∀ r12:List aH,r12=results p->∀ len20:Int,len20=(r12.length:Int)->aI (σ:=Int × (List aw)) (fun (v34,l35) K40=>∀ c41:Bool,c41=decide (v34<len20)->((c41=true->(0<=v34/\v34<r12.length)/\∀ x48:aH,x48=at' r12 v34->(x48.length<=4294967296)/\∀ r52:aw × Bool,r52=parse x48->(l35.length+1<=1073741824)/\∀ l74:List aw,l74=l35++[r52.1]->(cL (v34+1))/\∀ v85:Int,v85=v34+1->K40 (v85,l74))/\(c41=false->Z (l35,true)))) (0,([]:List aw)))/\(r5=false->Z ([],false)))
theorem mB (p:aw) (h:dH p):dY p (fun y=>y=aY p):=by
 unfold dY;simp only[forall_eq,decide_eq_true_eq,decide_eq_false_iff_not];refine⟨h,fun hg=>?_,fun hg=>by rw[aY,if_neg (by rw[hg];simp)]⟩;have hv:=ca hg;have hl:=ku hv;refine⟨hv,?_⟩;refine aI.qy (results p).length (fun k t=>t=((results p).take k).map fun t=>(parse t).1) [] (by simp) ?_;rintro k _ K hk rfl IH;dsimp only;have hkl:(((results p).take k).map fun t=>(parse t).1).length=k:=by simp;omega
 refine⟨fun hc=>?_,fun hc=>?_⟩
 ·have hk2:k<(results p).length:=by omega
  rw[c7 hk2];obtain⟨s,_,hs⟩:=oN (List.getElem_mem hk2);refine⟨⟨by omega,by omega⟩,by rw[<- hs];exact sN (fa _),by omega,by simp only[cL];omega,IH hk2 _ ?_⟩;rw[List.take_succ_eq_append_getElem hk2,List.map_append];rfl
 ·obtain rfl:k=(results p).length:=by omega
  rw[List.take_length,aY,if_pos hg]
noncomputable abbrev jg (p:aw):List aw:=(results p).map fun t=>(parse t).1
abbrev eU (p:aw):Prop:=ec p/\dm p=true
def dV (p:aw) (Z:(List aw)->Prop):Prop:=
 (fk p)/\∀ r5:(List aq) × Bool,r5=dt p->aI (σ:=Int × (List aH) × (List aw)) (fun (i21,l22,l23) K28=>∀ len29:Int,len29=(r5.1.length:Int)->∀ c31:Bool,c31=decide (i21<len29)->((c31=true->(0<=i21/\i21<r5.1.length)/\∀ x37:aq,x37=at' r5.1 i21->(gO p x37)/\∀ r40:aw,r40=iz p x37->(ir r40 (-1))/\∀ r51:aH,r51=gT r40 (-1)->aI (σ:=Int) (fun k56 K61=>ed (fun (J62:Bool->Prop)=>∀ len184:Int,len184=(l22.length:Int)->∀ c186:Bool,c186=decide (k56<len184)->((c186=true->(0<=k56/\k56<l22.length)/\∀ x193:aH,x193=at' l22 k56->∀ c196:Bool,c196=Op.bytesLess x193 r51->J62 (c196))/\(c186=false->J62 (false)))) (fun b65=>((b65=true->(cL (k56+1))/\∀ v71:Int,v71=k56+1->K61 (v71))/\(b65=false->ed (fun (J73:Bool->Prop)=>∀ len170:Int,len170=(l22.length:Int)->∀ c172:Bool,c172=decide (k56=len170)->((c172=true->J73 (true))/\(c172=false->(0<=k56/\k56<l22.length)/\∀ x179:aH,x179=at' l22 k56->∀ c182:Bool,c182=decide (x179 ≠ r51)->J73 (c182)))) (fun b76=>((b76=true->((0:Int)<=0/\(0:Int)<=k56/\k56<=l22.length)/\∀ l85:List aH,l85=(l22.take k56.toNat).drop 0->(([]:List aH).length+l85.length<=1073741824)/\∀ l89:List aH,l89=([]:List aH)++l85->(l89.length+1<=1073741824)/\∀ l98:List aH,l98=l89++[r51]->(0<=k56/\k56<=(l22.length:Int)/\(l22.length:Int)<=l22.length)/\∀ l107:List aH,l107=(l22.take (l22.length:Int).toNat).drop k56.toNat->(l98.length+l107.length<=1073741824)/\∀ l111:List aH,l111=l98++l107->((0:Int)<=0/\(0:Int)<=k56/\k56<=l23.length)/\∀ l127:List aw,l127=(l23.take k56.toNat).drop 0->(([]:List aw).length+l127.length<=1073741824)/\∀ l131:List aw,l131=([]:List aw)++l127->(l131.length+1<=1073741824)/\∀ l140:List aw,l140=l131++[r40]->(0<=k56/\k56<=(l23.length:Int)/\(l23.length:Int)<=l23.length)/\∀ l149:List aw,l149=(l23.take (l23.length:Int).toNat).drop k56.toNat->(l140.length+l149.length<=1073741824)/\∀ l153:List aw,l153=l140++l149->(cL (i21+1))/\∀ v165:Int,v165=i21+1->K28 (v165,l111,l153))/\(b76=false->(cL (i21+1))/\∀ v168:Int,v168=i21+1->K28 (v168,l22,l23)))))))) (0))/\(c31=false->Z l23))) (0,([]:List aH),([]:List aw))
theorem mE (p:aw) (h:eU p):dV p (fun y=>y=jg p):=by
 unfold dV;obtain⟨E,hg⟩:=h;have hv:=ca hg;have hl:(bz p).length<=192:=fO hv.len 3;have e0:dt p=(bz p,true):=by rw[dt,if_pos hg]
 simp only[forall_eq,decide_eq_true_eq,decide_eq_false_iff_not];rw[e0];refine⟨E,?_⟩;refine aI.qy (bz p).length (fun i (t:List aH × List aw)=>t.1.Pairwise (·<·)/\(∀ x,x ∈ t.1↔x ∈ ((bz p).take i).map (kf p))/\t.1.length<=i/\t.2=t.1.map fun t=>(parse t).1) ([],[]) ⟨.nil,by simp,by simp,rfl⟩ ?_;rintro i ⟨out,qs⟩ K hi ⟨hs,hm,hlo,hq⟩ IH;dsimp only at hs hm hlo hq ⊢;refine⟨fun hc=>?_,fun hc=>?_⟩
 ·have hi1:i<(bz p).length:=by omega
  have hli:at' (bz p) (i:Int)=(bz p)[i]:=c7 hi1;have htk:((bz p).take (i+1)).map (kf p)=((bz p).take i).map (kf p)++[kf p (bz p)[i]]:=by rw[List.take_succ_eq_append_getElem hi1,List.map_append];rfl
  rw[hli];have hpo:=poss hv (ig 3 _ (List.getElem_mem hi1));refine⟨⟨by omega,by omega⟩,hpo,⟨fa _,rfl⟩,?_⟩;have er:gT (iz p (bz p)[i]) (-1)=kf p (bz p)[i]:=rfl;rw[er];have eq:iz p (bz p)[i]=(parse (kf p (bz p)[i])).1:=(oV _).symm;rw[eq];generalize kf p (bz p)[i]=w at *;have hql:qs.length=out.length:=by rw[hq,List.length_map]
  refine aI.byM (fun k=>∃ j:Nat,k=j/\j<=out.length/\∀ q<j,at' out (q:Int)<w) (fun k=>(out.length - k).toNat) ⟨0,rfl,by omega,by simp⟩ ?_;rintro _ ⟨k,rfl,hk,hqk⟩;refine⟨fun b=>b=(decide (k<out.length) && decide (at' out (k:Int)<w)),⟨fun h1=>⟨by omega,?_⟩,fun h1=>?_⟩,?_⟩
  ·rw[Go.Proofs.bytesLess_eq,decide_eq_true (show k<out.length by omega),Bool.true_and]
  ·rw[decide_eq_false (show ¬ k<out.length by omega),Bool.false_and]
  rintro _ rfl;refine⟨fun h1=>?_,fun h1=>?_⟩
  ·simp only[Bool.and_eq_true,decide_eq_true_eq] at h1;refine⟨by simp only[cL];omega,⟨k+1,by omega,by omega,fun q hq'=>?_⟩,by omega⟩;rcases Nat.lt_or_ge q k with h3 | h3
   ·exact hqk q h3
   ·rw[show q=k by omega];exact h1.2
  ·have hstop:∀ hk1:k<out.length,¬ out[k]<w:=fun hk1 hlt=>by
    rw[c7 hk1] at h1;simp[hk1,hlt] at h1
   refine⟨fun b=>b=(decide (k=out.length) || decide (at' out (k:Int) ≠ w)),⟨fun h2=>?_,fun h2=>⟨by omega,?_⟩⟩,?_⟩
   ·rw[decide_eq_true (show k=out.length by omega),Bool.true_or]
   ·rw[decide_eq_false (show ¬ k=out.length by omega),Bool.false_or]
   rintro _ rfl;refine⟨fun h2=>?_,fun h2=>?_⟩
   ·have e:([]++(out.take (k:Int).toNat).drop 0++[w]++(out.take (out.length:Int).toNat).drop (k:Int).toNat)=out.take k++w::out.drop k:=by simp
    have e2:([]++(qs.take (k:Int).toNat).drop 0++[(parse w).1]++(qs.take (qs.length:Int).toNat).drop (k:Int).toNat)=qs.take k++(parse w).1::qs.drop k:=by simp
    refine⟨by omega,by simp;omega,by simp;omega,by omega,by simp;omega,by omega,by simp;omega,by simp;omega,by omega,by simp;omega,by simp only[cL];omega,?_⟩;rw[e,e2];refine IH hi1 (out.take k++w::out.drop k,qs.take k++(parse w).1::qs.drop k) ⟨oQ hs (fun a ha=>?_) (fun hk1=>?_),fun x=>?_,?_,?_⟩
    ·obtain⟨q,hq1,rfl⟩:=List.getElem_of_mem ha;have hqk2:q<k:=by simp at hq1;omega
     have:=hqk q hqk2;rw[c7 (by omega)] at this;rw[List.getElem_take];exact this
    ·simp only[Bool.or_eq_true,decide_eq_true_eq,c7 hk1] at h2;have hne:out[k] ≠ w:=h2.resolve_left (by omega);exact mI (hstop hk1) (Ne.symm hne)
    ·have hx:x ∈ out↔x ∈ out.take k\/x ∈ out.drop k:=by rw[<- List.mem_append,List.take_append_drop]
     rw[htk];simp only[List.mem_append,List.mem_cons,List.not_mem_nil,or_false];rw[<- hm x,hx]
     constructor
     ·rintro (h | h | h)
      ·exact .inl (.inl h)
      ·exact .inr h
      ·exact .inl (.inr h)
     ·rintro ((h | h) | h)
      ·exact .inl h
      ·exact .inr (.inr h)
      ·exact .inr (.inl h)
    ·simp;omega
    ·simp only[hq,List.map_append,List.map_cons,List.map_take,List.map_drop]
   ·simp only[Bool.or_eq_false_iff,decide_eq_false_iff_not,Decidable.not_not] at h2;have hk1:k<out.length:=by omega
    have he:out[k]=w:=by rw[<- c7 hk1];exact h2.2
    refine⟨by simp only[cL];omega,IH hi1 (out,qs) ⟨hs,fun x=>?_,by dsimp only;omega,hq⟩⟩;rw[htk,List.mem_append,<- hm x,List.mem_singleton];exact⟨.inl,fun h=>h.elim id fun h=>by rw[h,<- he];exact List.getElem_mem hk1⟩
 ·have hie:i=(bz p).length:=by omega
  subst hie;rw[List.take_length] at hm;obtain⟨h1,h2⟩:=fB ((bz p).map (kf p));have:out=results p:=rV hs h1 fun x=>(hm x).trans (h2 x).symm
  rw[hq,this]
noncomputable abbrev cN (p:aw):List aw × Bool:=aY p
abbrev ej (p:aw):Prop:=ec p
def dB (p:aw) (Z:((List aw) × Bool)->Prop):Prop:=
 (ec p)/\∀ r5:Bool,r5=dm p->((r5=true->(eU p)/\∀ r9:List aw,r9=jg p->Z (r9,true))/\(r5=false->Z (([]:List aw),false)))
theorem l0 (p:aw) (h:ej p):dB p (fun y=>y=cN p):=by
 unfold dB;simp only[forall_eq,decide_eq_true_eq,decide_eq_false_iff_not];exact⟨h,fun hg=>⟨⟨h,hg⟩,by rw[cN,aY,if_pos hg]⟩,fun hg=>by rw[cN,aY,if_neg (by rw[hg];simp)]⟩
abbrev po (a b:List aw):Bool:=decide (a=b)
abbrev fQ (a _:List aw):Prop:=a.length<=1048576/\∀ x ∈ a,x.length<=1048576
def kS (a:List aw) (b:List aw) (Z:Bool->Prop):Prop:=
 ∀ gV:Int,gV=(a.length:Int)->∀ vH:Int,vH=(b.length:Int)->∀ c6:Bool,c6=decide (gV ≠ vH)->((c6=true->Z false)/\(c6=false->aI (σ:=Int) (fun i10 K13=>∀ len14:Int,len14=(a.length:Int)->∀ c16:Bool,c16=decide (i10<len14)->((c16=true->(0<=i10/\i10<a.length)/\∀ x19:aw,x19=at' a i10->(0<=i10/\i10<b.length)/\∀ x22:aw,x22=at' b i10->(x19.length<=1048576)/\∀ r25:Bool,r25=decide (x19=x22)->((r25=true->(cL (i10+1))/\∀ v28:Int,v28=i10+1->K13 (v28))/\(r25=false->Z false)))/\(c16=false->Z true))) (0)))
theorem vr (a b:List aw) (h:fQ a b):kS a b (fun z=>z=po a b):=by
 unfold kS;obtain⟨h1,h2⟩:=h;simp only[forall_eq,decide_eq_true_eq,decide_eq_false_iff_not];refine⟨fun h3=>?_,fun h3=>?_⟩
 ·rw[po,decide_eq_false];rintro rfl;exact h3 rfl
 ·have hl:a.length=b.length:=by omega
  refine aI.up1 a.length (fun i=>∀ j:Nat,j<i->at' a (j:Int)=at' b (j:Int)) (fun j hj=>by omega) ?_;rintro i K hi hI IH;refine⟨fun h4=>⟨⟨by omega,by omega⟩,⟨by omega,by omega⟩,h2 _ (by rw[c7 (show i<a.length by omega)];exact List.getElem_mem _),fun h5=>⟨by simp only[cL];omega,IH (by omega) fun j hj=>?_⟩,fun h5=>?_⟩,fun h4=>?_⟩
  ·rcases Nat.lt_or_ge j i with h6 | h6
   ·exact hI j h6
   ·rw[show j=i by omega];exact h5
  ·rw[po,decide_eq_false];rintro rfl;exact h5 rfl
  ·rw[po,decide_eq_true];refine List.ext_getElem hl fun j h6 h7=>?_
   have:=hI j (by omega)
   rwa [c7 h6,c7 h7] at this
def bK (x:aw):Nat:=3 * x.length
abbrev c9 (l:List aw) (k:Int):=aZ bh l k
abbrev fW (l:List aw) (k:Int):Prop:=0<=k/\l.length<=1048576/\(∀ x ∈ l,x.length<=1048576)/\k+(l.map bK).sum<=1152921504606846976
theorem dI (x:aw) (k:Int):(bh x k).2=k+((bK x:Nat):Int):=by simp[bh,oJ,bK]
def iJ (a:List aw) (k_:Int) (Z:((List aw) × Int)->Prop):Prop:=
 aI (σ:=Int × Int × (List aw)) (fun (k10,i11,l12) K15=>∀ len16:Int,len16=(l12.length:Int)->∀ c18:Bool,c18=decide (i11<len16)->((c18=true->(0<=i11/\i11<l12.length)/\∀ x21:aw,x21=at' l12 i11->(ew x21 k10)/\∀ r39:(List J) × Int,r39=bh x21 k10->∀ l45:List aw,l45=l12.set i11.toNat r39.1->(cL (i11+1))/\∀ v49:Int,v49=i11+1->K15 (r39.2,v49,l45))/\(c18=false->Z (l12,k10)))) (k_,0,a)
theorem sX (l:List aw) (k:Int) (h:fW l k):iJ l k (fun z=>z=c9 l k):=by
 unfold iJ;obtain⟨h0,h1,h2,h3⟩:=h;refine aI.up l.length (fun s=>s.2.1) (fun i t=>(fj bh l k i,(i:Int),t)) (fun _ _=>rfl) (fun i out=>out=eh bh l k i) l (by simp[fj,aZ]) (pK _ _ _).symm ?_;rintro i out K hk rfl IH;have hl:=lD bh l k i;have hs:=kC bh (sz:=bK) dI l k i;have hs2:=kg (f:=bK) l i;simp only[forall_eq,decide_eq_true_eq,decide_eq_false_iff_not,cL,Int.toNat_natCast,List.length_set];refine⟨fun h4=>?_,fun h4=>?_⟩
 ·have hi:i<l.length:=by omega
  have hs3:=kC bh (sz:=bK) dI l k (i+1);have hs4:=kg (f:=bK) l (i+1);have hs5:=kr bh (k:=k) hi;rw[dI] at hs5;have hz:bK l[i]=3 * l[i].length:=rfl;have U:=h2 _ (List.getElem_mem hi);simp only[qI bh hi];refine⟨by omega,⟨by omega,by omega,by omega⟩,by omega,?_⟩;have:=IH hi _ rfl;rw[<- qp _ hi,kr _ hi] at this;simpa using this
 ·rw[show i=l.length by omega,qx,qo]
def fm:List aw->Int->Int
 | [],k=>k
 | x::l,k=>if cr x k<0 then -1 else fm l (cr x k)
structure eH (l:List aw) (k:Int):Prop where
 k0:0<=k
 len:l.length<=1048576
 each:∀ x ∈ l,x.length<=1048576
 sum:k+(l.map bK).sum<=1152921504606846976
theorem qv (x:aw) (k:Int):cr x k = -1\/cr x k=k+3 * x.length:=by
 rw[cr];split
 ·exact .inr (by simp)
 ·exact .inl rfl
def iG (a:List aw) (k_:Int) (Z:Int->Prop):Prop:=
 aI (σ:=Int × Int) (fun (k5,i6) K9=>∀ kA:Int,kA=(a.length:Int)->∀ c12:Bool,c12=decide (i6<kA)->((c12=true->(0<=i6/\i6<a.length)/\∀ x15:aw,x15=at' a i6->(gz x15 k5)/\∀ r18:Int,r18=cr x15 k5->∀ c19:Bool,c19=decide (r18<0)->((c19=true->Z (-1))/\(c19=false->(cL (i6+1))/\∀ v23:Int,v23=i6+1->K9 (r18,v23))))/\(c12=false->Z k5))) (k_,0)
theorem tl (l:List aw) (k:Int) (h:eH l k):iG l k (fun z=>z=fm l k):=by
 unfold iG;obtain⟨h0,h1,h2,h3⟩:=h;simp only[forall_eq,decide_eq_true_eq,decide_eq_false_iff_not];refine aI.upR l.length (fun i (t:Int)=>(0<=t/\t+((l.drop i).map bK).sum<=1152921504606846976)/\fm (l.drop i) t=fm l k) k ⟨⟨h0,by simpa using h3⟩,by simp⟩ ?_;rintro i t K hi ⟨⟨ht0,ht⟩,hI⟩ IH;dsimp only;refine⟨fun hc=>?_,fun hc=>?_⟩
 ·have hi2:i<l.length:=by omega
  rw[c7 hi2];have U:=h2 _ (List.getElem_mem hi2);rw[List.drop_eq_getElem_cons hi2,List.map_cons,List.sum_cons] at ht;rw[List.drop_eq_getElem_cons hi2,fm] at hI;have hz:bK l[i]=3 * l[i].length:=rfl;have hor:=qv l[i] t;refine⟨⟨by omega,by omega⟩,⟨by omega,by omega,by omega⟩,fun h4=>?_,fun h4=>⟨by simp only[cL];omega,IH hi2 _ ⟨⟨by omega,by omega⟩,?_⟩⟩⟩
  ·rw[if_pos h4] at hI;exact hI
  ·rw[if_neg h4] at hI;exact hI
 ·rw[show i=l.length by omega,List.drop_length] at hI;exact hI
theorem kp:∀ (l:List aw) (k:Int),0<=k->fm (c9 l k).1 k=(c9 l k).2
 | [],k,_=>rfl
 | x::l,k,h=>by
  have e:=nt x k;have e2:=dI x k;simp only[c9,aZ,fm];rw[e,if_neg (by omega)];exact kp l _ (by omega)
abbrev tP (_:aw):Bool:=true
abbrev lk (p:aw):Prop:=Small p
def iL (aP:aw) (Z:Bool->Prop):Prop:=
 (((0:Int)<=1048576/\(1048576:Int)<=1048576)/\Small aP)/\∀ r5:Int,r5=wh aP 1048576->∀ c6:Bool,c6=decide (r5<0)->((c6=true->Z true)/\(c6=false->(ck aP)/\∀ r9:aw,r9=toProcess aP->(ej r9)/\∀ r21:(List aw) × Bool,r21=cN r9->(ck aP)/\∀ r24:aw,r24=toProcess aP->(dH r24)/\∀ r40:(List aw) × Bool,r40=aY r24->ed (fun (J55:Bool->Prop)=>(fQ r40.1 r21.1)/\∀ r154:Bool,r154=po r40.1 r21.1->((r154=true->∀ c155:Bool,c155 = !(r40.2 == r21.2)->J55 (c155))/\(r154=false->J55 (true)))) (fun b58=>((b58=true->Z false)/\(b58=false->(ck aP)/\∀ r64:aw,r64=toProcess aP->(r24.length<=1048576)/\∀ r66:Bool,r66=decide (r24=r64)->((r66=true->(ek r24 1)/\∀ r68:aw × Int,r68=dZ r24 1->ed (fun (J79:Bool->Prop)=>∀ c147:Bool,c147=decide (r68.2<0)->((c147=true->J79 (true))/\(c147=false->(fQ r40.1 r21.1)/\∀ r150:Bool,r150=po r40.1 r21.1->((r150=true->∀ c151:Bool,c151 = !(r40.2 == r21.2)->J79 (c151))/\(r150=false->J79 (true)))))) (fun b82=>((b82=true->Z false)/\(b82=false->(fW r40.1 1)/\∀ r87:(List aw) × Int,r87=c9 r40.1 1->(eH r87.1 1)/\∀ r97:Int,r97=fm r87.1 1->∀ c98:Bool,c98=decide (r97<0)->((c98=true->Z false)/\(c98=false->∀ c100:Bool,c100=decide (r97 ≠ r87.2)->((c100=true->Z false)/\(c100=false->(ck aP)/\∀ r103:aw,r103=toProcess aP->(dH r103)/\∀ r115:(List aw) × Bool,r115=aY r103->ed (fun (J130:Bool->Prop)=>(fQ r115.1 r21.1)/\∀ r144:Bool,r144=po r115.1 r21.1->((r144=true->∀ c145:Bool,c145 = !(r115.2 == r21.2)->J130 (c145))/\(r144=false->J130 (true)))) (fun b133=>((b133=true->Z false)/\(b133=false->(eH r87.1 1)/\∀ r138:Int,r138=fm r87.1 1->∀ c139:Bool,c139=decide (r138<0)->((c139=true->Z false)/\(c139=false->∀ c141:Bool,c141=decide (r138 ≠ r87.2)->((c141=true->Z false)/\(c141=false->Z true)))))))))))))))/\(r66=false->Z false)))))))
theorem res_ok (p:aw):(aY p).1.length<=1048576/\(∀ x ∈ (aY p).1,x.length<=8)/\((aY p).1.map bK).sum<=24 * (aY p).1.length/\(aY p).1.length<=192:=by
 have hsum:∀ l:List aw,(∀ x ∈ l,x.length<=8)->(l.map bK).sum<=24 * l.length:=by
  intro l
  induction l with
  | nil=>simp
  | cons x l ih=>
   intro h;have h1:=h x (by simp);have h2:=ih fun y hy=>h y (by simp[hy])
   have h3:bK x=3 * x.length:=rfl;simp only[List.map_cons,List.sum_cons,List.length_cons,Nat.mul_succ];omega
 have hx:∀ x ∈ (aY p).1,x.length<=8:=by
  intro x hx;unfold aY at hx
  split at hx
  ·obtain⟨t,_,rfl⟩:=List.mem_map.1 hx;exact (fa t).len
  ·simp at hx
 have hl:(aY p).1.length<=192:=by
  unfold aY
  split
  ·rename_i hg
   rw[List.length_map];exact ku (ca hg)
  ·simp
 exact⟨by omega,hx,hsum _ hx,hl⟩
theorem kh:∀ (l:List aw) (k:Int),(c9 l k).1.length=l.length/\((∀ x ∈ l,x.length<=8)->∀ x ∈ (c9 l k).1,x.length<=8)/\((c9 l k).1.map bK).sum=(l.map bK).sum/\(c9 l k).2=k+(((l.map bK).sum:Nat):Int)
 | [],k=>⟨rfl,by simp[aZ],rfl,by simp[aZ]⟩
 | x::l,k=>by
  obtain⟨h1,h2,h3,h4⟩:=kh l (bh x k).2;have e:=dI x k;have el:(bh x k).1.length=x.length:=l6 _ _ _ _;have er:bK (bh x k).1=bK x:=by rw[bK,bK,el]
  refine⟨?_,fun h y hy=>?_,?_,?_⟩
  ·simp only[c9,aZ,List.length_cons] at h1 ⊢;omega
  ·simp only[c9,aZ,List.mem_cons] at hy;rcases hy with rfl | hy
   ·have:=h x (by simp);omega
   ·exact h2 (fun z hz=>h z (by simp[hz])) y hy
  ·simp only[c9,aZ,List.map_cons,List.sum_cons] at h3 ⊢;omega
  ·simp only[c9,aZ,List.map_cons,List.sum_cons] at h4 ⊢;omega
theorem su (p:aw) (h:lk p):iL p (fun y=>y=tP p):=by
 unfold iL;simp only[forall_eq,decide_eq_true_eq,decide_eq_false_iff_not,toProcess,cN];refine⟨⟨by omega,h⟩,fun _=>trivial,fun h1=>?_⟩;have hp:=vq h1 (by omega);have hT:ck p:=hp.1;obtain⟨r1,r2,r3,r4⟩:=res_ok p;generalize aY p=al at *;have hE:fQ al.1 al.1:=⟨r1,fun x hx=>by have:=r2 x hx;omega⟩
 have hk:(dZ p 1).2=1+3 * p.length:=rfl;obtain⟨k1,k2,k3,k4⟩:=kh al.1 1;have hm:fW al.1 1:=⟨by omega,r1,fun x hx=>by have:=r2 x hx;omega,by omega⟩
 have E:=kp al.1 1 (by omega);have hH:eH (c9 al.1 1).1 1:=⟨by omega,by omega,fun x hx=>by have:=k2 r2 x hx;omega,by rw[k3];omega⟩
 refine⟨hT,hp,hT,hp,fun c=>c=false,⟨hE,fun _=>by simp,fun h=>absurd trivial h⟩,?_⟩;rintro _ rfl;refine⟨fun h=>(by cases h),fun _=>⟨hT,hp.1,fun _=>⟨⟨by omega,by omega,by omega⟩,fun c=>c=false,⟨fun h=>by omega,fun _=>⟨hE,fun _=>by simp,fun h=>absurd trivial h⟩⟩,?_⟩,fun h=>absurd trivial h⟩⟩;rintro _ rfl;refine⟨fun h=>(by cases h),fun _=>⟨hm,hH,fun h=>by omega,fun _=>⟨fun h=>absurd E h,fun _=>⟨hT,hp,fun c=>c=false,⟨hE,fun _=>by simp,fun h=>absurd trivial h⟩,?_⟩⟩⟩⟩;rintro _ rfl;exact⟨fun h=>(by cases h),fun _=>⟨hH,fun h=>by omega,fun _=>⟨fun h=>absurd E h,fun _=>trivial⟩⟩⟩
end Go.Ab.Vg
