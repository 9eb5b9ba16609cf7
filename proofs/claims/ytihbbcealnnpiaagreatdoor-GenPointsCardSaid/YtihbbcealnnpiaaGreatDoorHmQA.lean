/- Parts of the proof. -/
import Derived.Test.YtihbbcealnnpiaaGreatDoorHmQC
import Derived.Test.YtihbbcealnnpiaaGreatDoorHmQB2
set_option linter.unusedVariables false
set_option linter.unusedSectionVars false
namespace Go.Proofs.YtihbbcealnnpiaaGreatDoor
noncomputable section
section
open Go.RowKit
set_option maxRecDepth 100000
set_option maxHeartbeats 0
def Q_N(g:(i:Q_C)→Option (Q_T i)):(i:Q_C)→Option (Q_T i)
 |.c0 a b=>Qb0 g a b
 |.c1 a b c=>Qb1 g a b c
 |.c2 a b c d=>Qb2 g a b c d
 |.c3 a b c d=>Qb3 g a b c d
 |.c4 a=>Qb4 g a
 |.c5 a b=>Qb5 g a b
 |.c6 a b c d e=>Qb6 g a b c d e
 |.c7 a b=>Qb7 g a b
 |.c8 a=>Qb8 g a
 |.c9 a=>Qb9 g a
 |.c10 a=>jT g a
 |.c11=>BE g
 |.c12 a b=>Ra g a b
 |.c13 a b=>Xj g a b
 |.c14 a=>Sg g a
 |.c15 a=>dQ g a
 |.c16 a b=>Su g a b
 |.c17=>fK g
 |.c18 a=>kU g a
 |.c19 a=>aW g a
 |.c20 a=>bS g a
 |.c21 a=>dV g a
 |.c22 a b c=>We g a b c
 |.c23 a b=>qU g a b
 |.c24 a b=>dW g a b
 |.c25 a b=>jU g a b
 |.c26 a b c d=>Ug g a b c d
 |.c27 a b=>eZ g a b
 |.c28 a b c=>qB g a b c
 |.c29 a b c=>aZ g a b c
 |.c30 a b=>aT g a b
 |.c31 a b c=>Ui g a b c
 |.c32 a b c=>kW g a b c
 |.c33 a b c d e f=>Rx g a b c d e f
 |.c34 a b c d e f=>bR g a b c d e f
 |.c35 a b c d=>oP g a b c d
 |.c36 a b c d e f=>aH g a b c d e f
 |.c37 a=>mP g a
 |.c38 a=>gS g a
 |.c39 a=>fI g a
 |.c40=>yK g
 |.c41 a=>cB g a
 |.c42 a b c=>lP g a b c
 |.c43 a b c=>pV g a b c
 |.c44 a b c d=>Pc g a b c d
 |.c45 a=>cY g a
 |.c46 a b c=>Yc g a b c
 |.c47 a b c=>nF g a b c
 |.c48 a b=>lM g a b
 |.c49 a b=>pU g a b
 |.c50 a b c=>Rm g a b c
 |.c51 a b=>kT g a b
 |.c52 a b c=>Qu g a b c
 |.c53=>kK g
 |.c54 a=>qZ g a
 |.c55 a b c d e f=>dR g a b c d e f
 |.c56 a b c d e=>Zt g a b c d e
 |.c57 a=>qW g a
 |.c58 a=>dG g a
 |.c59 a b=>oI g a b
 |.c60 a b c d e=>qG g a b c d e
 |.c61 a b=>jJ g a b
 |.c62 a b=>lA g a b
 |.c63 a b=>mM g a b
 |.c64 a b=>sG g a b
 |.c65 a b=>nJ g a b
 |.c66 a b=>mE g a b
 |.c67 a b=>nR g a b
 |.c68 a=>iI g a
 |.c69 a b c=>Qz g a b c
 |.c70 a b=>gD g a b
 |.c71 a b=>lX g a b
 |.c72 a=>Zr g a
 |.c73 a b c d=>dB g a b c d
 |.c74 a b c d=>bN g a b c d
 |.c75 a b=>rG g a b
 |.c76 a=>fO g a
 |.c77 a b c=>oG g a b c
 |.c78 a b c=>mW g a b c
 |.c79 a b=>kH g a b
 |.c80 a=>rC g a
 |.c81 a b=>oV g a b
 |.c82 a b=>iH g a b
 |.c83 a=>dO g a
 |.c84 a=>lW g a
 |.c85 a b=>mX g a b
 |.c86 a b=>Yz g a b
 |.c87 a b=>kE g a b
 |.c88 a=>rB g a
 |.c89 a b=>nY g a b
 |.c90 a=>Zw g a
 |.c91 a b=>Qv g a b
 |.c92 a b c d e=>Rd g a b c d e
 |.c93 a b c d e f=>Wb g a b c d e f
 |.c94 a b c d e=>cE g a b c d e
 |.c95 a b=>aO g a b
 |.c96 a=>Yu g a
 |.c97 a b c=>Rr g a b c
 |.c98 a b c=>Vu g a b c
 |.c99 a b=>mR g a b
 |.c100 a b=>sD g a b
 |.c101 a b c=>eF g a b c
 |.c102 a b c=>qJ g a b c
 |.c103 a=>mU g a
 |.c104 a b c=>hY g a b c
 |.c105 a b c=>jM g a b c
 |.c106 a=>eK g a
 |.c107 a b c d e=>nB g a b c d e
 |.c108 a b c d e=>fM g a b c d e
 |.c109 a b c d e=>bT g a b c d e
 |.c110 a b c d e f=>kF g a b c d e f
 |.c111 a=>Zj g a
 |.c112 a b=>eM g a b
 |.c113 a b c=>kZ g a b c
 |.c114 a b=>gW g a b
 |.c115 a b=>mO g a b
 |.c116 a b=>dH g a b
 |.c117 a=>kP g a
 |.c118 a b=>gZ g a b
 |.c119 a b c d=>Ty g a b c d
 |.c120 a=>jG g a
 |.c121 a b=>cO g a b
 |.c122 a b c d=>Ve g a b c d
 |.c123 a b c=>Sy g a b c
 |.c124 a=>kB g a
 |.c125 a b=>bA g a b
 |.c126 a b=>Yd g a b
 |.c127 a=>aY g a
 |.c128 a=>Yv g a
 |.c129 a=>oH g a
 |.c130 a=>jF g a
 |.c131 a=>qM g a
 |.c132 a=>bP g a
 |.c133 a=>kV g a
 |.c134 a=>cX g a
 |.c135 a=>kO g a
 |.c136=>pC g
 |.c137 a b=>bH g a b
 |.c138 a b c=>Vp g a b c
 |.c139=>eE g
 |.c140 a b=>sC g a b
 |.c141 a b c d e=>Wh g a b c d e
 |.c142 a b c d=>eO g a b c d
 |.c143 a b c d=>lS g a b c d
 |.c144 a=>jX g a
 |.c145 a b=>Vc g a b
 |.c146=>dT g
 |.c147 a=>BR g a
 |.c148 a b=>kS g a b
 |.c149 a b c=>Wm g a b c
 |.c150=>sT g
 |.c151 a b=>jW g a b
 |.c152 a b c d e=>Uh g a b c d e
 |.c153 a=>mY g a
 |.c154 a b c=>eY g a b c
 |.c155 a b c d=>Wt g a b c d
 |.c156=>gQ g
 |.c157 a=>qQ g a
 |.c158 a b c=>Qg g a b c
 |.c159 a=>bY g a
 |.c160 a b c=>Ke g a b c
 |.c161 a b=>oW g a b
 |.c162 a b c d=>Rl g a b c d
 |.c163 a b c=>qV g a b c
 |.c164 a=>oA g a
 |.c165 a b c=>iE g a b c
 |.c166 a b c d=>Vk g a b c d
 |.c167=>mL g
 |.c168 a b c=>sW g a b c
 |.c169 a b c d=>oT g a b c d
 |.c170 a b=>cU g a b
 |.c171 a b c=>cS g a b c
 |.c172 a b c=>eB g a b c
 |.c173 a b=>bK g a b
 |.c174 a b c=>jC g a b c
 |.c175 a=>kL g a
 |.c176 a b c d=>Xp g a b c d
 |.c177 a b c d=>Zk g a b c d
 |.c178 a b c d=>mA g a b c d
 |.c179 a b c=>iA g a b c
 |.c180 a b c d e=>Yl g a b c d e
 |.c181 a b c d=>Wr g a b c d
 |.c182 a b c d e f h j=>Vh g a b c d e f h j
 |.c183 a=>aC g a
 |.c184 a b c d e f h j=>qK g a b c d e f h j
 |.c185 a b c d e f h j=>pY g a b c d e f h j
 |.c186 a b c d e f h=>lK g a b c d e f h
 |.c187 a b c d e f h j k=>gM g a b c d e f h j k
 |.c188 a b c d e=>jL g a b c d e
 |.c189 a=>iS g a
 |.c190 a b=>Um g a b
 |.c191=>dK g
 |.c192 a b c=>Zp g a b c
 |.c193 a b c=>rE g a b c
 |.c194 a b=>lE g a b
 |.c195 a=>mD g a
 |.c196 a b c d=>Wc g a b c d
 |.c197 a b c d e f h j=>Xn g a b c d e f h j
 |.c198 a b c d e f=>pN g a b c d e f
 |.c199 a=>dJ g a
 |.c200 a b c d e f h j=>oK g a b c d e f h j
 |.c201 a b c d e f h j=>rN g a b c d e f h j
 |.c202 a b c d e f h=>cC g a b c d e f h
 |.c203 a b c d e f=>bI g a b c d e f
 |.c204 a b c d e f h j=>mH g a b c d e f h j
 |.c205 a b c d e=>rV g a b c d e
 |.c206 a b c d e=>Zi g a b c d e
 |.c207 a b c d e f h=>eS g a b c d e f h
 |.c208 a b c=>Ky g a b c
 |.c209 a b c=>Yj g a b c
 |.c210 a b=>kC g a b
 |.c211 a b c d=>cH g a b c d
 |.c212 a b c d e=>Mc g a b c d e
 |.c213 a b c d e f h j=>Td g a b c d e f h j
 |.c214 a b c d e f=>iW g a b c d e f
 |.c215 a=>Qk g a
 |.c216 a b c d e f=>sQ g a b c d e f
 |.c217 a b c d e=>Ip g a b c d e
 |.c218 a b c d e=>rR g a b c d e
 |.c219 a b c d e=>Tl g a b c d e
 |.c220 a b c d e f h j k=>Xc g a b c d e f h j k
 |.c221 a b c d e f h j=>qD g a b c d e f h j
 |.c222 a b=>eN g a b
 |.c223 a b c d e f h j=>Yo g a b c d e f h j
 |.c224 a b c d e f h j=>mG g a b c d e f h j
 |.c225 a b c d=>bO g a b c d
 |.c226 a b c d e f=>Wi g a b c d e f
 |.c227 a b c=>rT g a b c
 |.c228 a b c d e=>Ww g a b c d e
 |.c229 a b=>pJ g a b
 |.c230 a b=>bW g a b
 |.c231 a b c d e=>Xx g a b c d e
 |.c232 a b c d=>Yt g a b c d
 |.c233 a=>fW g a
 |.c234 a b c=>Jw g a b c
 |.c235 a=>Vt g a
 |.c236 a b=>Zo g a b
 |.c237 a=>kR g a
 |.c238 a=>Qd g a
 |.c239 a b c=>sM g a b c
 |.c240 a b c=>qR g a b c
 |.c241 a b c=>dL g a b c
 |.c242 a b c=>cQ g a b c
 |.c243 a=>iB g a
 |.c244 a b=>oN g a b
 |.c245 a b c=>gO g a b c
 |.c246 a b=>lB g a b
 |.c247 a b c d e=>Re g a b c d e
 |.c248 a b c d=>Zh g a b c d
 |.c249 a b c d e=>Up g a b c d e
 |.c250 a b c d e=>Wl g a b c d e
 |.c251 a b=>fY g a b
 |.c252 a b=>nD g a b
 |.c253 a b c=>jD g a b c
 |.c254 a b=>pQ g a b
 |.c255 a b c d=>Tn g a b c d
 |.c256 a b=>nN g a b
 |.c257 a b c d=>sS g a b c d
 |.c258 a b=>Za g a b
 |.c259 a b c d e=>oS g a b c d e
 |.c260 a=>iG g a
 |.c261 a b=>lL g a b
 |.c262=>AP g
 |.c263 a b c=>fC g a b c
 |.c264 a b=>Zm g a b
 |.c265 a b c=>pR g a b c
 |.c266 a b c d=>gU g a b c d
 |.c267 a b c d e=>bE g a b c d e
 |.c268 a b c d e=>qO g a b c d e
 |.c269 a b=>Gv g a b
 |.c270 a b c d=>gX g a b c d
 |.c271 a b c d=>Sn g a b c d
 |.c272 a b=>Yx g a b
 |.c273 a b=>sJ g a b
 |.c274 a b=>iQ g a b
 |.c275 a b c d=>Rq g a b c d
 |.c276 a b=>fD g a b
 |.c277 a=>qX g a
 |.c278 a b c d=>Sz g a b c d
 |.c279 a b=>dD g a b
 |.c280 a=>rY g a
 |.l16_source a=>pL g a
 |.c282 a b=>aG g a b
 |.c283 a b c d=>Xr g a b c d
 |.c284 a b=>nP g a b
 |.c285 a b c d=>pO g a b c d
 |.c286 a=>Qa g a
 |.c287 a b=>cR g a b
 |.c288 a b=>rP g a b
 |.c289 a b c d=>Sj g a b c d
 |.c290 a b c=>Yf g a b c
 |.c291 a b=>sN g a b
 |.c292 a b c d e f h=>Xk g a b c d e f h
 |.c293 a b c d=>dU g a b c d
 |.c294 a b c=>lN g a b c
 |.c295 a b c d e=>rD g a b c d e
 |.c296 a b c d=>oY g a b c d
 |.c297 a b c=>nK g a b c
 |.c298 a b c d e=>Wo g a b c d e
 |.c299 a b c=>aF g a b c
 |.c300 a b=>rZ g a b
 |.c301 a b=>Rf g a b
 |.c302 a b=>iZ g a b
 |.c303 a b c=>Uv g a b c
 |.c304 a=>lH g a
 |.c305 a b c=>Vm g a b c
 |.c306 a b c d e f=>lT g a b c d e f
 |.c307 a=>fB g a
 |.c308 a b c d=>gV g a b c d
 |.c309 a b=>KR g a b
 |.l16_awake=>UP g
 |.c311 a b=>cP g a b
 |.c312 a b c=>Wx g a b c
 |.c313 a b c d e f=>Kz g a b c d e f
 |.c314=>nI g
 |.c315 a b c=>pF g a b c
 |.l16_GenPoints a=>sR g a
 |.c317 a b c d=>Xg g a b c d
 |.c318 a b c d e f=>Ur g a b c d e f
 |.c319 a b c=>pS g a b c
 |.c320 a b c d=>pP g a b c d
 |.c321 a b=>pK g a b
 |.c322 a b c d=>Tw g a b c d
 |.c323 a b c d e f=>qC g a b c d e f
 |.c324 a=>iU g a
 |.c325 a b c d=>pZ g a b c d
 |.c326 a b=>kI g a b
 |.c327 a b c d=>XY g a b c d
 |.c328 a b=>JY g a b
 |.c329 a b c d=>NX g a b c d
 |.c330 a b=>IY g a b
 |.c331 a b=>IG g a b
 |.c332 a b c=>XT g a b c
 |.c333 a b c d e=>KT g a b c d e
 |.c334 a b c d=>SK g a b c d
 |.c335 a b c d=>FD g a b c d
 |.c336 a b c d=>NT g a b c d
 |.c337 a b c d=>WP g a b c d
 |.c338 a b c d=>RH g a b c d
 |.c339 a b=>UI g a b
 |.c340 a b=>QB g a b
 |.c341 a b c d=>II g a b c d
 |.c342 a b=>WW g a b
 |.c343 a=>UM g a
 |.c344 a b c d e=>SU g a b c d e
 |.c345 a b c d e f h j=>WO g a b c d e f h j
 |.c346 a b c=>PR g a b c
 |.c347 a b c d e=>YK g a b c d e
 |.c348 a b=>VU g a b
 |.c349 a b c=>XG g a b c
 |.c350 a b=>FJ g a b
 |.c351 a b c=>NJ g a b c
 |.c352 a b=>RQ g a b
 |.c353 a b c=>PE g a b c
 |.c354=>GG g
theorem b2h(g:Gt tab O3)(i:Q_C):mS (Q_B g) i=Q_N (mS g) i:=by cases i<;>as_aux_lemma=>kernel_rfl
theorem f7(i:Q_C):d5 i=Q_N d5 i:=(ZD i).trans (b2h _ i)
theorem a80(i:Q_C):G6 (fun g=>Q_N g i):=by
 cases i
 all_goals dsimp only[Q_N,Qb0,Qb1,Qb2,Qb3,Qb4,Qb5,Qb6,Qb7,Qb8,Qb9,jT,BE,Ra,Xj,Sg,dQ,Su,fK,kU,aW,bS,dV,We,qU,dW,jU,Ug,eZ,qB,aZ,aT,Ui,kW,Rx,bR,oP,aH,mP,gS,fI,yK,cB,lP,pV,Pc,cY,Yc,nF,lM,pU,Rm,kT,Qu,kK,qZ,dR,Zt,qW,dG,oI,qG,jJ,lA,mM,sG,nJ,mE,nR,iI,Qz,gD,lX,Zr,dB,bN,rG,fO,oG,mW,kH,rC,oV,iH,dO,lW,mX,Yz,kE,rB,nY,Zw,Qv,Rd,Wb,cE,aO,Yu,Rr,Vu,mR,sD,eF,qJ,mU,hY,jM,eK,nB,fM,bT,kF,Zj,eM,kZ,gW,mO,dH,kP,gZ,Ty,jG,cO,Ve,Sy,kB,bA,Yd,aY,Yv,oH,jF,qM,bP,kV,cX,kO,pC,bH,Vp,eE,sC,Wh,eO,lS,jX,Vc,dT,BR,kS,Wm,sT,jW,Uh,mY,eY,Wt,gQ,qQ,Qg,bY,Ke,oW,Rl,qV,oA,iE,Vk,mL,sW,oT,cU,cS,eB,bK,jC,kL,Xp,Zk,mA,iA,Yl,Wr,Vh,aC,qK,pY,lK,gM,jL,iS,Um,dK,Zp,rE,lE,mD,Wc,Xn,pN,dJ,oK,rN,cC,bI,mH,rV,Zi,eS,Ky,Yj,kC,cH,Mc,Td,iW,Qk,sQ,Ip,rR,Tl,Xc,qD,eN,Yo,mG,bO,Wi,rT,Ww,pJ,bW,Xx,Yt,fW,Jw,Vt,Zo,kR,Qd,sM,qR,dL,cQ,iB,oN,gO,lB,Re,Zh,Up,Wl,fY,nD,jD,pQ,Tn,nN,sS,Za,oS,iG,lL,AP,fC,Zm,pR,gU,bE,qO,Gv,gX,Sn,Yx,sJ,iQ,Rq,fD,qX,Sz,dD,rY,pL,aG,Xr,nP,pO,Qa,cR,rP,Sj,Yf,sN,Xk,dU,lN,rD,oY,nK,Wo,aF,rZ,Rf,iZ,Uv,lH,Vm,lT,fB,gV,KR,UP,cP,Wx,Kz,nI,pF,sR,Xg,Ur,pS,pP,pK,Tw,qC,iU,pZ,kI,XY,JY,NX,IY,IG,XT,KT,SK,FD,NT,WP,RH,UI,QB,II,WW,UM,SU,WO,PR,YK,VU,XG,FJ,NJ,RQ,PE,GG]
 all_goals repeat(first|exact CH _|exact P5 _|refine zH ?_ (fun _=>?_)|refine a3E _ ?_ ?_)
theorem a4H{i:Q_C}{r:Q_T i}(h:G4 Q_N i=some r):d5 i=some r:=a9p a80 f7 h
end
section
open Go.RowKit
set_option maxRecDepth 100000
set_option maxHeartbeats 4000000
theorem MH a b:AR d5 a b=Qb0 d5 a b:=f7 (.c0 a b)
theorem LF a b c:Cd d5 a b c=Qb1 d5 a b c:=f7 (.c1 a b c)
theorem b0o a b c d:bJ d5 a b c d=Qb2 d5 a b c d:=f7 (.c2 a b c d)
theorem YX a b c d:rJ d5 a b c d=Qb3 d5 a b c d:=f7 (.c3 a b c d)
theorem a5E a:IX d5 a=Qb4 d5 a:=f7 (.c4 a)
theorem a6y a b:UH d5 a b=Qb5 d5 a b:=f7 (.c5 a b)
theorem FP a b c d e:Pp d5 a b c d e=Qb6 d5 a b c d e:=f7 (.c6 a b c d e)
theorem b2b a b:WA d5 a b=Qb7 d5 a b:=f7 (.c7 a b)
theorem a2i a:Gj d5 a=Qb8 d5 a:=f7 (.c8 a)
theorem YS a:Yh d5 a=Qb9 d5 a:=f7 (.c9 a)
theorem a61 a:So d5 a=jT d5 a:=f7 (.c10 a)
theorem b1V:rS d5=BE d5:=f7 (.c11)
theorem WF a b:wE d5 a b=Ra d5 a b:=f7 (.c12 a b)
theorem QH a b:iO d5 a b=Xj d5 a b:=f7 (.c13 a b)
theorem IM a:BH d5 a=Sg d5 a:=f7 (.c14 a)
theorem b2A a:CA d5 a=dQ d5 a:=f7 (.c15 a)
theorem IN a b:jN d5 a b=Su d5 a b:=f7 (.c16 a b)
theorem ZO:FY d5=fK d5:=f7 (.c17)
theorem b3f a:YQ d5 a=kU d5 a:=f7 (.c18 a)
theorem b2j a:OR d5 a=aW d5 a:=f7 (.c19 a)
theorem YR a:MG d5 a=bS d5 a:=f7 (.c20 a)
theorem b0j a:BV d5 a=dV d5 a:=f7 (.c21 a)
theorem VC a b c:Yr d5 a b c=We d5 a b c:=f7 (.c22 a b c)
theorem a6P a b:Zn d5 a b=qU d5 a b:=f7 (.c23 a b)
theorem b2W a b:Qe d5 a b=dW d5 a b:=f7 (.c24 a b)
theorem b3y a b:zL d5 a b=jU d5 a b:=f7 (.c25 a b)
theorem RL a b c d:mV d5 a b c d=Ug d5 a b c d:=f7 (.c26 a b c d)
theorem ZB a b:nU d5 a b=eZ d5 a b:=f7 (.c27 a b)
theorem a3X a b c:jP d5 a b c=qB d5 a b c:=f7 (.c28 a b c)
theorem a2j a b c:OD d5 a b c=aZ d5 a b c:=f7 (.c29 a b c)
theorem a1C a b:UT d5 a b=aT d5 a b:=f7 (.c30 a b)
theorem OU a b c:jI d5 a b c=Ui d5 a b c:=f7 (.c31 a b c)
theorem a8j a b c:kG d5 a b c=kW d5 a b c:=f7 (.c32 a b c)
theorem WR a b c d e f:Zz d5 a b c d e f=Rx d5 a b c d e f:=f7 (.c33 a b c d e f)
theorem a6J a b c d e f:aL d5 a b c d e f=bR d5 a b c d e f:=f7 (.c34 a b c d e f)
theorem b0d a b c d:qF d5 a b c d=oP d5 a b c d:=f7 (.c35 a b c d)
theorem b3F a b c d e f:jZ d5 a b c d e f=aH d5 a b c d e f:=f7 (.c36 a b c d e f)
theorem b0D a:Uc d5 a=mP d5 a:=f7 (.c37 a)
theorem a31 a:eW d5 a=gS d5 a:=f7 (.c38 a)
theorem a7l a:lO d5 a=fI d5 a:=f7 (.c39 a)
theorem a0E:jE d5=yK d5:=f7 (.c40)
theorem a19 a:EV d5 a=cB d5 a:=f7 (.c41 a)
theorem b1J a b c:qL d5 a b c=lP d5 a b c:=f7 (.c42 a b c)
theorem a3F a b c:aV d5 a b c=pV d5 a b c:=f7 (.c43 a b c)
theorem tC a b c d:wJ d5 a b c d=Pc d5 a b c d:=f7 (.c44 a b c d)
theorem a5H a:VW d5 a=cY d5 a:=f7 (.c45 a)
theorem a5u a b c:Jb d5 a b c=Yc d5 a b c:=f7 (.c46 a b c)
theorem a1p a b c:XJ d5 a b c=nF d5 a b c:=f7 (.c47 a b c)
theorem a2o a b:Xy d5 a b=lM d5 a b:=f7 (.c48 a b)
theorem a9R a b:Zb d5 a b=pU d5 a b:=f7 (.c49 a b)
theorem FM a b c:Ry d5 a b c=Rm d5 a b c:=f7 (.c50 a b c)
theorem a64 a b:TQ d5 a b=kT d5 a b:=f7 (.c51 a b)
theorem GW a b c:nW d5 a b c=Qu d5 a b c:=f7 (.c52 a b c)
theorem b1W:LE d5=kK d5:=f7 (.c53)
theorem a5q a:sL d5 a=qZ d5 a:=f7 (.c54 a)
theorem a62 a b c d e f:sO d5 a b c d e f=dR d5 a b c d e f:=f7 (.c55 a b c d e f)
theorem ZV a b c d e:hD d5 a b c d e=Zt d5 a b c d e:=f7 (.c56 a b c d e)
theorem a9i a:An d5 a=qW d5 a:=f7 (.c57 a)
theorem a1A a:R6 d5 a=dG d5 a:=f7 (.c58 a)
theorem a2E a b:E3 d5 a b=oI d5 a b:=f7 (.c59 a b)
theorem b1m a b c d e:F5 d5 a b c d e=qG d5 a b c d e:=f7 (.c60 a b c d e)
theorem a8X a b:Cy d5 a b=jJ d5 a b:=f7 (.c61 a b)
theorem a4u a b:I2 d5 a b=lA d5 a b:=f7 (.c62 a b)
theorem a1l a b:Ew d5 a b=mM d5 a b:=f7 (.c63 a b)
theorem a75 a b:rL d5 a b=sG d5 a b:=f7 (.c64 a b)
theorem a1e a b:Z7 d5 a b=nJ d5 a b:=f7 (.c65 a b)
theorem a6p a b:nA d5 a b=mE d5 a b:=f7 (.c66 a b)
theorem a79 a b:Be d5 a b=nR d5 a b:=f7 (.c67 a b)
theorem a7d a:Jo d5 a=iI d5 a:=f7 (.c68 a)
theorem XL a b c:lY d5 a b c=Qz d5 a b c:=f7 (.c69 a b c)
theorem YW a b:AI d5 a b=gD d5 a b:=f7 (.c70 a b)
theorem b17 a b:iJ d5 a b=lX d5 a b:=f7 (.c71 a b)
theorem a4A a:CB d5 a=Zr d5 a:=f7 (.c72 a)
theorem a9w a b c d:Yy d5 a b c d=dB d5 a b c d:=f7 (.c73 a b c d)
theorem b3e a b c d:mK d5 a b c d=bN d5 a b c d:=f7 (.c74 a b c d)
theorem b3G a b:Ao d5 a b=rG d5 a b:=f7 (.c75 a b)
theorem ZZ a:GV d5 a=fO d5 a:=f7 (.c76 a)
theorem b1c a b c:iC d5 a b c=oG d5 a b c:=f7 (.c77 a b c)
theorem b0w a b c:lC d5 a b c=mW d5 a b c:=f7 (.c78 a b c)
theorem b2f a b:fH d5 a b=kH d5 a b:=f7 (.c79 a b)
theorem YT a:AX d5 a=rC d5 a:=f7 (.c80 a)
theorem b1L a b:Mu d5 a b=oV d5 a b:=f7 (.c81 a b)
theorem b06 a b:Pe d5 a b=iH d5 a b:=f7 (.c82 a b)
theorem a8e a:EL d5 a=dO d5 a:=f7 (.c83 a)
theorem b0q a:UJ d5 a=lW d5 a:=f7 (.c84 a)
theorem b2U a b:Qj d5 a b=mX d5 a b:=f7 (.c85 a b)
theorem a2x a b:cJ d5 a b=Yz d5 a b:=f7 (.c86 a b)
theorem a7H a b:uG d5 a b=kE d5 a b:=f7 (.c87 a b)
theorem a8O a:Mx d5 a=rB d5 a:=f7 (.c88 a)
theorem a1n a b:nQ d5 a b=nY d5 a b:=f7 (.c89 a b)
theorem a2D a:yB d5 a=Zw d5 a:=f7 (.c90 a)
theorem MK a b:K9 d5 a b=Qv d5 a b:=f7 (.c91 a b)
theorem IT a b c d e:mZ d5 a b c d e=Rd d5 a b c d e:=f7 (.c92 a b c d e)
theorem RG a b c d e f:Ie d5 a b c d e f=Wb d5 a b c d e f:=f7 (.c93 a b c d e f)
theorem a9v a b c d e:xD d5 a b c d e=cE d5 a b c d e:=f7 (.c94 a b c d e)
theorem YY a b:KK d5 a b=aO d5 a b:=f7 (.c95 a b)
theorem a4O a:Lw d5 a=Yu d5 a:=f7 (.c96 a)
theorem JO a b c:sZ d5 a b c=Rr d5 a b c:=f7 (.c97 a b c)
theorem IF a b c:DF d5 a b c=Vu d5 a b c:=f7 (.c98 a b c)
theorem a2M a b:Tj d5 a b=mR d5 a b:=f7 (.c99 a b)
theorem a7q a b:hH d5 a b=sD d5 a b:=f7 (.c100 a b)
theorem b2P a b c:Qi d5 a b c=eF d5 a b c:=f7 (.c101 a b c)
theorem b1P a b c:cA d5 a b c=qJ d5 a b c:=f7 (.c102 a b c)
theorem a9d a:Fa d5 a=mU d5 a:=f7 (.c103 a)
theorem a4K a b c:rU d5 a b c=hY d5 a b c:=f7 (.c104 a b c)
theorem a0g a b c:qN d5 a b c=jM d5 a b c:=f7 (.c105 a b c)
theorem a4b a:CZ d5 a=eK d5 a:=f7 (.c106 a)
theorem b1o a b c d e:rH d5 a b c d e=nB d5 a b c d e:=f7 (.c107 a b c d e)
theorem a4J a b c d e:Zg d5 a b c d e=fM d5 a b c d e:=f7 (.c108 a b c d e)
theorem a1T a b c d e:Yp d5 a b c d e=bT d5 a b c d e:=f7 (.c109 a b c d e)
theorem a0t a b c d e f:fJ d5 a b c d e f=kF d5 a b c d e f:=f7 (.c110 a b c d e f)
theorem a4s a:XX d5 a=Zj d5 a:=f7 (.c111 a)
theorem a6Y a b:iV d5 a b=eM d5 a b:=f7 (.c112 a b)
theorem a6t a b c:Tu d5 a b c=kZ d5 a b c:=f7 (.c113 a b c)
theorem b1M a b:Yi d5 a b=gW d5 a b:=f7 (.c114 a b)
theorem b03 a b:yC d5 a b=mO d5 a b:=f7 (.c115 a b)
theorem a2e a b:cZ d5 a b=dH d5 a b:=f7 (.c116 a b)
theorem a65 a:nG d5 a=kP d5 a:=f7 (.c117 a)
theorem a5L a b:O4 d5 a b=gZ d5 a b:=f7 (.c118 a b)
theorem XK a b c d:eR d5 a b c d=Ty d5 a b c d:=f7 (.c119 a b c d)
theorem b1u a:FW d5 a=jG d5 a:=f7 (.c120 a)
theorem a4X a b:Ou d5 a b=cO d5 a b:=f7 (.c121 a b)
theorem GZ a b c d:mJ d5 a b c d=Ve d5 a b c d:=f7 (.c122 a b c d)
theorem KJ a b c:tB d5 a b c=Sy d5 a b c:=f7 (.c123 a b c)
theorem a5O a:eH d5 a=kB d5 a:=f7 (.c124 a)
theorem ZQ a b:oR d5 a b=bA d5 a b:=f7 (.c125 a b)
theorem b11 a b:Ye d5 a b=Yd d5 a b:=f7 (.c126 a b)
theorem a5v a:xE d5 a=aY d5 a:=f7 (.c127 a)
theorem a6U a:bB d5 a=Yv d5 a:=f7 (.c128 a)
theorem b16 a:CP d5 a=oH d5 a:=f7 (.c129 a)
theorem b2T a:mQ d5 a=jF d5 a:=f7 (.c130 a)
theorem b2s a:Gu d5 a=qM d5 a:=f7 (.c131 a)
theorem a5r a:CE d5 a=bP d5 a:=f7 (.c132 a)
theorem a8D a:nV d5 a=kV d5 a:=f7 (.c133 a)
theorem a5p a:rK d5 a=cX d5 a:=f7 (.c134 a)
theorem a8T a:kQ d5 a=kO d5 a:=f7 (.c135 a)
theorem a8m:SR d5=pC d5:=f7 (.c136)
theorem a8P a b:Ll d5 a b=bH d5 a b:=f7 (.c137 a b)
theorem GU a b c:Zx d5 a b c=Vp d5 a b c:=f7 (.c138 a b c)
theorem a27:QR d5=eE d5:=f7 (.c139)
theorem b01 a b:yX d5 a b=sC d5 a b:=f7 (.c140 a b)
theorem YJ a b c d e:Wy d5 a b c d e=Wh d5 a b c d e:=f7 (.c141 a b c d e)
theorem b3B a b c d:CO d5 a b c d=eO d5 a b c d:=f7 (.c142 a b c d)
theorem a5T a b c d:bF d5 a b c d=lS d5 a b c d:=f7 (.c143 a b c d)
theorem a3j a:oB d5 a=jX d5 a:=f7 (.c144 a)
theorem VP a b:jB d5 a b=Vc d5 a b:=f7 (.c145 a b)
theorem a9q:GR d5=dT d5:=f7 (.c146)
theorem a14 a:N1 d5 a=BR d5 a:=f7 (.c147 a)
theorem a2k a b:rI d5 a b=kS d5 a b:=f7 (.c148 a b)
theorem KE a b c:oM d5 a b c=Wm d5 a b c:=f7 (.c149 a b c)
theorem a8h:JD d5=sT d5:=f7 (.c150)
theorem a9g a b:aU d5 a b=jW d5 a b:=f7 (.c151 a b)
theorem YA a b c d e:Wz d5 a b c d e=Uh d5 a b c d e:=f7 (.c152 a b c d e)
theorem b1D a:SD d5 a=mY d5 a:=f7 (.c153 a)
theorem a0F a b c:Lx d5 a b c=eY d5 a b c:=f7 (.c154 a b c)
theorem RC a b c d:Yn d5 a b c d=Wt d5 a b c d:=f7 (.c155 a b c d)
theorem a86:OJ d5=gQ d5:=f7 (.c156)
theorem a25 a:CU d5 a=qQ d5 a:=f7 (.c157 a)
theorem KU a b c:aA d5 a b c=Qg d5 a b c:=f7 (.c158 a b c)
theorem b1l a:tP d5 a=bY d5 a:=f7 (.c159 a)
theorem kJ a b c:Gf d5 a b c=Ke d5 a b c:=f7 (.c160 a b c)
theorem a1f a b:Ji d5 a b=oW d5 a b:=f7 (.c161 a b)
theorem ML a b c d:Uw d5 a b c d=Rl d5 a b c d:=f7 (.c162 a b c d)
theorem a36 a b c:RZ d5 a b c=qV d5 a b c:=f7 (.c163 a b c)
theorem a3c a:DD d5 a=oA d5 a:=f7 (.c164 a)
theorem a52 a b c:DC d5 a b c=iE d5 a b c:=f7 (.c165 a b c)
theorem EZ a b c d:nO d5 a b c d=Vk d5 a b c d:=f7 (.c166 a b c d)
theorem a7S:NC d5=mL d5:=f7 (.c167)
theorem a0V a b c:Pr d5 a b c=sW d5 a b c:=f7 (.c168 a b c)
theorem a4w a b c d:vD d5 a b c d=oT d5 a b c d:=f7 (.c169 a b c d)
theorem a0a a b:UN d5 a b=cU d5 a b:=f7 (.c170 a b)
theorem b3n a b c:Uz d5 a b c=cS d5 a b c:=f7 (.c171 a b c)
theorem b2g a b c:Ux d5 a b c=eB d5 a b c:=f7 (.c172 a b c)
theorem a78 a b:pM d5 a b=bK d5 a b:=f7 (.c173 a b)
theorem a7J a b c:cV d5 a b c=jC d5 a b c:=f7 (.c174 a b c)
theorem a5k a:AB d5 a=kL d5 a:=f7 (.c175 a)
theorem PV a b c d:Rc d5 a b c d=Xp d5 a b c d:=f7 (.c176 a b c d)
theorem a8d a b c d:fZ d5 a b c d=Zk d5 a b c d:=f7 (.c177 a b c d)
theorem a6l a b c d:cG d5 a b c d=mA d5 a b c d:=f7 (.c178 a b c d)
theorem b27 a b c:Qf d5 a b c=iA d5 a b c:=f7 (.c179 a b c)
theorem a9l a b c d e:KF d5 a b c d e=Yl d5 a b c d e:=f7 (.c180 a b c d e)
theorem MP a b c d:sB d5 a b c d=Wr d5 a b c d:=f7 (.c181 a b c d)
theorem WV a b c d e f h j:Oz d5 a b c d e f h j=Vh d5 a b c d e f h j:=f7 (.c182 a b c d e f h j)
theorem a1k a:SM d5 a=aC d5 a:=f7 (.c183 a)
theorem a7r a b c d e f h j:Se d5 a b c d e f h j=qK d5 a b c d e f h j:=f7 (.c184 a b c d e f h j)
theorem a2V a b c d e f h j:Xq d5 a b c d e f h j=pY d5 a b c d e f h j:=f7 (.c185 a b c d e f h j)
theorem b1U a b c d e f h:Xo d5 a b c d e f h=lK d5 a b c d e f h:=f7 (.c186 a b c d e f h)
theorem b3o a b c d e f h j k:GA d5 a b c d e f h j k=gM d5 a b c d e f h j k:=f7 (.c187 a b c d e f h j k)
theorem b0b a b c d e:JL d5 a b c d e=jL d5 a b c d e:=f7 (.c188 a b c d e)
theorem a4D a:kD d5 a=iS d5 a:=f7 (.c189 a)
theorem YB a b:gE d5 a b=Um d5 a b:=f7 (.c190 a b)
theorem a4Z:JN d5=dK d5:=f7 (.c191)
theorem a2Q a b c:Ol d5 a b c=Zp d5 a b c:=f7 (.c192 a b c)
theorem a5s a b c:Hd d5 a b c=rE d5 a b c:=f7 (.c193 a b c)
theorem a1U a b:Xw d5 a b=lE d5 a b:=f7 (.c194 a b)
theorem b2u a:uR d5 a=mD d5 a:=f7 (.c195 a)
theorem NS a b c d:Vn d5 a b c d=Wc d5 a b c d:=f7 (.c196 a b c d)
theorem HT a b c d e f h j:Lv d5 a b c d e f h j=Xn d5 a b c d e f h j:=f7 (.c197 a b c d e f h j)
theorem a4c a b c d e f:pH d5 a b c d e f=pN d5 a b c d e f:=f7 (.c198 a b c d e f)
theorem a9E a:MC d5 a=dJ d5 a:=f7 (.c199 a)
theorem a7N a b c d e f h j:Ru d5 a b c d e f h j=oK d5 a b c d e f h j:=f7 (.c200 a b c d e f h j)
theorem a0w a b c d e f h j:Wa d5 a b c d e f h j=rN d5 a b c d e f h j:=f7 (.c201 a b c d e f h j)
theorem a5h a b c d e f h:Jf d5 a b c d e f h=cC d5 a b c d e f h:=f7 (.c202 a b c d e f h)
theorem a6n a b c d e f:nZ d5 a b c d e f=bI d5 a b c d e f:=f7 (.c203 a b c d e f)
theorem a7e a b c d e f h j:MD d5 a b c d e f h j=mH d5 a b c d e f h j:=f7 (.c204 a b c d e f h j)
theorem a3J a b c d e:XI d5 a b c d e=rV d5 a b c d e:=f7 (.c205 a b c d e)
theorem b0g a b c d e:iP d5 a b c d e=Zi d5 a b c d e:=f7 (.c206 a b c d e)
theorem b1C a b c d e f h:cM d5 a b c d e f h=eS d5 a b c d e f h:=f7 (.c207 a b c d e f h)
theorem oZ a b c:Bd d5 a b c=Ky d5 a b c:=f7 (.c208 a b c)
theorem a8S a b c:Fb d5 a b c=Yj d5 a b c:=f7 (.c209 a b c)
theorem a1M a b:Si d5 a b=kC d5 a b:=f7 (.c210 a b)
theorem ZU a b c d:qS d5 a b c d=cH d5 a b c d:=f7 (.c211 a b c d)
theorem xC a b c d e:Iq d5 a b c d e=Mc d5 a b c d e:=f7 (.c212 a b c d e)
theorem LJ a b c d e f h j:Po d5 a b c d e f h j=Td d5 a b c d e f h j:=f7 (.c213 a b c d e f h j)
theorem a5n a b c d e f:fN d5 a b c d e f=iW d5 a b c d e f:=f7 (.c214 a b c d e f)
theorem PB a:ME d5 a=Qk d5 a:=f7 (.c215 a)
theorem a7h a b c d e f:ET d5 a b c d e f=sQ d5 a b c d e f:=f7 (.c216 a b c d e f)
theorem pE a b c d e:Ly d5 a b c d e=Ip d5 a b c d e:=f7 (.c217 a b c d e)
theorem b0X a b c d e:DN d5 a b c d e=rR d5 a b c d e:=f7 (.c218 a b c d e)
theorem YE a b c d e:Oh d5 a b c d e=Tl d5 a b c d e:=f7 (.c219 a b c d e)
theorem XZ a b c d e f h j k:Pw d5 a b c d e f h j k=Xc d5 a b c d e f h j k:=f7 (.c220 a b c d e f h j k)
theorem a5K a b c d e f h j:sH d5 a b c d e f h j=qD d5 a b c d e f h j:=f7 (.c221 a b c d e f h j)
theorem b2a a b:OZ d5 a b=eN d5 a b:=f7 (.c222 a b)
theorem a24 a b c d e f h j:wI d5 a b c d e f h j=Yo d5 a b c d e f h j:=f7 (.c223 a b c d e f h j)
theorem a58 a b c d e f h j:jQ d5 a b c d e f h j=mG d5 a b c d e f h j:=f7 (.c224 a b c d e f h j)
theorem a57 a b c d:iF d5 a b c d=bO d5 a b c d:=f7 (.c225 a b c d)
theorem FG a b c d e f:aQ d5 a b c d e f=Wi d5 a b c d e f:=f7 (.c226 a b c d e f)
theorem ZI a b c:BG d5 a b c=rT d5 a b c:=f7 (.c227 a b c)
theorem OF a b c d e:Vj d5 a b c d e=Ww d5 a b c d e:=f7 (.c228 a b c d e)
theorem a7E a b:YP d5 a b=pJ d5 a b:=f7 (.c229 a b)
theorem a9B a b:uN d5 a b=bW d5 a b:=f7 (.c230 a b)
theorem GP a b c d e:Xt d5 a b c d e=Xx d5 a b c d e:=f7 (.c231 a b c d e)
theorem a7m a b c d:yA d5 a b c d=Yt d5 a b c d:=f7 (.c232 a b c d)
theorem a1Q a:wL d5 a=fW d5 a:=f7 (.c233 a)
theorem kX a b c:He d5 a b c=Jw d5 a b c:=f7 (.c234 a b c)
theorem FZ a:Ka d5 a=Vt d5 a:=f7 (.c235 a)
theorem a5y a b:qP d5 a b=Zo d5 a b:=f7 (.c236 a b)
theorem b02 a:lJ d5 a=kR d5 a:=f7 (.c237 a)
theorem NG a:Tm d5 a=Qd d5 a:=f7 (.c238 a)
theorem a5Q a b c:Eh d5 a b c=sM d5 a b c:=f7 (.c239 a b c)
theorem b1T a b c:J5 d5 a b c=qR d5 a b c:=f7 (.c240 a b c)
theorem a8R a b c:AY d5 a b c=dL d5 a b c:=f7 (.c241 a b c)
theorem a42 a b c:Ae d5 a b c=cQ d5 a b c:=f7 (.c242 a b c)
theorem ZM a:CW d5 a=iB d5 a:=f7 (.c243 a)
theorem a1w a b:Lf d5 a b=oN d5 a b:=f7 (.c244 a b)
theorem a94 a b c:wA d5 a b c=gO d5 a b c:=f7 (.c245 a b c)
theorem a1E a b:yT d5 a b=lB d5 a b:=f7 (.c246 a b)
theorem LW a b c d e:Xh d5 a b c d e=Re d5 a b c d e:=f7 (.c247 a b c d e)
theorem a5R a b c d:AD d5 a b c d=Zh d5 a b c d:=f7 (.c248 a b c d)
theorem SI a b c d e:Vb d5 a b c d e=Up d5 a b c d e:=f7 (.c249 a b c d e)
theorem OM a b c d e:Pz d5 a b c d e=Wl d5 a b c d e:=f7 (.c250 a b c d e)
theorem a2G a b:DQ d5 a b=fY d5 a b:=f7 (.c251 a b)
theorem b1s a b:xT d5 a b=nD d5 a b:=f7 (.c252 a b)
theorem a1z a b c:GN d5 a b c=jD d5 a b c:=f7 (.c253 a b c)
theorem a3V a b:eG d5 a b=pQ d5 a b:=f7 (.c254 a b)
theorem HP a b c d:Tq d5 a b c d=Tn d5 a b c d:=f7 (.c255 a b c d)
theorem a39 a b:NO d5 a b=nN d5 a b:=f7 (.c256 a b)
theorem a4o a b c d:xN d5 a b c d=sS d5 a b c d:=f7 (.c257 a b c d)
theorem a1Z a b:pW d5 a b=Za d5 a b:=f7 (.c258 a b)
theorem b19 a b c d e:bD d5 a b c d e=oS d5 a b c d e:=f7 (.c259 a b c d e)
theorem a03 a:dI d5 a=iG d5 a:=f7 (.c260 a)
theorem a6d a b:dS d5 a b=lL d5 a b:=f7 (.c261 a b)
theorem a3i:Gc d5=AP d5:=f7 (.c262)
theorem a4Y a b c:tV d5 a b c=fC d5 a b c:=f7 (.c263 a b c)
theorem b1q a b:Q8 d5 a b=Zm d5 a b:=f7 (.c264 a b)
theorem a1L a b c:I9 d5 a b c=pR d5 a b c:=f7 (.c265 a b c)
theorem b2S a b c d:bG d5 a b c d=gU d5 a b c d:=f7 (.c266 a b c d)
theorem b2K a b c d e:iK d5 a b c d e=bE d5 a b c d e:=f7 (.c267 a b c d e)
theorem a93 a b c d e:wC d5 a b c d e=qO d5 a b c d e:=f7 (.c268 a b c d e)
theorem Un a b:Hq d5 a b=Gv d5 a b:=f7 (.c269 a b)
theorem a5G a b c d:Mg d5 a b c d=gX d5 a b c d:=f7 (.c270 a b c d)
theorem JZ a b c d:Om d5 a b c d=Sn d5 a b c d:=f7 (.c271 a b c d)
theorem b3H a b:fT d5 a b=Yx d5 a b:=f7 (.c272 a b)
theorem a6L a b:LM d5 a b=sJ d5 a b:=f7 (.c273 a b)
theorem ZC a b:qI d5 a b=iQ d5 a b:=f7 (.c274 a b)
theorem QG a b c d:sK d5 a b c d=Rq d5 a b c d:=f7 (.c275 a b c d)
theorem a4m a b:UZ d5 a b=fD d5 a b:=f7 (.c276 a b)
theorem b0u a:EK d5 a=qX d5 a:=f7 (.c277 a)
theorem QZ a b c d:Hl d5 a b c d=Sz d5 a b c d:=f7 (.c278 a b c d)
theorem b1O a b:Zc d5 a b=dD d5 a b:=f7 (.c279 a b)
theorem a1a a:Zd d5 a=rY d5 a:=f7 (.c280 a)
theorem a9G a:zI d5 a=pL d5 a:=f7 (.l16_source a)
theorem a7j a b:Jm d5 a b=aG d5 a b:=f7 (.c282 a b)
theorem SC a b c d:jS d5 a b c d=Xr d5 a b c d:=f7 (.c283 a b c d)
theorem b05 a b:LN d5 a b=nP d5 a b:=f7 (.c284 a b)
theorem a6r a b c d:Q2 d5 a b c d=pO d5 a b c d:=f7 (.c285 a b c d)
theorem UQ a:AO d5 a=Qa d5 a:=f7 (.c286 a)
theorem ZN a b:Ma d5 a b=cR d5 a b:=f7 (.c287 a b)
theorem b0l a b:AA d5 a b=rP d5 a b:=f7 (.c288 a b)
theorem XQ a b c d:yU d5 a b c d=Sj d5 a b c d:=f7 (.c289 a b c d)
theorem a3U a b c:uE d5 a b c=Yf d5 a b c:=f7 (.c290 a b c)
theorem a9N a b:X1 d5 a b=sN d5 a b:=f7 (.c291 a b)
theorem VV a b c d e f h:Tp d5 a b c d e f h=Xk d5 a b c d e f h:=f7 (.c292 a b c d e f h)
theorem a6i a b c d:lZ d5 a b c d=dU d5 a b c d:=f7 (.c293 a b c d)
theorem a9c a b c:bU d5 a b c=lN d5 a b c:=f7 (.c294 a b c)
theorem b1i a b c d e:Qm d5 a b c d e=rD d5 a b c d e:=f7 (.c295 a b c d e)
theorem a8f a b c d:EA d5 a b c d=oY d5 a b c d:=f7 (.c296 a b c d)
theorem a9n a b c:EQ d5 a b c=nK d5 a b c:=f7 (.c297 a b c)
theorem RW a b c d e:Tf d5 a b c d e=Wo d5 a b c d e:=f7 (.c298 a b c d e)
theorem b0f a b c:BP d5 a b c=aF d5 a b c:=f7 (.c299 a b c)
theorem YZ a b:tA d5 a b=rZ d5 a b:=f7 (.c300 a b)
theorem RT a b:uH d5 a b=Rf d5 a b:=f7 (.c301 a b)
theorem b0a a b:Ml d5 a b=iZ d5 a b:=f7 (.c302 a b)
theorem TT a b c:mI d5 a b c=Uv d5 a b c:=f7 (.c303 a b c)
theorem a0B a:fV d5 a=lH d5 a:=f7 (.c304 a)
theorem JE a b c:Xu d5 a b c=Vm d5 a b c:=f7 (.c305 a b c)
theorem a9A a b c d e f:kM d5 a b c d e f=lT d5 a b c d e f:=f7 (.c306 a b c d e f)
theorem a4j a:Zy d5 a=fB d5 a:=f7 (.c307 a)
theorem a2c a b c d:FH d5 a b c d=gV d5 a b c d:=f7 (.c308 a b c d)
theorem a6f a b:Mz d5 a b=cP d5 a b:=f7 (.c311 a b)
theorem PA a b c:Lg d5 a b c=Wx d5 a b c:=f7 (.c312 a b c)
theorem qA a b c d e f:Hx d5 a b c d e f=Kz d5 a b c d e f:=f7 (.c313 a b c d e f)
theorem a5d:RK d5=nI d5:=f7 (.c314)
theorem a32 a b c:EO d5 a b c=pF d5 a b c:=f7 (.c315 a b c)
theorem b0p a:wF d5 a=sR d5 a:=f7 (.l16_GenPoints a)
theorem IL a b c d:lI d5 a b c d=Xg d5 a b c d:=f7 (.c317 a b c d)
theorem XE a b c d e f:Ot d5 a b c d e f=Ur d5 a b c d e f:=f7 (.c318 a b c d e f)
theorem b2k a b c:OX d5 a b c=pS d5 a b c:=f7 (.c319 a b c)
theorem a2R a b c d:xI d5 a b c d=pP d5 a b c d:=f7 (.c320 a b c d)
theorem a6q a b:BO d5 a b=pK d5 a b:=f7 (.c321 a b)
theorem MT a b c d:iD d5 a b c d=Tw d5 a b c d:=f7 (.c322 a b c d)
theorem b1b a b c d e f:Sk d5 a b c d e f=qC d5 a b c d e f:=f7 (.c323 a b c d e f)
theorem a9W a:UL d5 a=iU d5 a:=f7 (.c324 a)
theorem a4k a b c d:NQ d5 a b c d=pZ d5 a b c d:=f7 (.c325 a b c d)
theorem b2N a b:E8 d5 a b=kI d5 a b:=f7 (.c326 a b)
end
section
def bn(p:i5):Nat:=if p.F.Code=0 then 0 else 1
def iN(p:i5):Nat:=p.I.toNat
def pl(z:Int):Nat:=if 0≤z∧z≤100000 then 0 else 1000000000
def D6(x:List d7):Nat:=(x.map fun n=>n.Ds.length+pl n.Ls).sum
def tl(L:List l5)(i:Nat):Nat:=((L.take i).map fun t=>t.Ds.length).sum
theorem N8:D6 []=0:=rfl
theorem Le(x y:List d7):D6 (x++y)=D6 x+D6 y:=by unfold D6;rw[D9,Ya]
theorem vX(n:d7)(y:List d7):D6 (n::y)=n.Ds.length+pl n.Ls+D6 y:=by unfold D6;rw[List.map_cons,List.sum_cons]
theorem LQ{L:List l5}{i:Nat}{t:l5}(h:L[i]? =some t):tl L (i+1)=tl L i+t.Ds.length:=by unfold tl;rw[List.take_add_one,h,D9,Ya];simp
theorem s8(L:List l5){i j:Nat}(h:i≤j):tl L i≤tl L j:=by obtain⟨d,rfl⟩:=Nat.exists_eq_add_of_le h;unfold tl;rw[List.take_add,D9,Ya];omega
structure Tk(L:List l5):Prop where
 last:∀(i:Nat) (t:l5),L[i]? =some t→i+1=L.length→t.Ks=8
 small:L.length≤1000000
structure PI(L:List l5)(p:i5):Prop where
 l:p.L=L
 i:p.I=(iN p:Int)
 lt:iN p<L.length
 ln:∀t∈L,pl t.Ls=0
theorem K7{L:List l5}{p:i5}(h:PI L p){i:Nat}{t:l5}(ht:L[i]? =some t):pl t.Ls=0:=h.ln t (M7 ht)
structure Fwd(L:List l5)(p p':i5):Prop where
 pi:PI L p'
 le:iN p≤iN p'
 le1:iN p'≤iN p+1
 mono:bn p≤bn p'
 stay:bn p=1→iN p'=iN p
 go:bn p'=0→iN p<iN p'
theorem l6(p:i5):bn p≤1:=by unfold bn;split<;>omega
theorem H8{α:Type}{b:Nat}{xs ys:List α}(hb:b≤1000)(h:xs.length+ys.length≤100000000):y8 b xs ys=some (xs++ys):=by unfold y8;rw[if_pos];unfold M4 maxLen;have:=Nat.mul_le_mul h hb;omega
theorem W7{L:List l5}{p:i5}(h:PI L p):∃t,R6 d5 p=some ((t,()),())∧L[iN p]? =some t:=by
 have h1:iN p<p.L.length:=(by rw[h.l];exact h.lt);refine⟨p.L[iN p],?_,?_⟩
 ·rw[a1A,dG,h.i,l4 h1];rfl
 ·rw[←h.l];exact o5 h1
theorem Cr(p:i5):An d5 p=some ((decide (bn p=1),()),()):=by
 rw[a9i,qW];unfold bn;by_cases c:p.F.Code=0
 ·rw[if_pos c,f6 c];rfl
 ·rw[if_neg c,d9 c];rfl
theorem F2{L:List l5}{p:i5}(h:PI L p)(s:b38):∃b:Bool,E3 d5 p s=some ((b,()),())∧(b=true→bn p=0∧∃t,L[iN p]? =some t∧(t.Ks=6∨t.Ks=7)):=by
 obtain⟨t,h1,h2⟩:=W7 h;rw[a2E,oI,h1,Cr];have hb:=l6 p;by_cases c:bn p=1
 ·rw[f6 c];exact⟨false,rfl,fun h=>nomatch h⟩
 ·rw[d9 c];by_cases c6:t.Ks=6
  ·refine⟨decide (t.Ds=s),?_,fun _=>⟨by omega,t,h2,.inl c6⟩⟩;simp only[d6,D5,f9,f6 c6]
  ·by_cases c7:t.Ks=7
   ·refine⟨decide (t.Ds=s),?_,fun _=>⟨by omega,t,h2,.inr c7⟩⟩;simp only[d6,D5,f9,f6 c7,d9 c6,f8]
   ·refine⟨false,?_,fun h=>nomatch h⟩;simp only[d6,D5,f9,d9 c7,d9 c6,f8]
theorem a0K{L:List l5}{p:i5}(h:PI L p)(e:Int)(he:e≠0):∃p',Cy d5 p e=some ((p',()),())∧PI L p'∧iN p'=iN p∧bn p'=1:=by
 rw[a8X,jJ,Cr];have hb:=l6 p;by_cases c:bn p=1
 ·rw[f6 c];exact⟨p,rfl,h,rfl,c⟩
 ·rw[d9 c];obtain⟨t,h1,h2⟩:=W7 h;rw[h1];exact⟨_,rfl,⟨h.l,h.i,h.lt,h.ln⟩,rfl,if_neg he⟩
theorem Iv{L:List l5}{p:i5}(h:PI L p)(e:Int)(he:e≠0):∃p',Cy d5 p e=some ((p',()),())∧Fwd L p p'∧bn p'=1:=by obtain⟨p',h1,h2,h3,h4⟩:=a0K h e he;have:=l6 p;exact⟨p',h1,⟨h2,by omega,by omega,by omega,fun _=>h3,fun h=>by omega⟩,h4⟩
theorem DG{L:List l5}(hL:Tk L){p:i5}(h:PI L p){t:l5}(ht:L[iN p]? =some t)(hk:t.Ks≠8)(hb:bn p=0)(d:Int):Fwd L p ⟨p.L,w64 (p.I+1),d,p.F⟩∧w64 (p.I+1)=((iN p+1:Nat):Int)∧iN p+1<L.length:=by
 have h1:iN p+1<L.length:=by have:=h.lt;have:iN p+1≠L.length:=fun e=>hk (hL.last _ _ ht e);omega
 have hs:=hL.small;have tn:=N8;have ln:([]:b38).length=0:=rfl;have e1:w64 (p.I+1)=((iN p+1:Nat):Int):=(by rw[h.i,wrap64 (by omega) (by omega)];omega);have e2:iN ⟨p.L,w64 (p.I+1),d,p.F⟩=iN p+1:=(by show(w64 (p.I+1)).toNat=_;rw[e1];rfl);have e3:bn ⟨p.L,w64 (p.I+1),d,p.F⟩=bn p:=rfl;exact⟨⟨⟨h.l,by rw[e2];exact e1,by rw[e2];exact h1,h.ln⟩,by omega,by omega,by omega,fun h=>by omega,fun h=>by omega⟩,e1,h1⟩
theorem I8{L:List l5}(hL:Tk L){p:i5}(h:PI L p)(s:b38):∃p',I2 d5 p s=some ((p',()),())∧Fwd L p p':=by
 obtain⟨b,h1,h2⟩:=F2 h s;rw[a4u,lA,h1];cases b with
 |false=>obtain⟨p',g1,g2,_⟩:=Iv h 5 (by decide);rw[d6,D5,f9,g1];exact⟨p',rfl,g2⟩
 |true=>obtain⟨hb,t,ht,hk⟩:=h2 rfl;exact⟨_,rfl,(DG hL h ht (by omega) hb _).1⟩
theorem MW{L:List l5}{p p':i5}(h:Fwd L p p')(d:Int):Fwd L p ⟨p'.L,p'.I,d,p'.F⟩:=⟨⟨h.pi.l,h.pi.i,h.pi.lt,h.pi.ln⟩,h.le,h.le1,h.mono,h.stay,h.go⟩
theorem Da{L:List l5}(hL:Tk L){p:i5}(h:PI L p)(s:b38):∃p',Z7 d5 p s=some ((p',()),())∧Fwd L p p':=by
 obtain⟨b,h1,h2⟩:=F2 h s;have key:∃p',nA d5 s p=some ((p',()),())∧Fwd L p p':=by obtain⟨p',g1,g2⟩:=I8 hL h s;rw[a6p,mE,g1];exact⟨_,rfl,MW g2 _⟩
 rw[a1e,nJ,h1];cases b with
 |false=>exact key
 |true=>
  rw[d6,f9];cases decide (p.On≥40)with
  |false=>exact key
  |true=>obtain⟨p',g1,g2,_⟩:=Iv h 6 (by decide);rw[f9,g1];exact⟨p',rfl,g2⟩
theorem Ez{L:List l5}(hL:Tk L){p:i5}(h:PI L p)(s:b38):∃p',Be d5 p s=some ((p',()),())∧Fwd L p p':=by obtain⟨p',g1,g2⟩:=I8 hL h s;rw[a79,nR,g1];exact⟨_,rfl,MW g2 _⟩
theorem Lh{L:List l5}(hL:Tk L){p:i5}(h:PI L p)(k:Int)(hk:k≠8):∃t p',Ew d5 p k=some ((t,p',()),())∧Fwd L p p'∧(bn p'=0→t.Ds.length+tl L (iN p)≤tl L (iN p'))∧pl t.Ls=0:=by
 obtain⟨t,h1,h2⟩:=W7 h;have key:∃t' p',rL d5 p ((t,()),())=some ((t',p',()),())∧Fwd L p p'∧(bn p'=0→t'.Ds.length+tl L (iN p)≤tl L (iN p'))∧pl t'.Ls=0:=by obtain⟨p',g1,g2,g3⟩:=Iv h 5 (by decide);rw[a75,sG,g1];exact⟨t,p',rfl,g2,fun h=>by omega,K7 h h2⟩
 rw[a1l,mM,h1,Cr];have hb:=l6 p;by_cases c:bn p=1
 ·rw[f6 c];exact key
 ·rw[d9 c];simp only[d6,f8];by_cases c2:t.Ks=k
  ·rw[f6 c2];obtain⟨q1,q2,q3⟩:=DG hL h h2 (by omega) (by omega) p.On;refine⟨t,⟨p.L,w64 (p.I+1),p.On,p.F⟩,rfl,q1,fun _=>?_,K7 h h2⟩;have e2:iN ⟨p.L,w64 (p.I+1),p.On,p.F⟩=iN p+1:=(by show(w64 (p.I+1)).toNat=_;rw[q2];rfl);rw[e2,LQ h2];omega
  ·rw[d9 c2];exact key
theorem J1(k:Int)(t:l5)(s:b38)(n:Int)(x:List d7)(h:x.length≤50000000)(hl:pl t.Ls=0):∃y,F5 d5 k t s n x=some ((y,()),())∧y.length=x.length+1∧D6 y=s.length+D6 x:=by rw[b1m,qG,H8 (by decide) (by simp;omega)];exact⟨_,rfl,by simp,by rw[Le,vX,N8,show pl (d7.mk k t.Ls t.Id (x.length:Int) n s).Ls=0 from hl];rfl⟩
theorem Dn(x y:List d7)(h:x.length+y.length≤50000000):∃z,Ao d5 x y=some ((z,()),())∧z.length=x.length+y.length∧D6 z=D6 x+D6 y:=by rw[b3G,rG,H8 (by decide) (by simp;omega),d6,H8 (by decide) (by simp;omega)];exact⟨_,rfl,by simp,by simp[Le]⟩
structure Ok(L:List l5)(b c:Nat)(p:i5)(x:List d7)(p':i5):Prop where
 pi:PI L p'
 le:iN p≤iN p'
 mono:bn p≤bn p'
 stay:bn p=1→iN p'=iN p∧x.length≤c
 go:bn p'=0→iN p<iN p'
 sz:x.length≤10*(iN p'-iN p)+b*bn p'
 ne:1≤x.length
 tx:bn p'=0→D6 x+tl L (iN p)≤tl L (iN p')
def mu(L:List l5)(p:i5):Nat:=if bn p=1 then 0 else 1+(L.length-iN p)
theorem Fh{L:List l5}{p p':i5}(h:PI L p)(g:Fwd L p p')(hb:bn p=0):mu L p'<mu L p:=by have h1:=g.go;have h2:=g.pi.lt;have h3:=h.lt;have h4:=l6 p';unfold mu;rw[if_neg (by omega:¬bn p=1)];split<;>omega
theorem IA{L:List l5}{b c:Nat}{p p':i5}{x:List d7}(h:PI L p)(g:Ok L b c p x p')(hb:bn p=0):mu L p'<mu L p:=by have h1:=g.go;have h2:=g.pi.lt;have h3:=h.lt;have h4:=l6 p';unfold mu;rw[if_neg (by omega:¬bn p=1)];split<;>omega
def Gq:List (b38):=[([105,110,116]:b38),([98,111,111,108]:b38),([115,116,114]:b38),([99,111,109,112]:b38)]
theorem dX{L:List l5}(hL:Tk L):∀(m:Nat) (p:i5),PI L p→mu L p=m→∃x p',Jo d5 p=some ((x,p',()),())∧Ok L 3 1 p x p':=by
 intro m
 induction m using Nat.strongRecOn with
 |_ m ih=>
 intro p h hm;have hs:=hL.small;have tn:=N8;have ln:([]:b38).length=0:=rfl;have hlt:=h.lt;obtain⟨t,ht,ht2⟩:=W7 h;have key:∃x p',AI d5 p ((t,()),())=some ((x,p',()),())∧Ok L 3 1 p x p':=by
  rw[YW,gD];obtain⟨b,h1,h2⟩:=F2 h [91];rw[h1];cases b with
  |true=>obtain⟨hb,_⟩:=h2 rfl;obtain⟨p1,g1,s1⟩:=Da hL h [91];obtain⟨x,p2,g2,s2⟩:=ih _ (by have:=Fh h s1 hb;omega) p1 s1.pi rfl;have zt:=s2.tx;have z:=s2.sz;have z1:=s2.pi.lt;have z2:=l6 p2;obtain⟨y,g3,hy,hyt⟩:=J1 20 t [] 0 x (by have:=s2.pi.lt;omega) (K7 h ht2);obtain⟨p3,g4,s3⟩:=Ez hL s2.pi [93];rw[d6,f9,g1,d6,g2,d6,g3,d6,g4];have at1:=s8 L s1.le;have a1:=s1.le;have a2:=s1.mono;have a3:=s1.stay;have a4:=s1.go;have a5:=l6 p1;have bt1:=s8 L s2.le;have b1:=s2.le;have b2:=s2.mono;have b3:=s2.stay;have b4:=s2.go;have ct1:=s8 L s3.le;have c1:=s3.le;have c2:=s3.mono;have c3:=s3.stay;have c4:=s3.go;have c5:=l6 p3;exact⟨y,p3,rfl,s3.pi,by omega,by omega,fun h=>by omega,fun h=>by omega,by omega,by omega,fun h=>by omega⟩
  |false=>obtain⟨t',p1,g1,s1,s1w,s1l⟩:=Lh hL h 2 (by decide);obtain⟨y,g3,hy,hyt⟩:=J1 19 t' t'.Ds 0 [] (by simp) s1l;rw[d6,f8,g1,d6,g3];have at1:=s8 L s1.le;have a1:=s1.le;have a2:=s1.mono;have a3:=s1.stay;have a4:=s1.go;have a5:=l6 p1;simp only[L6]at hy;exact⟨y,p1,rfl,s1.pi,by omega,by omega,fun h=>by omega,fun h=>by omega,by omega,by omega,fun h=>by omega⟩
 have loop:∀(n i:Nat),4-i=n→∃x p',lY d5 (i:Int) p ((t,()),())=some ((x,p',()),())∧Ok L 3 1 p x p':=by
  intro n
  induction n with
  |zero=>intro i hi;rw[XL,Qz,d9 (by show¬(i:Int)<((4:Nat):Int);omega)];exact key
  |succ n ihn=>
   intro i hi;have e1:w64 ((i:Int)+1)=((i+1:Nat):Int):=(by rw[wrap64 (by omega) (by omega)];omega);have hi4:i<Gq.length:=(by show i<4;omega);obtain⟨b,h1,h2⟩:=F2 h Gq[i];obtain⟨p1,g1,s1⟩:=I8 hL h Gq[i];obtain⟨y,g3,hy,hyt⟩:=J1 (IntKind.wrap .u8 (w64 (15+(i:Int)))) t [] 0 [] (by simp) (K7 h ht2);have q1:f5 Gq (i:Int)=some Gq[i]:=l4 hi4;have q2:Gq[i]? =some Gq[i]:=o5 hi4;rw[XL,Qz,f6 (by show(i:Int)<((4:Nat):Int);omega),f9];unfold Gq at q1 q2 h1 g1;rw[q1,d6,E0,q2,d6,h1,d6,e1];cases b with
   |false=>exact ihn (i+1) (by omega)
   |true=>rw[f9,g3,d6,d6,d6,g1];have at1:=s8 L s1.le;have a1:=s1.le;have a2:=s1.mono;have a3:=s1.stay;have a4:=s1.go;have a5:=l6 p1;simp only[L6]at hy;exact⟨y,p1,rfl,s1.pi,by omega,by omega,fun h=>by omega,fun h=>by omega,by omega,by omega,fun h=>by omega⟩
 rw[a7d,iI,ht];exact loop _ 0 rfl
theorem UE{L:List l5}(hL:Tk L){p:i5}(h:PI L p)(k:Int):∃x p',iJ d5 p k=some ((x,p',()),())∧Ok L 4 2 p x p':=by have hs:=hL.small;have tn:=N8;have ln:([]:b38).length=0:=rfl;obtain⟨t,p1,g1,s1,s1w,s1l⟩:=Lh hL h 1 (by decide);obtain⟨p2,g2,s2⟩:=I8 hL s1.pi [58];obtain⟨x,p3,g3,s3⟩:=dX hL _ p2 s2.pi rfl;have zt:=s3.tx;have z:=s3.sz;have z1:=s3.pi.lt;have z2:=l6 p3;obtain⟨y,g4,hy,hyt⟩:=J1 k t t.Ds 0 x (by omega) s1l;rw[b17,lX,g1,d6,g2,d6,g3,d6,g4];have at1:=s8 L s1.le;have a1:=s1.le;have a2:=s1.mono;have a3:=s1.stay;have a4:=s1.go;have a5:=l6 p1;have bt1:=s8 L s2.le;have b1:=s2.le;have b2:=s2.mono;have b3:=s2.stay;have b4:=s2.go;have b5:=l6 p2;have ct1:=s8 L s3.le;have c1:=s3.le;have c2:=s3.mono;have c3:=s3.stay;have c4:=s3.go;have c5:=s3.ne;exact⟨y,p3,rfl,s3.pi,by omega,by omega,fun h=>by omega,fun h=>by omega,by omega,by omega,fun h=>by omega⟩
theorem b1w{L:List l5}{p p':i5}{y:List d7}(g:Fwd L p p')(hy:y.length=1)(ht:D6 y+tl L (iN p)≤tl L (iN p')):Ok L 3 1 p y p':=by have ga:=g.le;have gb:=g.mono;have gc:=g.stay;have gd:=g.go;have ge:=l6 p';have gf:=g.pi.lt;have gt:=s8 L g.le;exact⟨g.pi,by omega,by omega,fun h=>by omega,fun h=>by omega,by omega,by omega,fun h=>by omega⟩
theorem b09{L:List l5}(hL:Tk L){m:Nat}(hE:∀q,PI L q→mu L q<m→∃x p',K9 d5 q 1=some ((x,p',()),())∧Ok L 3 1 q x p')(p0:i5):∀(n:Nat) (q:i5) (c:List d7) (a:Int),mu L q=n→PI L q→n<m→iN p0≤iN q→c.length≤10*(iN q-iN p0)+3*bn q→(bn q=0→D6 c+tl L (iN p0)≤tl L (iN q))→∃x p',iC d5 a q c=some ((x,p',()),())∧PI L p'∧iN q≤iN p'∧bn q≤bn p'∧(bn q=1→iN p'=iN q)∧x.length≤10*(iN p'-iN p0)+3*bn p'∧(bn p'=0→D6 x+tl L (iN p0)≤tl L (iN p')):=by
 intro n;have hs:=hL.small;have tn:=N8;have ln:([]:b38).length=0:=rfl
 induction n using Nat.strongRecOn with
 |_ n ih=>
 intro q c a hn h hm h0 hc hct;have hlt:=h.lt;have hb:=l6 q;have fin:∃x p',fH d5 q c=some ((x,p',()),())∧PI L p'∧iN q≤iN p'∧bn q≤bn p'∧(bn q=1→iN p'=iN q)∧x.length≤10*(iN p'-iN p0)+3*bn p'∧(bn p'=0→D6 x+tl L (iN p0)≤tl L (iN p')):=by obtain⟨p1,g1,s1⟩:=Ez hL h [41];rw[b2f,kH,g1];have s1a:=s1.le;have s1b:=s1.mono;have s1c:=s1.stay;have s1d:=s1.go;have s1e:=l6 p1;have s1f:=s1.pi.lt;have s1t:=s8 L s1.le;exact⟨c,p1,rfl,s1.pi,by omega,by omega,fun h=>by omega,by omega,fun h=>by omega⟩
 rw[b1c,oG,Cr];by_cases cb:bn q=1
 ·rw[f6 cb];exact fin
 ·rw[d9 cb];simp only[d6,D5,f9];obtain⟨b,h1,h2⟩:=F2 h [41];rw[h1];cases b with
  |true=>exact fin
  |false=>
   simp only[d6,D5,f9];have body:∀q1,PI L q1→iN q≤iN q1→bn q≤bn q1→(bn q1=1∨iN q≤iN q1)→mu L q1≤n→∃x p',lC d5 a q1 c=some ((x,p',()),())∧PI L p'∧iN q≤iN p'∧bn q≤bn p'∧(bn q=1→iN p'=iN q)∧x.length≤10*(iN p'-iN p0)+3*bn p'∧(bn p'=0→D6 x+tl L (iN p0)≤tl L (iN p')):=by
    intro q1 hq1 k1 k2 k3 k4;obtain⟨x,p2,g2,s2⟩:=hE q1 hq1 (by omega);have s2a:=s2.le;have s2b:=s2.mono;have s2c:=s2.stay;have s2d:=s2.go;have s2e:=l6 p2;have s2f:=s2.pi.lt;have s2g:=s2.sz;have s2h:=s2.ne;have s2t:=s8 L s2.le;have s2x:=s2.tx;have hb1:=l6 q1;have hq1lt:=hq1.lt;have kt:=s8 L k1;have hz:c.length+x.length≤100000000:=(by omega);rw[b0w,mW,g2,d6,H8 (by decide) hz,d6];have hmu:mu L p2<n:=by unfold mu at hn⊢;rw[if_neg cb]at hn;split<;>omega
    obtain⟨x',p',r1,r2,r3,r4,r5,r6,r7⟩:=ih _ hmu p2 (c++x) (w64 (a+1)) rfl s2.pi (by omega) (by omega) (by rw[o9];omega) (fun h=>by rw[Le];omega);exact⟨x',p',r1,r2,by omega,by omega,fun h=>by omega,r6,r7⟩
   cases decide (a>0)with
   |false=>exact body q h (i4 _) (i4 _) (by omega) (by omega)
   |true=>obtain⟨p1,g1,s1⟩:=I8 hL h [44];rw[f9,g1,d6];have s1a:=s1.le;have s1b:=s1.mono;have s1c:=s1.stay;have s1d:=s1.go;have s1e:=l6 p1;have s1f:=s1.pi.lt;have s1t:=s8 L s1.le;exact body p1 s1.pi (by omega) (by omega) (by omega) (by have:=Fh h s1 (by omega);omega)
theorem b2G{L:List l5}(hL:Tk L){m:Nat}(hE:∀q,PI L q→mu L q<m→∃x p',K9 d5 q 1=some ((x,p',()),())∧Ok L 3 1 q x p'){p:i5}(h:PI L p)(hm:mu L p=m):∃x p',AX d5 p=some ((x,p',()),())∧Ok L 3 1 p x p':=by
 have hs:=hL.small;have tn:=N8;have ln:([]:b38).length=0:=rfl;have hlt:=h.lt;have hb:=l6 p;obtain⟨t,ht,ht2⟩:=W7 h;rw[YT,rC,ht,Cr];by_cases cb:bn p=1
 ·rw[f6 cb];exact⟨_,p,rfl,h,i4 _,i4 _,fun _=>⟨rfl,by simp⟩,fun h=>by omega,by simp;omega,by simp,fun h=>by omega⟩
 rw[d9 cb];have hg:bn p=0:=(by omega);have eL:p.L.length=L.length:=(by rw[h.l]);have hQ2:t.Ks≠8→Fwd L p ⟨p.L,(if(w64 ((p.L.length:Int)-1))<(w64 (p.I+1))then(w64 ((p.L.length:Int)-1))else(w64 (p.I+1))),p.On,p.F⟩∧t.Ds.length+tl L (iN p)≤tl L (iN (⟨p.L,(if(w64 ((p.L.length:Int)-1))<(w64 (p.I+1))then(w64 ((p.L.length:Int)-1))else(w64 (p.I+1))),p.On,p.F⟩:i5)):=by intro hk;obtain⟨q1,q2,q3⟩:=DG hL h ht2 hk hg p.On;rw[if_neg (by rw[q2,eL,wrap64 (by omega) (by omega)];omega)];have e2:iN ⟨p.L,w64 (p.I+1),p.On,p.F⟩=iN p+1:=(by show(w64 (p.I+1)).toNat=_;rw[q2];rfl);refine⟨q1,?_⟩;rw[e2,LQ ht2];omega
 have hQb:bn (⟨p.L,(if(w64 ((p.L.length:Int)-1))<(w64 (p.I+1))then(w64 ((p.L.length:Int)-1))else(w64 (p.I+1))),p.On,p.F⟩:i5)=bn p:=rfl;have j0:Mu d5 p ((t,()),())=Mu d5 p ((t,()),()):=rfl;have j1:Pe d5 p ((t,()),())=Pe d5 p ((t,()),()):=rfl
 conv at j0=>rhs;rw[b1L,oV]
 conv at j1=>rhs;rw[b06,iH]
 simp only at j0 j1;generalize (⟨p.L,(if(w64 ((p.L.length:Int)-1))<(w64 (p.I+1))then(w64 ((p.L.length:Int)-1))else(w64 (p.I+1))),p.On,p.F⟩:i5)=Q at*;have hQ:=fun hk=>(hQ2 hk).1;have hQt:=fun hk=>(hQ2 hk).2;have leaf:∀(k:Int) (s:b38) (n:Int),(s=[]∨s=t.Ds)→t.Ks≠8→∃y,F5 d5 k t s n []=some ((y,()),())∧Ok L 3 1 p y Q:=by intro k s n hst hk;obtain⟨y,g,hy,hyt⟩:=J1 k t s n [] (by simp) (K7 h ht2);have hq:=hQt hk;have hqm:=s8 L (hQ hk).le;refine⟨y,g,b1w (hQ hk) hy ?_⟩;rcases hst with rfl|rfl<;>omega
 have isK:∀{s:b38},E3 d5 p s=some ((true,()),())→t.Ks≠8:=by intro s hi;obtain⟨b,h1,h2⟩:=F2 h s;rw[h1]at hi;cases hi;obtain⟨_,t',q1,q2⟩:=h2 rfl;rw[ht2]at q1;cases q1;omega
 have end2:∃x p',EL d5 p=some ((x,p',()),())∧Ok L 3 1 p x p':=by obtain⟨p',g1,g2,g3⟩:=Iv h 5 (by decide);rw[a8e,dO,g1];have g2a:=g2.le;have g2b:=g2.mono;have g2c:=g2.stay;have g2d:=g2.go;have g2e:=l6 p';have g2f:=g2.pi.lt;have g2t:=s8 L g2.le;exact⟨_,p',rfl,g2.pi,by omega,by omega,fun _=>⟨by omega,by simp⟩,fun h=>by omega,by simp;omega,by simp,fun h=>by omega⟩
 have end0:∃x p',Mu d5 p ((t,()),())=some ((x,p',()),())∧Ok L 3 1 p x p':=by
  rw[j0];obtain⟨b,h1,h2⟩:=F2 h [109,97,107,101];rw[h1];cases b with
  |false=>exact end2
  |true=>have s0:=hQ (isK h1);obtain⟨t',p1,g1,s1,s1w,s1l⟩:=Lh hL s0.pi 2 (by decide);obtain⟨y,g2,hy,hyt⟩:=J1 19 t' t'.Ds 0 [] (by simp) s1l;obtain⟨z,g3,hz,hzt⟩:=J1 32 t [] 0 y (by rw[hy];simp) (K7 h ht2);obtain⟨p2,g4,s2⟩:=Da hL s1.pi [40];obtain⟨p3,g5,s3⟩:=Ez hL s2.pi [41];simp only[L6]at hy;rw[d6,f9,g1,d6,g2,d6,g3,d6,g4,d6,g5];have s0a:=s0.le;have s0b:=s0.mono;have s0c:=s0.stay;have s0d:=s0.go;have s0e:=l6 Q;have s0f:=s0.pi.lt;have s0t:=s8 L s0.le;have s1a:=s1.le;have s1b:=s1.mono;have s1c:=s1.stay;have s1d:=s1.go;have s1e:=l6 p1;have s1f:=s1.pi.lt;have s1t:=s8 L s1.le;have s2a:=s2.le;have s2b:=s2.mono;have s2c:=s2.stay;have s2d:=s2.go;have s2e:=l6 p2;have s2f:=s2.pi.lt;have s2t:=s8 L s2.le;have s3a:=s3.le;have s3b:=s3.mono;have s3c:=s3.stay;have s3d:=s3.go;have s3e:=l6 p3;have s3f:=s3.pi.lt;have s3t:=s8 L s3.le;exact⟨z,p3,rfl,s3.pi,by omega,by omega,fun h=>by omega,fun h=>by omega,by omega,by omega,fun h=>by omega⟩
 have end1:∃x p',Pe d5 p ((t,()),())=some ((x,p',()),())∧Ok L 3 1 p x p':=by
  rw[j1];by_cases c1:t.Ks=1
  ·rw[f6 c1,f9];have s0:=hQ (by omega);have s0q:=hQt (by omega);have s0a:=s0.le;have s0b:=s0.mono;have s0c:=s0.stay;have s0d:=s0.go;have s0e:=l6 Q;have s0f:=s0.pi.lt;have s0t:=s8 L s0.le;obtain⟨p1,g1,s1⟩:=Da hL s0.pi [40];have s1a:=s1.le;have s1b:=s1.mono;have s1c:=s1.stay;have s1d:=s1.go;have s1e:=l6 p1;have s1f:=s1.pi.lt;have s1t:=s8 L s1.le;have m0:=Fh h s0 hg;have m1:=Fh s0.pi s1 (by omega);obtain⟨x,p2,g2,r2,r3,r4,r5,r6,r6t⟩:=b09 hL hE Q _ p1 [] 0 rfl s1.pi (by omega) (by omega) (by simp) (fun h=>by omega);have r7:=r2.lt;have r8:=l6 p2;obtain⟨y,g3,hy,hyt⟩:=J1 27 t t.Ds 0 x (by omega) (K7 h ht2);rw[ZZ,fO,g1,d6,g2,d6,g3];exact⟨y,p2,rfl,r2,by omega,by omega,fun h=>by omega,fun h=>by omega,by omega,by omega,fun h=>by omega⟩
  ·rw[d9 c1,f8];obtain⟨b,h1,h2⟩:=F2 h [40];rw[h1,d6];cases b with
   |true=>obtain⟨p1,g1,s1⟩:=Da hL h [40];obtain⟨x,p2,g2,s2⟩:=hE p1 s1.pi (by have:=Fh h s1 hg;omega);obtain⟨p3,g3,s3⟩:=Ez hL s2.pi [41];rw[f9,g1,d6,g2,d6,g3];have s1a:=s1.le;have s1b:=s1.mono;have s1c:=s1.stay;have s1d:=s1.go;have s1e:=l6 p1;have s1f:=s1.pi.lt;have s1t:=s8 L s1.le;have s2a:=s2.le;have s2b:=s2.mono;have s2c:=s2.stay;have s2d:=s2.go;have s2e:=l6 p2;have s2f:=s2.pi.lt;have s2g:=s2.sz;have s2h:=s2.ne;have s2t:=s8 L s2.le;have s2x:=s2.tx;have s3a:=s3.le;have s3b:=s3.mono;have s3c:=s3.stay;have s3d:=s3.go;have s3e:=l6 p3;have s3f:=s3.pi.lt;have s3t:=s8 L s3.le;exact⟨x,p3,rfl,s3.pi,by omega,by omega,fun h=>by omega,fun h=>by omega,by omega,by omega,fun h=>by omega⟩
   |false=>
    rw[f8];obtain⟨b,h1,h2⟩:=F2 h [109,97,107,101];rw[h1,d6];cases b with
    |false=>exact end0
    |true=>
     have s0:=hQ (isK h1);have s0a:=s0.le;have s0b:=s0.mono;have s0c:=s0.stay;have s0d:=s0.go;have s0e:=l6 Q;have s0f:=s0.pi.lt;have s0t:=s8 L s0.le;obtain⟨b,h1,h2⟩:=F2 s0.pi [91];rw[f9,h1,d6];cases b with
     |false=>exact end0
     |true=>
      obtain⟨k,p1,g1,s1⟩:=dX hL _ Q s0.pi rfl;have s1a:=s1.le;have s1b:=s1.mono;have s1c:=s1.stay;have s1d:=s1.go;have s1e:=l6 p1;have s1f:=s1.pi.lt;have s1g:=s1.sz;have s1h:=s1.ne;have s1t:=s8 L s1.le;have s1x:=s1.tx;obtain⟨p2,g2,s2⟩:=Da hL s1.pi [40];have s2a:=s2.le;have s2b:=s2.mono;have s2c:=s2.stay;have s2d:=s2.go;have s2e:=l6 p2;have s2f:=s2.pi.lt;have s2t:=s8 L s2.le;have hm2:mu L p2<m:=by unfold mu at hm⊢;rw[if_neg cb]at hm;split<;>omega
      obtain⟨x,p3,g3,s3⟩:=hE p2 s2.pi hm2;have s3a:=s3.le;have s3b:=s3.mono;have s3c:=s3.stay;have s3d:=s3.go;have s3e:=l6 p3;have s3f:=s3.pi.lt;have s3g:=s3.sz;have s3h:=s3.ne;have s3t:=s8 L s3.le;have s3x:=s3.tx;obtain⟨y,g4,hy,hyt⟩:=Dn k x (by omega);obtain⟨z,g5,hz,hzt⟩:=J1 32 t [] 0 y (by omega) (K7 h ht2);obtain⟨p4,g6,s4⟩:=Ez hL s3.pi [41];have s4a:=s4.le;have s4b:=s4.mono;have s4c:=s4.stay;have s4d:=s4.go;have s4e:=l6 p4;have s4f:=s4.pi.lt;have s4t:=s8 L s4.le;rw[f9,g1,d6,g2,d6,g3,d6,g4,d6,g5,d6,g6];exact⟨z,p4,rfl,s4.pi,by omega,by omega,fun h=>by omega,fun h=>by omega,by omega,by omega,fun h=>by omega⟩
 simp only[d6,f8];by_cases c3:t.Ks=3
 ·obtain⟨y,g,o⟩:=leaf 21 [] t.Ns (.inl rfl) (by omega);rw[f6 c3,f9,g];exact⟨y,Q,rfl,o⟩
 by_cases c4:t.Ks=4
 ·obtain⟨y,g,o⟩:=leaf 22 [] t.Ns (.inl rfl) (by omega);rw[d9 c3,f8,f6 c4,f9,g];exact⟨y,Q,rfl,o⟩
 by_cases c5:t.Ks=5
 ·obtain⟨y,g,o⟩:=leaf 23 t.Ds 0 (.inr rfl) (by omega);rw[d9 c3,f8,d9 c4,f8,f6 c5,f9,g];exact⟨y,Q,rfl,o⟩
 rw[d9 c3,f8,d9 c4,f8,d9 c5,f8];obtain⟨b,h1,h2⟩:=F2 h [116,114,117,101];rw[h1,d6];cases b with
 |true=>obtain⟨y,g,o⟩:=leaf 24 [] 1 (.inl rfl) (isK h1);rw[f9,g];exact⟨y,Q,rfl,o⟩
 |false=>
 rw[f8];obtain⟨b,h1,h2⟩:=F2 h [102,97,108,115,101];rw[h1,d6];cases b with
 |true=>obtain⟨y,g,o⟩:=leaf 24 [] 0 (.inl rfl) (isK h1);rw[f9,g];exact⟨y,Q,rfl,o⟩
 |false=>
 rw[f8];obtain⟨b,h1,h2⟩:=F2 h [110,105,108];rw[h1,d6];cases b with
 |true=>obtain⟨y,g,o⟩:=leaf 25 [] 0 (.inl rfl) (isK h1);rw[f9,g];exact⟨y,Q,rfl,o⟩
 |false=>
 rw[f8];by_cases c1:t.Ks=1
 ·rw[f6 c1,f9];obtain⟨b,h1,h2⟩:=F2 (hQ (by omega)).pi [40];rw[h1,d6];cases b with
  |false=>obtain⟨y,g,o⟩:=leaf 26 t.Ds 0 (.inr rfl) (by omega);rw[D5,f9,g];exact⟨y,Q,rfl,o⟩
  |true=>exact end1
 ·rw[d9 c1,f8];exact end1
structure Lp(L:List l5)(i0:Nat)(q:i5)(x:List d7)(x':List d7)(p':i5):Prop where
 pi:PI L p'
 le:iN q≤iN p'
 mono:bn q≤bn p'
 stay:bn q=1→iN p'=iN q∧x'.length=x.length
 sz:x'.length≤10*(iN p'-i0)+3*bn p'
 ne:1≤x'.length
 tx:bn p'=0→D6 x'+tl L i0≤tl L (iN p')
theorem Ci{L:List l5}{p p':i5}(h:PI L p)(h':PI L p')(hb:bn p=0)(hg:bn p'=1∨iN p<iN p'):mu L p'<mu L p:=by have h2:=h'.lt;have h3:=h.lt;have h4:=l6 p';unfold mu;rw[if_neg (by omega:¬bn p=1)];split<;>omega
theorem a2q{L:List l5}(hL:Tk L){m:Nat}(hE:∀q,PI L q→mu L q<m→∃x p',K9 d5 q 1=some ((x,p',()),())∧Ok L 3 1 q x p')(i0:Nat):∀(n:Nat) (q:i5) (x:List d7),mu L q=n→PI L q→(bn q=1∨n<m)→i0≤iN q→1≤x.length→x.length≤10*(iN q-i0)+3*bn q→(bn q=0→D6 x+tl L i0≤tl L (iN q))→∃x' p',Qj d5 x q=some ((x',p',()),())∧Lp L i0 q x x' p':=by
 intro n;have hs:=hL.small;have tn:=N8;have ln:([]:b38).length=0:=rfl
 induction n using Nat.strongRecOn with
 |_ n ih=>
 intro q x hn h hm h0 hx1 hx hxt;have hlt:=h.lt;have hb:=l6 q;have fin:∃x' p',uG d5 x q=some ((x',p',()),())∧Lp L i0 q x x' p':=by rw[a7H,kE];exact⟨x,q,rfl,h,i4 _,i4 _,fun _=>⟨rfl,rfl⟩,hx,hx1,hxt⟩
 have body:bn q=0→∃x' p',cJ d5 x q=some ((x',p',()),())∧Lp L i0 q x x' p':=by
  intro hg;obtain⟨t,ht,ht2⟩:=W7 h;rw[a2x,Yz,ht];simp only[d6];by_cases c:t.Ds=([91]:b38)
  ·rw[f6 c,f9];obtain⟨p1,g1,s1⟩:=Da hL h [91];have s1a:=s1.le;have s1b:=s1.mono;have s1c:=s1.stay;have s1d:=s1.go;have s1e:=l6 p1;have s1f:=s1.pi.lt;have s1t:=s8 L s1.le;have m1:=Fh h s1 hg;obtain⟨y,p2,g2,s2⟩:=hE p1 s1.pi (by omega);have s2a:=s2.le;have s2b:=s2.mono;have s2c:=s2.stay;have s2d:=s2.go;have s2e:=l6 p2;have s2f:=s2.pi.lt;have s2g:=s2.sz;have s2h:=s2.ne;have s2t:=s8 L s2.le;have s2x:=s2.tx;obtain⟨p3,g3,s3⟩:=Ez hL s2.pi [93];have s3a:=s3.le;have s3b:=s3.mono;have s3c:=s3.stay;have s3d:=s3.go;have s3e:=l6 p3;have s3f:=s3.pi.lt;have s3t:=s8 L s3.le;have hz:x.length+y.length≤50000000:=(by omega);obtain⟨z,g4,hz4,hz4t⟩:=Dn x y hz;have hz5:z.length≤50000000:=(by omega);obtain⟨w,g5,hw,hwt⟩:=J1 28 t [] 0 z hz5 (K7 h ht2);rw[g1,d6,g2,d6,g3,d6,g4,d6,g5,d6];have hlt3:=Ci h s3.pi hg (by omega);obtain⟨x',p',r,o⟩:=ih _ (by omega) p3 w rfl s3.pi (by omega) (by omega) (by omega) (by omega) (fun h=>by omega);have oa:=o.le;have ob:=o.mono;have oc:=o.stay;exact⟨x',p',r,o.pi,by omega,by omega,fun h=>by omega,o.sz,o.ne,o.tx⟩
  ·rw[d9 c,f8];obtain⟨p1,g1,s1⟩:=I8 hL h [46];have s1a:=s1.le;have s1b:=s1.mono;have s1c:=s1.stay;have s1d:=s1.go;have s1e:=l6 p1;have s1f:=s1.pi.lt;have s1t:=s8 L s1.le;obtain⟨t',p2,g2,s2,s2w,s2l⟩:=Lh hL s1.pi 1 (by decide);have s2a:=s2.le;have s2b:=s2.mono;have s2c:=s2.stay;have s2d:=s2.go;have s2e:=l6 p2;have s2f:=s2.pi.lt;have s2t:=s8 L s2.le;have hz:x.length≤50000000:=(by omega);obtain⟨w,g5,hw,hwt⟩:=J1 29 t t'.Ds 0 x hz (K7 h ht2);rw[g1,d6,g2,d6,g5,d6];have hlt3:=Ci h s2.pi hg (by omega);obtain⟨x',p',r,o⟩:=ih _ (by omega) p2 w rfl s2.pi (by omega) (by omega) (by omega) (by omega) (fun h=>by omega);have oa:=o.le;have ob:=o.mono;have oc:=o.stay;exact⟨x',p',r,o.pi,by omega,by omega,fun h=>by omega,o.sz,o.ne,o.tx⟩
 rw[b2U,mX];obtain⟨b,h1,h2⟩:=F2 h [91];rw[h1,d6];cases b with
 |true=>exact body (h2 rfl).1
 |false=>
  obtain⟨b,h1,h2⟩:=F2 h [46];rw[f8,h1,d6];cases b with
  |true=>exact body (h2 rfl).1
  |false=>exact fin
theorem MI{L:List l5}{b c:Nat}{p p':i5}{x:List d7}(h:Ok L b c p x p')(d:Int):Ok L b c p x ⟨p'.L,p'.I,d,p'.F⟩:=⟨⟨h.pi.l,h.pi.i,h.pi.lt,h.pi.ln⟩,h.le,h.mono,h.stay,h.go,h.sz,h.ne,h.tx⟩
theorem a6g{L:List l5}(hL:Tk L){m:Nat}(hE:∀q,PI L q→mu L q<m→∃x p',K9 d5 q 1=some ((x,p',()),())∧Ok L 3 1 q x p')(hU:∀q,PI L q→mu L q<m→∃x p',Mx d5 q=some ((x,p',()),())∧Ok L 3 1 q x p'){p:i5}(h:PI L p)(hm:mu L p=m):∃x p',Mx d5 p=some ((x,p',()),())∧Ok L 3 1 p x p':=by
 have hs:=hL.small;have tn:=N8;have ln:([]:b38).length=0:=rfl;have hlt:=h.lt;have hb:=l6 p;obtain⟨t,ht,ht2⟩:=W7 h;have body:bn p=0→∃x p',nQ d5 p ((t,()),())=some ((x,p',()),())∧Ok L 3 1 p x p':=by
  intro hg;rw[a1n,nY];obtain⟨p1,g1,s1⟩:=Da hL h t.Ds;have s1a:=s1.le;have s1b:=s1.mono;have s1c:=s1.stay;have s1d:=s1.go;have s1e:=l6 p1;have s1f:=s1.pi.lt;have s1t:=s8 L s1.le;have m1:=Fh h s1 hg;obtain⟨x,p2,g2,s2⟩:=hU p1 s1.pi (by omega);have s2a:=s2.le;have s2b:=s2.mono;have s2c:=s2.stay;have s2d:=s2.go;have s2e:=l6 p2;have s2f:=s2.pi.lt;have s2g:=s2.sz;have s2h:=s2.ne;have s2t:=s8 L s2.le;have s2x:=s2.tx;have hz:x.length≤50000000:=(by omega);obtain⟨y,g3,hy,hyt⟩:=J1 30 t [] 12 x hz (K7 h ht2);obtain⟨z,g4,hz4,hz4t⟩:=J1 30 t [] 13 x hz (K7 h ht2);simp only;rw[g1,d6,g2,d6,g3,g4];cases decide (t.Ds=([45]:b38))with
  |true=>exact⟨y,_,rfl,MI (p':=p2) ⟨s2.pi,by omega,by omega,fun h=>by omega,fun h=>by omega,by omega,by omega,fun h=>by omega⟩ _⟩
  |false=>exact⟨z,_,rfl,MI (p':=p2) ⟨s2.pi,by omega,by omega,fun h=>by omega,fun h=>by omega,by omega,by omega,fun h=>by omega⟩ _⟩
 rw[a8O,rB,ht,d6];obtain⟨b,h1,h2⟩:=F2 h [45];rw[h1,d6];cases b with
 |true=>exact body (h2 rfl).1
 |false=>
  obtain⟨b,h1,h2⟩:=F2 h [33];rw[D5,f9,h1,d6];cases b with
  |true=>exact body (h2 rfl).1
  |false=>
   obtain⟨x,p1,g1,s1⟩:=b2G hL hE h hm;have s1a:=s1.le;have s1b:=s1.mono;have s1c:=s1.stay;have s1d:=s1.go;have s1e:=l6 p1;have s1f:=s1.pi.lt;have s1g:=s1.sz;have s1h:=s1.ne;have s1t:=s8 L s1.le;have s1x:=s1.tx;obtain⟨x',p',g2,o⟩:=a2q hL hE (iN p) _ p1 x rfl s1.pi (by
    by_cases c:bn p1=1
    ·exact .inl c
    ·right;have:=IA h s1 (by omega);omega) s1a s1h s1g s1x
   have oa:=o.le;have ob:=o.mono;have oc:=o.stay;have od:=o.sz;have oe:=o.ne;have ot:=o.tx;rw[D5,f9,b0q,lW,g1,d6,g2];exact⟨x',p',rfl,o.pi,by omega,by omega,fun h=>by omega,fun h=>by omega,by omega,by omega,fun h=>by omega⟩
theorem b0x(lv:Nat)(h1:1≤lv)(h6:lv≤6):∃e:U9,yB d5 (lv:Int)=some e∧e.1.1.length=e.1.2.1.length∧e.1.1.length≤4:=by
 have:lv=1∨lv=2∨lv=3∨lv=4∨lv=5∨lv=6:=(by omega);rw[a2D,Zw];rcases this with rfl|rfl|rfl|rfl|rfl|rfl
 all_goals exact⟨_,rfl,rfl,by decide⟩
theorem a7P{L:List l5}(hL:Tk L){m:Nat}(lv:Nat)(hlv:lv≤6)(e:U9)(he:e.1.1.length=e.1.2.1.length)(he4:e.1.1.length≤4)(hN:∀q,PI L q→mu L q<m→∃x p',K9 d5 q ((lv+1:Nat):Int)=some ((x,p',()),())∧Ok L 3 1 q x p')(i0:Nat):∀(n i:Nat) (x:List d7) (c:Bool) (q:i5),e.1.1.length-i=n→PI L q→(bn q=1∨mu L q<m)→i0≤iN q→1≤x.length→x.length≤10*(iN q-i0)+3*bn q→(bn q=0→D6 x+tl L i0≤tl L (iN q))→∃x' c' q',Ie d5 (lv:Int) x c e (i:Int) q=xD d5 (lv:Int) x' c' q' e∧Lp L i0 q x x' q'∧(c=true→q'=q∧c'=true)∧(c=false→c'=true→mu L q'<mu L q):=by
 intro n;have hs:=hL.small;have tn:=N8;have ln:([]:b38).length=0:=rfl
 induction n with
 |zero=>intro i x c q hi h hm h0 hx1 hx hxt;rw[RG,Wb,d9 (by omega),f8];exact⟨x,c,q,rfl,⟨h,i4 _,i4 _,fun _=>⟨rfl,rfl⟩,hx,hx1,hxt⟩,fun hc=>⟨rfl,hc⟩,fun h1 h2=>by rw[h1]at h2;cases h2⟩
 |succ n ih=>
  intro i x c q hi h hm h0 hx1 hx hxt;have hlt:=h.lt;have hb:=l6 q;have e1:w64 ((i:Int)+1)=((i+1:Nat):Int):=(by rw[wrap64 (by omega) (by omega)];omega);have e2:w64 ((lv:Int)+1)=((lv+1:Nat):Int):=(by rw[wrap64 (by omega) (by omega)];omega);have hi1:i<e.1.1.length:=(by omega);have hi2:i<e.1.2.1.length:=(by omega);have skip:=ih (i+1) x c q (by omega) h hm h0 hx1 hx hxt;rw[RG,Wb,f6 (by omega),f9,e1,e2];cases c with
  |true=>exact skip
  |false=>
   obtain⟨b,h1,h2⟩:=F2 h e.1.1[i];rw[D5,f9,l4 hi1,d6,E0,o5 hi1,d6,h1,d6];cases b with
   |false=>exact skip
   |true=>have hg:=(h2 rfl).1;obtain⟨t,ht,ht2⟩:=W7 h;obtain⟨p1,g1,s1⟩:=I8 hL h e.1.1[i];have s1a:=s1.le;have s1b:=s1.mono;have s1c:=s1.stay;have s1d:=s1.go;have s1e:=l6 p1;have s1f:=s1.pi.lt;have s1t:=s8 L s1.le;have m1:=Fh h s1 hg;obtain⟨y,p2,g2,s2⟩:=hN p1 s1.pi (by omega);have s2a:=s2.le;have s2b:=s2.mono;have s2c:=s2.stay;have s2d:=s2.go;have s2e:=l6 p2;have s2f:=s2.pi.lt;have s2g:=s2.sz;have s2h:=s2.ne;have s2t:=s8 L s2.le;have s2x:=s2.tx;have hz:x.length+y.length≤50000000:=(by omega);obtain⟨z,g4,hz4,hz4t⟩:=Dn x y hz;have hz5:z.length≤50000000:=(by omega);obtain⟨w,g5,hw,hwt⟩:=J1 31 t [] e.1.2.1[i] z hz5 (K7 h ht2);have hlt3:=Ci h s2.pi hg (by omega);obtain⟨x',c',q',r,o,k1,k2⟩:=ih (i+1) w true p2 (by omega) s2.pi (by omega) (by omega) (by omega) (by omega) (fun h=>by omega);rw[f9,ht,d6,d6,d6,g1,d6,g2,d6,l4 hi2,d6,o5 hi2,d6,g4,d6,g5,d6];have oa:=o.le;have ob:=o.mono;have oc:=o.stay;exact⟨x',c',q',r,⟨o.pi,by omega,by omega,fun h=>by omega,o.sz,o.ne,o.tx⟩,(fun h=>nomatch h),fun _ _=>by rw[(k1 rfl).1];exact hlt3⟩
theorem b0y{L:List l5}(hL:Tk L){m:Nat}(lv:Nat)(hlv:lv≤6)(e:U9)(he:e.1.1.length=e.1.2.1.length)(he4:e.1.1.length≤4)(hN:∀q,PI L q→mu L q<m→∃x p',K9 d5 q ((lv+1:Nat):Int)=some ((x,p',()),())∧Ok L 3 1 q x p')(i0:Nat):∀(n:Nat) (x:List d7) (q:i5),mu L q=n→PI L q→(bn q=1∨n<m)→i0≤iN q→1≤x.length→x.length≤10*(iN q-i0)+3*bn q→(bn q=0→D6 x+tl L i0≤tl L (iN q))→∃x' p',mZ d5 (lv:Int) x true q e=some ((x',p',()),())∧Lp L i0 q x x' p':=by
 intro n
 induction n using Nat.strongRecOn with
 |_ n ih=>
 intro x q hn h hm h0 hx1 hx hxt;have hb:=l6 q;obtain⟨x1,c1,q1,r,o,_,k2⟩:=a7P hL lv hlv e he he4 hN i0 _ 0 x false q rfl h (by omega) h0 hx1 hx hxt;have fin:∃x' p',(some ((x1,q1,()),()):b3V)=some ((x',p',()),())∧Lp L i0 q x x' p':=⟨x1,q1,rfl,o⟩;rw[IT,Rd,f9,show Ie d5 (lv:Int) x false e 0 q=_ from r,a9v,cE];by_cases d3:(lv:Int)=3
 ·rw[f6 d3];exact fin
 by_cases d4:(lv:Int)=4
 ·rw[d9 d3,f6 d4];exact fin
 rw[d9 d3,d9 d4,f8,f8];cases c1 with
 |false=>rw[IT,Rd,f8,YY,aO];exact fin
 |true=>
  have hlt:=k2 rfl rfl;have oa:=o.le;have ob:=o.mono;have oc:=o.stay;have hq1:=l6 q1;obtain⟨x',p',r',o'⟩:=ih (mu L q1) (by omega) x1 q1 rfl o.pi (by
   by_cases cq:bn q=1
   ·exact .inl (by omega)
   ·exact .inr (by omega)) (by omega) o.ne o.sz o.tx
  have pa:=o'.le;have pb:=o'.mono;have pc:=o'.stay;exact⟨x',p',r',o'.pi,by omega,by omega,fun h=>by omega,o'.sz,o'.ne,o'.tx⟩
theorem b2q{L:List l5}(hL:Tk L):∀(m:Nat) (p:i5),PI L p→mu L p=m→(∃x p',Mx d5 p=some ((x,p',()),())∧Ok L 3 1 p x p')∧∀lv:Nat,1≤lv→lv≤7→∃x p',K9 d5 p (lv:Int)=some ((x,p',()),())∧Ok L 3 1 p x p':=by
 intro m
 induction m using Nat.strongRecOn with
 |_ m ih=>
 intro p h hm;have hX:∀lv:Nat,1≤lv→lv≤7→∀q,PI L q→mu L q<m→∃x p',K9 d5 q (lv:Int)=some ((x,p',()),())∧Ok L 3 1 q x p':=fun lv a b q hq hl=>(ih _ hl q hq rfl).2 lv a b;have hU:=a6g hL (hX 1 (by omega) (by omega)) (fun q hq hl=>(ih _ hl q hq rfl).1) h hm;refine⟨hU,?_⟩;have key:∀j lv:Nat,7-lv=j→1≤lv→lv≤7→∃x p',K9 d5 p (lv:Int)=some ((x,p',()),())∧Ok L 3 1 p x p':=by
  intro j
  induction j with
  |zero=>intro lv hj h1 h7;obtain⟨x,p',g,o⟩:=hU;rw[MK,Qv,f6 (by omega),f9,g];exact⟨x,p',rfl,o⟩
  |succ j ihj=>
   intro lv hj h1 h7;have e2:w64 ((lv:Int)+1)=((lv+1:Nat):Int):=(by rw[wrap64 (by omega) (by omega)];omega);obtain⟨x,p1,g1,s1⟩:=ihj (lv+1) (by omega) (by omega) (by omega);have s1a:=s1.le;have s1b:=s1.mono;have s1c:=s1.stay;have s1d:=s1.go;have s1e:=l6 p1;have s1f:=s1.pi.lt;have s1g:=s1.sz;have s1h:=s1.ne;have s1t:=s8 L s1.le;have s1x:=s1.tx;obtain⟨e,he,he1,he2⟩:=b0x lv h1 (by omega);have hb:=l6 p;obtain⟨x',p',g2,o⟩:=b0y hL lv (by omega) e he1 he2 (hX (lv+1) (by omega) (by omega)) (iN p) _ x p1 rfl s1.pi (by
    by_cases c:bn p1=1
    ·exact .inl c
    ·right;have:=IA h s1 (by omega);omega) s1a s1h s1g s1x
   have oa:=o.le;have ob:=o.mono;have oc:=o.stay;have od:=o.sz;have oe:=o.ne;have ot:=o.tx;rw[MK,Qv,d9 (by omega),f8,e2,g1,d6,he,d6,g2];exact⟨x',p',rfl,o.pi,by omega,by omega,fun h=>by omega,fun h=>by omega,by omega,by omega,fun h=>by omega⟩
 exact fun lv=>key _ lv rfl
theorem Ic{L:List l5}(hL:Tk L){p:i5}(h:PI L p):∃x p',K9 d5 p 1=some ((x,p',()),())∧Ok L 3 1 p x p':=(b2q hL _ p h rfl).2 1 (by omega) (by omega)
theorem b3a{L:List l5}(hL:Tk L){m:Nat}(hS:∀q,PI L q→mu L q<m→∃x p',Lw d5 q=some ((x,p',()),())∧Ok L 5 2 q x p')(t:RT5)(htl:pl t.1.1.Ls=0)(i0:Nat):∀(n:Nat) (q:i5) (c:List d7),mu L q=n→PI L q→(bn q=1∨n<m)→i0≤iN q→c.length≤10*(iN q-i0)+5*bn q→(bn q=0→D6 c+tl L i0≤tl L (iN q))→∃x p',rU d5 q t c=some ((x,p',()),())∧PI L p'∧iN q≤iN p'∧bn q≤bn p'∧(bn q=1→iN p'=iN q∧x.length=c.length+1)∧x.length≤10*(iN p'-i0)+5*bn p'+1∧1≤x.length∧(bn p'=0→D6 x+tl L i0≤tl L (iN p')):=by
 intro n;have hs:=hL.small;have tn:=N8;have ln:([]:b38).length=0:=rfl
 induction n using Nat.strongRecOn with
 |_ n ih=>
 intro q c hn h hm h0 hc hct;have hlt:=h.lt;have hb:=l6 q;have fin:∃x p',qN d5 q t c=some ((x,p',()),())∧PI L p'∧iN q≤iN p'∧bn q≤bn p'∧(bn q=1→iN p'=iN q∧x.length=c.length+1)∧x.length≤10*(iN p'-i0)+5*bn p'+1∧1≤x.length∧(bn p'=0→D6 x+tl L i0≤tl L (iN p')):=by have hz:c.length≤50000000:=(by omega);obtain⟨y,g0,hy,hyt⟩:=J1 6 t.1.1 [] 0 c hz htl;obtain⟨p1,g1,s1⟩:=Ez hL h [125];rw[a0g,jM,g0,d6,g1];have s1a:=s1.le;have s1b:=s1.mono;have s1c:=s1.stay;have s1d:=s1.go;have s1e:=l6 p1;have s1f:=s1.pi.lt;have s1t:=s8 L s1.le;exact⟨y,p1,rfl,s1.pi,by omega,by omega,fun h=>by omega,by omega,by omega,fun h=>by omega⟩
 rw[a4K,hY,Cr];by_cases cb:bn q=1
 ·rw[f6 cb];exact fin
 ·rw[d9 cb];simp only[d6,D5,f9];obtain⟨b,h1,h2⟩:=F2 h [125];rw[h1,d6];cases b with
  |true=>exact fin
  |false=>obtain⟨x,p1,g1,s1⟩:=hS q h (by omega);have s1a:=s1.le;have s1b:=s1.mono;have s1c:=s1.stay;have s1d:=s1.go;have s1e:=l6 p1;have s1f:=s1.pi.lt;have s1g:=s1.sz;have s1h:=s1.ne;have s1t:=s8 L s1.le;have s1x:=s1.tx;have hz:c.length+x.length≤100000000:=(by omega);rw[D5,f9,g1,d6,H8 (by decide) hz,d6];have hlt3:=Ci h s1.pi (by omega) (by omega);obtain⟨x',p',r,r1,r2,r3,r4,r5,r6,r7⟩:=ih _ (by omega) p1 (c++x) rfl s1.pi (by omega) (by omega) (by rw[o9];omega) (fun h=>by rw[Le];omega);exact⟨x',p',r,r1,by omega,by omega,fun h=>by omega,r5,r6,r7⟩
theorem a3g{L:List l5}(hL:Tk L){m:Nat}(hS:∀q,PI L q→mu L q<m→∃x p',Lw d5 q=some ((x,p',()),())∧Ok L 5 2 q x p'){p:i5}(h:PI L p)(hm:mu L p=m):∃x p',Fa d5 p=some ((x,p',()),())∧Ok L 3 1 p x p':=by
 have hs:=hL.small;have tn:=N8;have ln:([]:b38).length=0:=rfl;have hlt:=h.lt;have hb:=l6 p;obtain⟨t,ht,ht2⟩:=W7 h;obtain⟨p1,g1,s1⟩:=Da hL h [123];have s1a:=s1.le;have s1b:=s1.mono;have s1c:=s1.stay;have s1d:=s1.go;have s1e:=l6 p1;have s1f:=s1.pi.lt;have s1t:=s8 L s1.le;obtain⟨x,p',r,r1,r2,r3,r4,r5,r6,r7⟩:=b3a hL hS ((t,()),()) (K7 h ht2) (iN p1) _ p1 [] rfl s1.pi (by
  by_cases c:bn p1=1
  ·exact .inl c
  ·right;have:=Fh h s1 (by omega);omega) (i4 _) (by simp) (fun h=>by omega)
 have hb':=l6 p';simp only[L6]at r4;rw[a9d,mU,ht,d6,g1,d6];exact⟨x,p',r,r1,by omega,by omega,fun h=>by omega,fun h=>by omega,by omega,by omega,fun h=>by omega⟩
set_option maxHeartbeats 2000000 in
theorem a06{L:List l5}(hL:Tk L){m:Nat}(hB:∀q,PI L q→mu L q<m→∃x p',Fa d5 q=some ((x,p',()),())∧Ok L 3 1 q x p'){p:i5}(h:PI L p)(hm:mu L p=m):∃x p',Lw d5 p=some ((x,p',()),())∧Ok L 5 2 p x p':=by
 have hs:=hL.small;have tn:=N8;have ln:([]:b38).length=0:=rfl;have hlt:=h.lt;have hb:=l6 p;obtain⟨t,ht,ht2⟩:=W7 h;rw[a4O,Yu,ht,d6];obtain⟨b,h1,h2⟩:=F2 h [118,97,114];rw[h1,d6];cases b with
 |true=>have hg:=(h2 rfl).1;obtain⟨p1,g1,s1⟩:=I8 hL h [118,97,114];obtain⟨t',p2,g2,s2,s2w,s2l⟩:=Lh hL s1.pi 1 (by decide);obtain⟨p3,g3,s3⟩:=I8 hL s2.pi [58];obtain⟨k,p4,g4,s4⟩:=dX hL _ p3 s3.pi rfl;obtain⟨p5,g5,s5⟩:=I8 hL s4.pi [61];obtain⟨x,p6,g6,s6⟩:=Ic hL s5.pi;obtain⟨p7,g7,s7⟩:=I8 hL s6.pi [59];have s1a:=s1.le;have s1b:=s1.mono;have s1c:=s1.stay;have s1d:=s1.go;have s1e:=l6 p1;have s1f:=s1.pi.lt;have s1t:=s8 L s1.le;have s2a:=s2.le;have s2b:=s2.mono;have s2c:=s2.stay;have s2d:=s2.go;have s2e:=l6 p2;have s2f:=s2.pi.lt;have s2t:=s8 L s2.le;have s3a:=s3.le;have s3b:=s3.mono;have s3c:=s3.stay;have s3d:=s3.go;have s3e:=l6 p3;have s3f:=s3.pi.lt;have s3t:=s8 L s3.le;have s4a:=s4.le;have s4b:=s4.mono;have s4c:=s4.stay;have s4d:=s4.go;have s4e:=l6 p4;have s4f:=s4.pi.lt;have s4g:=s4.sz;have s4h:=s4.ne;have s4t:=s8 L s4.le;have s4x:=s4.tx;have s5a:=s5.le;have s5b:=s5.mono;have s5c:=s5.stay;have s5d:=s5.go;have s5e:=l6 p5;have s5f:=s5.pi.lt;have s5t:=s8 L s5.le;have s6a:=s6.le;have s6b:=s6.mono;have s6c:=s6.stay;have s6d:=s6.go;have s6e:=l6 p6;have s6f:=s6.pi.lt;have s6g:=s6.sz;have s6h:=s6.ne;have s6t:=s8 L s6.le;have s6x:=s6.tx;have s7a:=s7.le;have s7b:=s7.mono;have s7c:=s7.stay;have s7d:=s7.go;have s7e:=l6 p7;have s7f:=s7.pi.lt;have s7t:=s8 L s7.le;have hz:k.length+x.length≤50000000:=(by omega);obtain⟨y,k1,hy,hyt⟩:=Dn k x hz;have hz2:y.length≤50000000:=(by omega);obtain⟨z,k2,hz3,hz3t⟩:=J1 7 t t'.Ds 0 y hz2 (K7 h ht2);rw[f9,g1,d6,g2,d6,g3,d6,g4,d6,g5,d6,g6,d6,k1,d6,k2,d6,g7];exact⟨z,p7,rfl,s7.pi,by omega,by omega,fun h=>by omega,fun h=>by omega,by omega,by omega,fun h=>by omega⟩
 |false=>
 rw[f8];obtain⟨b,h1,h2⟩:=F2 h [105,102];rw[h1,d6];cases b with
 |true=>
  have hg:=(h2 rfl).1;obtain⟨p1,g1,s1⟩:=I8 hL h [105,102];have s1a:=s1.le;have s1b:=s1.mono;have s1c:=s1.stay;have s1d:=s1.go;have s1e:=l6 p1;have s1f:=s1.pi.lt;have s1t:=s8 L s1.le;obtain⟨x,p2,g2,s2⟩:=Ic hL s1.pi;have s2a:=s2.le;have s2b:=s2.mono;have s2c:=s2.stay;have s2d:=s2.go;have s2e:=l6 p2;have s2f:=s2.pi.lt;have s2g:=s2.sz;have s2h:=s2.ne;have s2t:=s8 L s2.le;have s2x:=s2.tx;obtain⟨y,p3,g3,s3⟩:=hB p2 s2.pi (by have:=Ci h s2.pi hg (by omega);omega);have s3a:=s3.le;have s3b:=s3.mono;have s3c:=s3.stay;have s3d:=s3.go;have s3e:=l6 p3;have s3f:=s3.pi.lt;have s3g:=s3.sz;have s3h:=s3.ne;have s3t:=s8 L s3.le;have s3x:=s3.tx;have hz:x.length+y.length≤50000000:=(by omega);obtain⟨z,k1,hz1,hz1t⟩:=Dn x y hz;obtain⟨b,h3,h4⟩:=F2 s3.pi [101,108,115,101];rw[f9,g1,d6,g2,d6,g3,d6,k1,d6,h3,d6];cases b with
  |true=>obtain⟨p4,g4,s4⟩:=I8 hL s3.pi [101,108,115,101];have s4a:=s4.le;have s4b:=s4.mono;have s4c:=s4.stay;have s4d:=s4.go;have s4e:=l6 p4;have s4f:=s4.pi.lt;have s4t:=s8 L s4.le;obtain⟨w,p5,g5,s5⟩:=hB p4 s4.pi (by have:=Ci h s4.pi hg (by omega);omega);have s5a:=s5.le;have s5b:=s5.mono;have s5c:=s5.stay;have s5d:=s5.go;have s5e:=l6 p5;have s5f:=s5.pi.lt;have s5g:=s5.sz;have s5h:=s5.ne;have s5t:=s8 L s5.le;have s5x:=s5.tx;have hz2:z.length+w.length≤50000000:=(by omega);obtain⟨u,k2,hu,hut⟩:=Dn z w hz2;have hz3:u.length≤50000000:=(by omega);obtain⟨v,k3,hv,hvt⟩:=J1 9 t [] 0 u hz3 (K7 h ht2);rw[f9,g4,d6,g5,d6,k2,d6,JO,Rr,k3];exact⟨v,p5,rfl,s5.pi,by omega,by omega,fun h=>by omega,fun h=>by omega,by omega,by omega,fun h=>by omega⟩
  |false=>have hz3:z.length≤50000000:=(by omega);obtain⟨v,k3,hv,hvt⟩:=J1 9 t [] 0 z hz3 (K7 h ht2);rw[f8,JO,Rr,k3];exact⟨v,p3,rfl,s3.pi,by omega,by omega,fun h=>by omega,fun h=>by omega,by omega,by omega,fun h=>by omega⟩
 |false=>
 rw[f8];obtain⟨b,h1,h2⟩:=F2 h [119,104,105,108,101];rw[h1,d6];cases b with
 |true=>have hg:=(h2 rfl).1;obtain⟨p1,g1,s1⟩:=I8 hL h [119,104,105,108,101];have s1a:=s1.le;have s1b:=s1.mono;have s1c:=s1.stay;have s1d:=s1.go;have s1e:=l6 p1;have s1f:=s1.pi.lt;have s1t:=s8 L s1.le;obtain⟨x,p2,g2,s2⟩:=Ic hL s1.pi;have s2a:=s2.le;have s2b:=s2.mono;have s2c:=s2.stay;have s2d:=s2.go;have s2e:=l6 p2;have s2f:=s2.pi.lt;have s2g:=s2.sz;have s2h:=s2.ne;have s2t:=s8 L s2.le;have s2x:=s2.tx;obtain⟨y,p3,g3,s3⟩:=hB p2 s2.pi (by have:=Ci h s2.pi hg (by omega);omega);have s3a:=s3.le;have s3b:=s3.mono;have s3c:=s3.stay;have s3d:=s3.go;have s3e:=l6 p3;have s3f:=s3.pi.lt;have s3g:=s3.sz;have s3h:=s3.ne;have s3t:=s8 L s3.le;have s3x:=s3.tx;have hz:x.length+y.length≤50000000:=(by omega);obtain⟨z,k1,hz1,hz1t⟩:=Dn x y hz;have hz3:z.length≤50000000:=(by omega);obtain⟨v,k3,hv,hvt⟩:=J1 10 t [] 0 z hz3 (K7 h ht2);rw[f9,g1,d6,g2,d6,g3,d6,k1,d6,k3];exact⟨v,p3,rfl,s3.pi,by omega,by omega,fun h=>by omega,fun h=>by omega,by omega,by omega,fun h=>by omega⟩
 |false=>
 rw[f8];obtain⟨b,h1,h2⟩:=F2 h [114,101,116,117,114,110];rw[h1,d6];cases b with
 |true=>
  have hg:=(h2 rfl).1;obtain⟨p1,g1,s1⟩:=I8 hL h [114,101,116,117,114,110];have s1a:=s1.le;have s1b:=s1.mono;have s1c:=s1.stay;have s1d:=s1.go;have s1e:=l6 p1;have s1f:=s1.pi.lt;have s1t:=s8 L s1.le;obtain⟨b,h3,h4⟩:=F2 s1.pi [59];rw[f9,g1,d6,h3,d6];cases b with
  |true=>obtain⟨v,k3,hv,hvt⟩:=J1 11 t [] 0 [] (by simp) (K7 h ht2);obtain⟨p2,g2,s2⟩:=I8 hL s1.pi [59];have s2a:=s2.le;have s2b:=s2.mono;have s2c:=s2.stay;have s2d:=s2.go;have s2e:=l6 p2;have s2f:=s2.pi.lt;have s2t:=s8 L s2.le;simp only[L6]at hv;rw[A2,f8,IF,Vu,k3,d6,g2];exact⟨v,p2,rfl,s2.pi,by omega,by omega,fun h=>by omega,fun h=>by omega,by omega,by omega,fun h=>by omega⟩
  |false=>obtain⟨x,p2,g2,s2⟩:=Ic hL s1.pi;have s2a:=s2.le;have s2b:=s2.mono;have s2c:=s2.stay;have s2d:=s2.go;have s2e:=l6 p2;have s2f:=s2.pi.lt;have s2g:=s2.sz;have s2h:=s2.ne;have s2t:=s8 L s2.le;have s2x:=s2.tx;obtain⟨p3,g3,s3⟩:=I8 hL s2.pi [59];have s3a:=s3.le;have s3b:=s3.mono;have s3c:=s3.stay;have s3d:=s3.go;have s3e:=l6 p3;have s3f:=s3.pi.lt;have s3t:=s8 L s3.le;have hz:x.length≤50000000:=(by omega);obtain⟨v,k3,hv,hvt⟩:=J1 11 t [] 0 x hz (K7 h ht2);rw[D5,f9,g2,d6,IF,Vu,k3,d6,g3];exact⟨v,p3,rfl,s3.pi,by omega,by omega,fun h=>by omega,fun h=>by omega,by omega,by omega,fun h=>by omega⟩
 |false=>
 rw[f8];obtain⟨b,h1,h2⟩:=F2 h [112,114,105,110,116];rw[h1,d6];cases b with
 |true=>have hg:=(h2 rfl).1;obtain⟨p1,g1,s1⟩:=I8 hL h [112,114,105,110,116];have s1a:=s1.le;have s1b:=s1.mono;have s1c:=s1.stay;have s1d:=s1.go;have s1e:=l6 p1;have s1f:=s1.pi.lt;have s1t:=s8 L s1.le;obtain⟨x,p2,g2,s2⟩:=Ic hL s1.pi;have s2a:=s2.le;have s2b:=s2.mono;have s2c:=s2.stay;have s2d:=s2.go;have s2e:=l6 p2;have s2f:=s2.pi.lt;have s2g:=s2.sz;have s2h:=s2.ne;have s2t:=s8 L s2.le;have s2x:=s2.tx;obtain⟨p3,g3,s3⟩:=I8 hL s2.pi [59];have s3a:=s3.le;have s3b:=s3.mono;have s3c:=s3.stay;have s3d:=s3.go;have s3e:=l6 p3;have s3f:=s3.pi.lt;have s3t:=s8 L s3.le;have hz:x.length≤50000000:=(by omega);obtain⟨v,k3,hv,hvt⟩:=J1 12 t [] 0 x hz (K7 h ht2);rw[f9,g1,d6,g2,d6,k3,d6,g3];exact⟨v,p3,rfl,s3.pi,by omega,by omega,fun h=>by omega,fun h=>by omega,by omega,by omega,fun h=>by omega⟩
 |false=>
 rw[f8];obtain⟨x,p1,g1,s1⟩:=Ic hL h;have s1a:=s1.le;have s1b:=s1.mono;have s1c:=s1.stay;have s1d:=s1.go;have s1e:=l6 p1;have s1f:=s1.pi.lt;have s1g:=s1.sz;have s1h:=s1.ne;have s1t:=s8 L s1.le;have s1x:=s1.tx;have hx0:0<x.length:=(by omega);have hx1:f5 x 0=some x[0]:=l4 (i:=0) hx0;have hz:x.length≤50000000:=(by omega);have j4:∀q,PI L q→iN p1≤iN q→bn p1≤bn q→(bn p1=1→iN q=iN p1)→∃x1 p',Qi d5 ((x,p1,()),()) q ((t,()),())=some ((x1,p',()),())∧Ok L 5 2 p x1 p':=by intro q hq e1 e2 e3;have e1t:=s8 L e1;obtain⟨v,k3,hv,hvt⟩:=J1 13 t [] 0 x hz (K7 h ht2);obtain⟨p3,g3,s3⟩:=I8 hL hq [59];have s3a:=s3.le;have s3b:=s3.mono;have s3c:=s3.stay;have s3d:=s3.go;have s3e:=l6 p3;have s3f:=s3.pi.lt;have s3t:=s8 L s3.le;simp only[b2P,eF];rw[k3,d6,g3];exact⟨v,p3,rfl,s3.pi,by omega,by omega,fun h=>by omega,fun h=>by omega,by omega,by omega,fun h=>by omega⟩
 have j3:∃x1 p',hH d5 ((x,p1,()),()) ((t,()),())=some ((x1,p',()),())∧Ok L 5 2 p x1 p':=by obtain⟨p2,g2,s2,s3⟩:=Iv s1.pi 5 (by decide);have s2a:=s2.le;have s2b:=s2.mono;have s2c:=s2.stay;have s2d:=s2.go;have s2e:=l6 p2;have s2f:=s2.pi.lt;have s2t:=s8 L s2.le;obtain⟨x1,p',q1,q2⟩:=j4 p2 s2.pi (by omega) (by omega) (fun h=>by omega);simp only[a7q,sD];rw[g2,d6];exact⟨x1,p',q1,q2⟩
 have j2:bn p1=0→∃x1 p',Tj d5 ((x,p1,()),()) ((t,()),())=some ((x1,p',()),())∧Ok L 5 2 p x1 p':=by intro hgood;obtain⟨p2,g2,s2⟩:=I8 hL s1.pi [61];have s2a:=s2.le;have s2b:=s2.mono;have s2c:=s2.stay;have s2d:=s2.go;have s2e:=l6 p2;have s2f:=s2.pi.lt;have s2t:=s8 L s2.le;obtain⟨y,p3,g3,s3⟩:=Ic hL s2.pi;have s3a:=s3.le;have s3b:=s3.mono;have s3c:=s3.stay;have s3d:=s3.go;have s3e:=l6 p3;have s3f:=s3.pi.lt;have s3g:=s3.sz;have s3h:=s3.ne;have s3t:=s8 L s3.le;have s3x:=s3.tx;have hz1:x.length+y.length≤50000000:=(by omega);obtain⟨z,k1,hz2,hz2t⟩:=Dn x y hz1;have hz3:z.length≤50000000:=(by omega);obtain⟨v,k3,hv,hvt⟩:=J1 8 t [] 0 z hz3 (K7 h ht2);obtain⟨p4,g4,s4⟩:=I8 hL s3.pi [59];have s4a:=s4.le;have s4b:=s4.mono;have s4c:=s4.stay;have s4d:=s4.go;have s4e:=l6 p4;have s4f:=s4.pi.lt;have s4t:=s8 L s4.le;simp only[a2M,mR];rw[g2,d6,g3,d6,k1,d6,k3,d6,g4];exact⟨v,p4,rfl,s4.pi,by omega,by omega,fun h=>by omega,fun h=>by omega,by omega,by omega,fun h=>by omega⟩
 have j5:∃x1 p',cA d5 ((x,p1,()),()) x[0] ((t,()),())=some ((x1,p',()),())∧Ok L 5 2 p x1 p':=by
  obtain⟨b,h3,h4⟩:=F2 s1.pi [61];obtain⟨b2,h5,h6⟩:=F2 s1.pi [59];have e:=j4 p1 s1.pi (i4 _) (i4 _) (fun _=>rfl);simp only[b1P,qJ];rw[h3,d6];cases b with
  |true=>exact j3
  |false=>
   rw[f8,h5,d6];cases b2 with
   |false=>exact e
   |true=>
    rw[f9];cases decide (x[0].Ks=27)with
    |true=>exact e
    |false=>exact j3
 obtain⟨b,h3,h4⟩:=F2 s1.pi [61];rw[g1,d6,hx1,d6,h3,d6];cases b with
 |false=>exact j5
 |true=>
  have hgood:=(h4 rfl).1;rw[f9];cases decide (x[0].Ks=26)with
  |true=>exact j2 hgood
  |false=>
   rw[f8];cases decide (x[0].Ks=28)with
   |true=>exact j2 hgood
   |false=>
    rw[f8];cases decide (x[0].Ks=29)with
    |true=>exact j2 hgood
    |false=>exact j5
theorem b0A{L:List l5}(hL:Tk L):∀(m:Nat) (p:i5),PI L p→mu L p=m→(∃x p',Lw d5 p=some ((x,p',()),())∧Ok L 5 2 p x p')∧∃x p',Fa d5 p=some ((x,p',()),())∧Ok L 3 1 p x p':=by
 intro m
 induction m using Nat.strongRecOn with
 |_ m ih=>
 intro p h hm;exact⟨a06 hL (fun q hq hl=>(ih _ hl q hq rfl).2) h hm,a3g hL (fun q hq hl=>(ih _ hl q hq rfl).1) h hm⟩
theorem a9C{L:List l5}(hL:Tk L){p:i5}(h:PI L p):∃x p',Fa d5 p=some ((x,p',()),())∧Ok L 3 1 p x p':=(b0A hL _ p h rfl).2
structure Lq(L:List l5)(i0 k b:Nat)(q:i5)(c:List d7)(x:List d7)(p':i5):Prop where
 pi:PI L p'
 le:iN q≤iN p'
 mono:bn q≤bn p'
 stay:bn q=1→iN p'=iN q∧x.length≤c.length+k
 sz:x.length≤10*(iN p'-i0)+8*bn p'+k
 ne:1≤x.length
 tx:bn p'=0→D6 x+tl L i0≤tl L (iN p')+b
theorem a74{L:List l5}(hL:Tk L)(t:RT5)(w:J6)(htl:pl t.1.1.Ls=0)(i0:Nat):∀(n:Nat) (q:i5) (c:List d7),mu L q=n→PI L q→i0≤iN q→c.length≤10*(iN q-i0)+4*bn q→(bn q=0→D6 c+tl L i0≤tl L (iN q))→∃x p',Yy d5 q t w c=some ((x,p',()),())∧Lq L i0 1 w.1.1.Ds.length q c x p':=by
 intro n;have hs:=hL.small;have tn:=N8;have ln:([]:b38).length=0:=rfl
 induction n using Nat.strongRecOn with
 |_ n ih=>
 intro q c hn h h0 hc hct;have hlt:=h.lt;have hb:=l6 q;have fin:∃x p',mK d5 q t w c=some ((x,p',()),())∧Lq L i0 1 w.1.1.Ds.length q c x p':=by have hz:c.length≤50000000:=(by omega);obtain⟨y,g0,hy,hyt⟩:=J1 2 t.1.1 w.1.1.Ds 0 c hz htl;obtain⟨p1,g1,s1⟩:=Ez hL h [125];rw[b3e,bN,g0,d6,g1];have s1a:=s1.le;have s1b:=s1.mono;have s1c:=s1.stay;have s1d:=s1.go;have s1e:=l6 p1;have s1f:=s1.pi.lt;have s1t:=s8 L s1.le;exact⟨y,p1,rfl,s1.pi,by omega,by omega,fun h=>by omega,by omega,by omega,fun h=>by omega⟩
 rw[a9w,dB,Cr];by_cases cb:bn q=1
 ·rw[f6 cb];exact fin
 ·rw[d9 cb];simp only[d6,D5,f9];obtain⟨b,h1,h2⟩:=F2 h [125];rw[h1,d6];cases b with
  |true=>exact fin
  |false=>obtain⟨x,p1,g1,s1⟩:=UE hL h 3;have s1a:=s1.le;have s1b:=s1.mono;have s1c:=s1.stay;have s1d:=s1.go;have s1e:=l6 p1;have s1f:=s1.pi.lt;have s1g:=s1.sz;have s1h:=s1.ne;have s1t:=s8 L s1.le;have s1x:=s1.tx;obtain⟨p2,g2,s2⟩:=I8 hL s1.pi [59];have s2a:=s2.le;have s2b:=s2.mono;have s2c:=s2.stay;have s2d:=s2.go;have s2e:=l6 p2;have s2f:=s2.pi.lt;have s2t:=s8 L s2.le;have hz:c.length+x.length≤100000000:=(by omega);rw[D5,f9,g1,d6,g2,d6,H8 (by decide) hz,d6];have hlt3:=Ci h s2.pi (by omega) (by omega);obtain⟨x',p',r,o⟩:=ih _ (by omega) p2 (c++x) rfl s2.pi (by omega) (by rw[o9];omega) (fun h=>by rw[Le];omega);have oa:=o.le;have ob:=o.mono;have oc:=o.stay;exact⟨x',p',r,o.pi,by omega,by omega,fun h=>by omega,o.sz,o.ne,o.tx⟩
theorem a8k{L:List l5}(hL:Tk L){p:i5}(h:PI L p):∃x p',CB d5 p=some ((x,p',()),())∧Ok L 9 1 p x p':=by have hs:=hL.small;have tn:=N8;have ln:([]:b38).length=0:=rfl;have hlt:=h.lt;have hb:=l6 p;obtain⟨t,ht,ht2⟩:=W7 h;obtain⟨p1,g1,s1⟩:=I8 hL h [114,101,99];obtain⟨w,p2,g2,s2,s2w,s2l⟩:=Lh hL s1.pi 2 (by decide);obtain⟨p3,g3,s3⟩:=Da hL s2.pi [123];have s1a:=s1.le;have s1b:=s1.mono;have s1c:=s1.stay;have s1d:=s1.go;have s1e:=l6 p1;have s1f:=s1.pi.lt;have s1t:=s8 L s1.le;have s2a:=s2.le;have s2b:=s2.mono;have s2c:=s2.stay;have s2d:=s2.go;have s2e:=l6 p2;have s2f:=s2.pi.lt;have s2t:=s8 L s2.le;have s3a:=s3.le;have s3b:=s3.mono;have s3c:=s3.stay;have s3d:=s3.go;have s3e:=l6 p3;have s3f:=s3.pi.lt;have s3t:=s8 L s3.le;obtain⟨x,p',r,o⟩:=a74 hL ((t,()),()) ((w,p2,()),()) (K7 h ht2) (iN p3) _ p3 [] rfl s3.pi (i4 _) (by simp) (fun h=>by omega);have oa:=o.le;have ob:=o.mono;have oc:=o.stay;have od:=o.sz;have oe:=o.ne;have of:=l6 p';have ot:=o.tx;simp only at ot;simp only[L6]at oc;rw[a4A,Zr,ht,d6,g1,d6,g2,d6,g3,d6];exact⟨x,p',r,o.pi,by omega,by omega,fun h=>by omega,fun h=>by omega,by omega,by omega,fun h=>by omega⟩
theorem IU{L:List l5}(hL:Tk L)(a:Int)(t:RT5)(w:J6)(htl:pl t.1.1.Ls=0){q:i5}(h:PI L q)(e f:List d7)(he:e.length+f.length≤20000000):∃x p',fJ d5 a q t w e f=some ((x,p',()),())∧∃y,Ok L 3 1 q y p'∧x.length=e.length+f.length+y.length+1∧D6 x=w.1.1.Ds.length+(D6 e+D6 f+D6 y):=by have hs:=hL.small;have tn:=N8;have ln:([]:b38).length=0:=rfl;have hlt:=h.lt;obtain⟨y,p1,g1,s1⟩:=a9C hL h;have s1a:=s1.le;have s1b:=s1.mono;have s1c:=s1.stay;have s1d:=s1.go;have s1e:=l6 p1;have s1f:=s1.pi.lt;have s1g:=s1.sz;have s1h:=s1.ne;have s1t:=s8 L s1.le;have s1x:=s1.tx;have hz1:e.length+f.length≤50000000:=(by omega);obtain⟨u,k1,hu,hut⟩:=Dn e f hz1;have hz2:u.length+y.length≤50000000:=(by omega);obtain⟨v,k2,hv,hvt⟩:=Dn u y hz2;have hz3:v.length≤50000000:=(by omega);obtain⟨z,k3,hz,hzt⟩:=J1 4 t.1.1 w.1.1.Ds a v hz3 htl;rw[a0t,kF,g1,d6,k1,d6,k2,d6,k3];exact⟨z,p1,rfl,y,s1,by omega,by omega⟩
set_option maxHeartbeats 2000000 in
theorem a0x{L:List l5}(hL:Tk L)(t:RT5)(w:J6)(htl:pl t.1.1.Ls=0)(i0:Nat):∀(n:Nat) (a:Int) (q:i5) (c:List d7),mu L q=n→PI L q→i0≤iN q→c.length≤10*(iN q-i0)+4*bn q→(bn q=0→D6 c+tl L i0≤tl L (iN q))→∃x p',rH d5 a q t w c=some ((x,p',()),())∧Lq L i0 9 w.1.1.Ds.length q c x p':=by
 intro n;have hs:=hL.small;have tn:=N8;have ln:([]:b38).length=0:=rfl
 induction n using Nat.strongRecOn with
 |_ n ih=>
 intro a q c hn h h0 hc hct;have hlt:=h.lt;have hb:=l6 q;have fin:∃x p',Yp d5 a q t w c=some ((x,p',()),())∧Lq L i0 9 w.1.1.Ds.length q c x p':=by
  obtain⟨p1,g1,s1⟩:=Ez hL h [41];have s1a:=s1.le;have s1b:=s1.mono;have s1c:=s1.stay;have s1d:=s1.go;have s1e:=l6 p1;have s1f:=s1.pi.lt;have s1t:=s8 L s1.le;obtain⟨b,h1,h2⟩:=F2 s1.pi [58];rw[a1T,bT,g1,d6,h1,d6];cases b with
  |true=>obtain⟨p2,g2,s2⟩:=I8 hL s1.pi [58];have s2a:=s2.le;have s2b:=s2.mono;have s2c:=s2.stay;have s2d:=s2.go;have s2e:=l6 p2;have s2f:=s2.pi.lt;have s2t:=s8 L s2.le;obtain⟨k,p3,g3,s3⟩:=dX hL _ p2 s2.pi rfl;have s3a:=s3.le;have s3b:=s3.mono;have s3c:=s3.stay;have s3d:=s3.go;have s3e:=l6 p3;have s3f:=s3.pi.lt;have s3g:=s3.sz;have s3h:=s3.ne;have s3t:=s8 L s3.le;have s3x:=s3.tx;have hz:c.length+k.length≤20000000:=(by omega);obtain⟨x,p',g4,y,s4,hy,hyt⟩:=IU hL a t w htl s3.pi c k hz;have s4a:=s4.le;have s4b:=s4.mono;have s4c:=s4.stay;have s4d:=s4.go;have s4e:=l6 p';have s4f:=s4.pi.lt;have s4g:=s4.sz;have s4h:=s4.ne;have s4t:=s8 L s4.le;have s4x:=s4.tx;rw[f9,g2,d6,g3,d6];have hg:=(h2 rfl).1;exact⟨x,p',g4,s4.pi,by omega,by omega,fun h=>by omega,by omega,by omega,fun h=>by omega⟩
  |false=>have hz:c.length+ [(d7.mk 14 0 0 0 0 ([]:b38))].length≤20000000:=(by rw[A3];omega);obtain⟨x,p',g4,y,s4,hy,hyt⟩:=IU hL a t w htl s1.pi c [(d7.mk 14 0 0 0 0 ([]:b38))] hz;have s4a:=s4.le;have s4b:=s4.mono;have s4c:=s4.stay;have s4d:=s4.go;have s4e:=l6 p';have s4f:=s4.pi.lt;have s4g:=s4.sz;have s4h:=s4.ne;have s4t:=s8 L s4.le;have s4x:=s4.tx;rw[A3]at hy;rw[vX]at hyt;simp only at hyt;have pl0:pl 0=0:=if_pos (by decide);rw[f8];exact⟨x,p',g4,s4.pi,by omega,by omega,fun h=>by omega,by omega,by omega,fun h=>by omega⟩
 rw[b1o,nB,Cr];by_cases cb:bn q=1
 ·rw[f6 cb];exact fin
 ·rw[d9 cb];simp only[d6,D5,f9];obtain⟨b,h1,h2⟩:=F2 h [41];rw[h1,d6];cases b with
  |true=>exact fin
  |false=>
   have body:∀q1,PI L q1→iN q≤iN q1→bn q≤bn q1→∃x p',Zg d5 a q1 t w c=some ((x,p',()),())∧Lq L i0 9 w.1.1.Ds.length q c x p':=by intro q1 hq1 k1 k2;obtain⟨x,p2,g2,s2⟩:=UE hL hq1 5;have s2a:=s2.le;have s2b:=s2.mono;have s2c:=s2.stay;have s2d:=s2.go;have s2e:=l6 p2;have s2f:=s2.pi.lt;have s2g:=s2.sz;have s2h:=s2.ne;have s2t:=s8 L s2.le;have s2x:=s2.tx;have hb1:=l6 q1;have hq1lt:=hq1.lt;have kt:=s8 L k1;have hz:c.length+x.length≤100000000:=(by omega);rw[a4J,fM,g2,d6,H8 (by decide) hz,d6];have hlt3:=Ci h s2.pi (by omega) (by omega);obtain⟨x',p',r,o⟩:=ih _ (by omega) (w64 (a+1)) p2 (c++x) rfl s2.pi (by omega) (by rw[o9];omega) (fun h=>by rw[Le];omega);have oa:=o.le;have ob:=o.mono;have oc:=o.stay;exact⟨x',p',r,o.pi,by omega,by omega,fun h=>by omega,o.sz,o.ne,o.tx⟩
   rw[D5,f9];cases decide (a>0)with
   |false=>exact body q h (i4 _) (i4 _)
   |true=>obtain⟨p1,g1,s1⟩:=I8 hL h [44];rw[f9,g1,d6];exact body p1 s1.pi s1.le s1.mono
theorem a3p{L:List l5}(hL:Tk L){p:i5}(h:PI L p):∃x p',CZ d5 p=some ((x,p',()),())∧Ok L 17 9 p x p':=by have hs:=hL.small;have tn:=N8;have ln:([]:b38).length=0:=rfl;have hlt:=h.lt;have hb:=l6 p;obtain⟨t,ht,ht2⟩:=W7 h;obtain⟨p1,g1,s1⟩:=I8 hL h [102,110];obtain⟨w,p2,g2,s2,s2w,s2l⟩:=Lh hL s1.pi 1 (by decide);obtain⟨p3,g3,s3⟩:=Da hL s2.pi [40];have s1a:=s1.le;have s1b:=s1.mono;have s1c:=s1.stay;have s1d:=s1.go;have s1e:=l6 p1;have s1f:=s1.pi.lt;have s1t:=s8 L s1.le;have s2a:=s2.le;have s2b:=s2.mono;have s2c:=s2.stay;have s2d:=s2.go;have s2e:=l6 p2;have s2f:=s2.pi.lt;have s2t:=s8 L s2.le;have s3a:=s3.le;have s3b:=s3.mono;have s3c:=s3.stay;have s3d:=s3.go;have s3e:=l6 p3;have s3f:=s3.pi.lt;have s3t:=s8 L s3.le;obtain⟨x,p',r,o⟩:=a0x hL ((t,()),()) ((w,p2,()),()) (K7 h ht2) (iN p3) _ 0 p3 [] rfl s3.pi (i4 _) (by simp) (fun h=>by omega);have oa:=o.le;have ob:=o.mono;have oc:=o.stay;have od:=o.sz;have oe:=o.ne;have of:=l6 p';have ot:=o.tx;simp only at ot;simp only[L6]at oc;rw[a4b,eK,ht,d6,g1,d6,g2,d6,g3,d6];exact⟨x,p',r,o.pi,by omega,by omega,fun h=>by omega,fun h=>by omega,by omega,by omega,fun h=>by omega⟩
theorem b2D{L:List l5}(hL:Tk L):∀(n:Nat) (q:i5) (c:List d7),mu L q=n→PI L q→c.length≤10*iN q+20*bn q→(bn q=0→D6 c≤tl L (iN q))→∃x p',iV d5 q c=some ((x,p',()),())∧PI L p'∧1≤x.length∧x.length≤10*iN p'+21∧(bn p'=0→D6 x≤tl L (iN p')):=by
 intro n;have hs:=hL.small;have tn:=N8;have ln:([]:b38).length=0:=rfl
 induction n using Nat.strongRecOn with
 |_ n ih=>
 intro q c hn h hc hct;have hlt:=h.lt;have hb:=l6 q;have fin:∃x p',Yi d5 q c=some ((x,p',()),())∧PI L p'∧1≤x.length∧x.length≤10*iN p'+21∧(bn p'=0→D6 x≤tl L (iN p')):=by have hz:c.length≤50000000:=(by omega);obtain⟨y,g0,hy,hyt⟩:=J1 1 (l5.mk 0 1 1 0 ([]:b38)) [] 0 c hz (if_pos (by decide));rw[b1M,gW,g0];exact⟨y,q,rfl,h,by omega,by omega,fun h=>by omega⟩
 have body:∀(p1:i5) (x:List d7),bn q=0→PI L p1→iN q≤iN p1→(bn p1=1∨iN q<iN p1)→x.length≤10*(iN p1-iN q)+20*bn p1→(bn p1=0→D6 x+tl L (iN q)≤tl L (iN p1))→∃x' p',Tu d5 p1 c x=some ((x',p',()),())∧PI L p'∧1≤x'.length∧x'.length≤10*iN p'+21∧(bn p'=0→D6 x'≤tl L (iN p')):=by intro p1 x hg hp k1 k2 k3 k4;have hb1:=l6 p1;have hl1:=hp.lt;have hz:c.length+x.length≤100000000:=(by omega);rw[a6t,kZ,H8 (by decide) hz,d6];have hlt3:=Ci h hp hg k2;exact ih _ (by omega) p1 (c++x) rfl hp (by rw[o9];omega) (fun h=>by rw[Le];have:=hct hg;have:=k4 h;omega)
 rw[a6Y,eM,Cr];by_cases cb:bn q=1
 ·rw[f6 cb];exact fin
 ·have hg:bn q=0:=(by omega);obtain⟨t,ht,ht2⟩:=W7 h;rw[d9 cb];simp only[d6,D5,f9];rw[ht];simp only[d6];by_cases c8:t.Ks=8
  ·rw[f6 c8];exact fin
  rw[d9 c8,D5,f9];obtain⟨b,h1,h2⟩:=F2 h [114,101,99];rw[h1,d6];cases b with
  |true=>obtain⟨x,p1,g1,s1⟩:=a8k hL h;have s1a:=s1.le;have s1b:=s1.mono;have s1c:=s1.stay;have s1d:=s1.go;have s1e:=l6 p1;have s1f:=s1.pi.lt;have s1g:=s1.sz;have s1h:=s1.ne;have s1t:=s8 L s1.le;have s1x:=s1.tx;rw[f9,g1,d6];exact body p1 x hg s1.pi (by omega) (by omega) (by omega) s1x
  |false=>
   obtain⟨b,h1,h2⟩:=F2 h [102,110];rw[f8,h1,d6];cases b with
   |true=>obtain⟨x,p1,g1,s1⟩:=a3p hL h;have s1a:=s1.le;have s1b:=s1.mono;have s1c:=s1.stay;have s1d:=s1.go;have s1e:=l6 p1;have s1f:=s1.pi.lt;have s1g:=s1.sz;have s1h:=s1.ne;have s1t:=s8 L s1.le;have s1x:=s1.tx;rw[f9,g1,d6];exact body p1 x hg s1.pi (by omega) (by omega) (by omega) s1x
   |false=>obtain⟨p1,g1,s1,hb1⟩:=Iv h 5 (by decide);have s1a:=s1.le;have s1b:=s1.mono;have s1c:=s1.stay;have s1d:=s1.go;have s1e:=l6 p1;have s1f:=s1.pi.lt;have s1t:=s8 L s1.le;rw[f8,g1,d6];exact body p1 [] hg s1.pi (by omega) (by omega) (by simp) (fun h=>by omega)
theorem a98{L:List l5}(x:List d7){p:i5}(h:PI L p):∃y f,yC d5 x p=some ((y,f,()),())∧(y=x∧bn p=0∨y=[]):=by
 obtain⟨t,ht,ht2⟩:=W7 h;have j0:∀q,bn p≤bn q→∃y f,cZ d5 x q=some ((y,f,()),())∧(y=x∧bn p=0∨y=[]):=by
  intro q hpq;rw[a2e,dH,Cr];have hbq:=l6 q;by_cases c:bn q=1
  ·rw[f6 c];exact⟨_,_,rfl,.inr rfl⟩
  ·rw[d9 c];exact⟨_,_,rfl,.inl ⟨rfl,by omega⟩⟩
 rw[b03,mO,ht];simp only[d6];cases decide (t.Ks=8)with
 |true=>exact j0 p (i4 _)
 |false=>obtain⟨p1,g1,s1,hb1⟩:=Iv h 5 (by decide);rw[D5,f9,g1];exact j0 p1 s1.mono
theorem b1y{s:b38}{L:List l5}{f:x8}(hT:sL d5 s=some ((L,f,()),()))(hL:f.Code=0→Tk L∧0<L.length∧∀t∈L,pl t.Ls=0):∃x f',nG d5 s=some ((x,f',()),())∧x.length≤10*L.length+21∧D6 x≤tl L L.length:=by
 rw[a65,kP,hT];simp only[d6];by_cases c:f.Code=0
 ·rw[f6 c];obtain⟨h1,h2,h3⟩:=hL c;obtain⟨x,p,g1,hp,hx,hx2,hx3⟩:=b2D h1 _ ⟨L,0,0,⟨0,0,0⟩⟩ [] rfl ⟨rfl,rfl,h2,h3⟩ (by simp) (fun _=>by rw[N8];exact C9 _);obtain⟨y,f',g2,hy⟩:=a98 x hp;have hlt:=hp.lt;rw[A2,f8,a4s,Zj,g1,d6,g2];refine⟨y,f',rfl,?_⟩;have hm:=s8 L (Nat.le_of_lt hlt);rcases hy with⟨rfl,hb⟩|rfl
  ·exact⟨by omega,by have:=hx3 hb;omega⟩
  ·exact⟨by simp,by rw[N8];omega⟩
 ·rw[d9 c];exact⟨_,_,rfl,by simp,by rw[N8];omega⟩
theorem T7{p:Prop} [Decidable p](h:p):okP p=some ():=if_pos h
theorem y9{i:Nat}(h:i≤1000000000000):w64 ((i:Int)+1)=((i+1:Nat):Int):=by rw[wrap64 (by omega) (by omega)];omega
theorem JR(s:b38)(hs:s.length≤65536):∀(m i:Nat) (c:Bool),s.length-i=m→i≤s.length→∃k:Nat,Cd d5 s (i:Int) c=some (((k:Int),()),())∧i≤k∧k≤s.length:=by
 intro m
 induction m with
 |zero=>intro i c hm hi;rw[LF,Qb1,d9 (by omega),a5E,Qb4];exact⟨i,rfl,by omega,by omega⟩
 |succ m ih=>
  intro i c hm hi;have hil:i<s.length:=(by omega);have next:∀c',∃k:Nat,Cd d5 s ((i+1:Nat):Int) c'=some (((k:Int),()),())∧i≤k∧k≤s.length:=fun c'=>by obtain⟨k,h1,h2,h3⟩:=ih (i+1) c' (by omega) (by omega);exact⟨k,h1,by omega,h3⟩
  have j1:∀c',∃k:Nat,bJ d5 s (i:Int) c' s[i]=some (((k:Int),()),())∧i≤k∧k≤s.length:=by
   intro c';rw[b0o,Qb2,y9 (by omega)];cases c' with
   |true=>exact next true
   |false=>
    rw[D5,f9];cases decide ((s[i].toNat:Int)=32)with
    |true=>exact next false
    |false=>
     rw[D5,f9];cases decide ((s[i].toNat:Int)=9)with
     |true=>exact next false
     |false=>
      rw[D5,f9];cases decide ((s[i].toNat:Int)=13)with
      |true=>exact next false
      |false=>
       rw[D5,f9];cases decide ((s[i].toNat:Int)=10)with
       |true=>exact next false
       |false=>exact⟨i,rfl,by omega,by omega⟩
  have j2:∀c',∃k:Nat,rJ d5 s (i:Int) c' s[i]=some (((k:Int),()),())∧i≤k∧k≤s.length:=by
   intro c';rw[YX,Qb3];cases decide ((s[i].toNat:Int)=10)with
   |true=>exact j1 false
   |false=>exact j1 c'
  rw[LF,Qb1,f6 (by omega),f9,l4 hil,d6];cases decide ((s[i].toNat:Int)=35)with
  |true=>exact j2 true
  |false=>exact j2 c
theorem a1Y(s:b38)(n:Nat)(hn:n≤s.length)(hs:s.length≤65536):∀(m i:Nat) (c d:Int),n-i=m→0≤c→c≤i+1→i≤n→∃x y,Pp d5 s (n:Int) c d (i:Int)=some ((x,y,()),())∧0≤x∧x≤(n:Int)+1:=by
 intro m
 induction m with
 |zero=>intro i c d hm h0 h1 h2;rw[FP,Qb6,d9 (by omega),b2b,Qb7];exact⟨_,_,rfl,h0,by omega⟩
 |succ m ih=>
  intro i c d hm h0 h1 h2;have hil:i<s.length:=(by omega);have e1:w64 (c+1)=c+1:=wrap64 (by omega) (by omega);rw[FP,Qb6,f6 (by omega),f9,l4 hil,d6,y9 (by omega)];cases decide ((s[i].toNat:Int)=10)with
  |true=>exact ih (i+1) _ _ (by omega) (by omega) (by omega) (by omega)
  |false=>exact ih (i+1) _ _ (by omega) (by omega) (by omega) (by omega)
theorem xY(a:Int):∃k:Int,Gj d5 a=some ((k,()),())∧0≤k∧k≤3:=by
 have j2:∃k:Int,rS d5=some ((k,()),())∧0≤k∧k≤3:=⟨0,b1V,by omega,by omega⟩;have j0:∃k:Int,Yh d5 a=some ((k,()),())∧0≤k∧k≤3:=by
  rw[YS,Qb9];cases decide (a≥48)with
  |false=>exact j2
  |true=>
   rw[f9];cases decide (a≤57)with
   |false=>exact j2
   |true=>exact⟨3,rfl,by omega,by omega⟩
 have j1:∃k:Int,So d5 a=some ((k,()),())∧0≤k∧k≤3:=by
  rw[a61,jT];cases decide (a≥65)with
  |false=>exact j0
  |true=>
   rw[f9];cases decide (a≤90)with
   |false=>exact j0
   |true=>exact⟨2,rfl,by omega,by omega⟩
 have j3:∃k:Int,(cond (decide (a=95)) (some ((1,()),())) ((So d5 a)))=some ((k,()),())∧0≤k∧k≤3:=by
  cases decide (a=95)with
  |false=>exact j1
  |true=>exact⟨1,rfl,by omega,by omega⟩
 rw[a2i,Qb8];cases decide (a≥97)with
 |false=>exact j3
 |true=>
  rw[f9];cases decide (a≤122)with
  |false=>exact j3
  |true=>exact⟨1,rfl,by omega,by omega⟩
theorem JM(s:b38)(hs:s.length≤65536):∀(m i:Nat),s.length-i=m→i≤s.length→∃k:Nat,iO d5 s (i:Int)=some (((k:Int),()),())∧i≤k∧k≤s.length∧∀(h:i<s.length) (q:Int),Gj d5 (s[i].toNat:Int)=some ((q,()),())→0<q→i<k:=by
 intro m
 induction m with
 |zero=>intro i hm hi;rw[QH,Xj,d9 (by omega),IM,Sg];exact⟨i,rfl,by omega,by omega,fun h=>by omega⟩
 |succ m ih=>
  intro i hm hi;have hil:i<s.length:=(by omega);obtain⟨q,hq,hq0,_⟩:=xY (s[i].toNat:Int);rw[QH,Xj,f6 (by omega),f9,l4 hil,d6,hq,d6,y9 (by omega)];by_cases c:q>0
  ·rw[f6 c,f9];obtain⟨k,h1,h2,h3,_⟩:=ih (i+1) (by omega) (by omega);exact⟨k,h1,by omega,h3,fun _ _ _ _=>by omega⟩
  ·rw[d9 c,f8,IM,Sg];refine⟨i,rfl,by omega,by omega,fun _ q' h1 h2=>?_⟩;rw[hq]at h1;cases h1;omega
theorem a2f(a b:b38)(hb:b.length≤65536):∀(m i:Nat) (c:Int),b.length-i=m→∃x y,mV d5 a b c (i:Int)=some ((x,y,()),()):=by
 intro m
 induction m with
 |zero=>
  intro i c hm;rw[RL,Ug,d9 (by omega),f8,a2j,aZ];cases decide ((a.length:Int)>(b.length:Int))with
  |false=>exact⟨_,_,rfl⟩
  |true=>rw[f9,b2j,aW,xOf,d6,d6];simp only;rw[b3f,kU,a05,d6,d6];simp only;rw[YR,bS,b26];exact⟨_,_,rfl⟩
 |succ m ih=>intro i c hm;have hil:i<b.length:=(by omega);rw[RL,Ug,f6 (by omega),f9,l4 hil,d6,y9 (by omega)];exact ih (i+1) _ (by omega)
theorem a3G(a b:b38)(hb:b.length≤65536):∃x y,zL d5 a b=some ((x,y,()),()):=by
 have j5:∃x y,nU d5 a b=some ((x,y,()),()):=by rw[ZB,eZ];exact a2f a b hb _ 0 0 rfl
 have j6:∀c,∃x y,jP d5 a b c=some ((x,y,()),()):=by
  intro c;rw[a3X,qB];cases decide ((b.length:Int)>(c.length:Int))with
  |true=>exact⟨_,_,rfl⟩
  |false=>
   rw[f8];cases decide ((b.length:Int)=(c.length:Int))with
   |false=>exact j5
   |true=>
    rw[f9];cases(!(Op.bytesLess b c||decide (b=c)))with
    |true=>exact⟨_,_,rfl⟩
    |false=>exact j5
 rw[b3y,jU];cases decide ((a.length:Int)>(b.length:Int))with
 |true=>exact j6 _
 |false=>exact j6 _
theorem a3N(a b:b38)(hb:b.length≤65536):∀(m i:Nat),b.length-i=m→∃x y,Yr d5 a b (i:Int)=some ((x,y,()),()):=by
 intro m
 induction m with
 |zero=>intro i hm;rw[VC,We,d9 (by omega),f8];exact a3G a b hb
 |succ m ih=>
  intro i hm;have hil:i<b.length:=(by omega);rw[VC,We,f6 (by omega),f9,l4 hil,d6,d6,y9 (by omega)];cases decide ((b[i].toNat:Int)<48)with
  |true=>exact⟨_,_,rfl⟩
  |false=>
   rw[f8];cases decide ((b[i].toNat:Int)>57)with
   |true=>exact⟨_,_,rfl⟩
   |false=>exact ih (i+1) (by omega)
theorem a0o(a:b38)(ha:a.length≤65536):∃x y,BV d5 a=some ((x,y,()),()):=by
 have j2:∀b:b38,b.length≤65536→∃x y,Qe d5 a b=some ((x,y,()),()):=by
  intro b hb;have j1:∃x y,Zn d5 a b=some ((x,y,()),()):=(by rw[a6P,qU];exact a3N a b hb _ 0 rfl);rw[b2W,dW];by_cases c:(b.length:Int)=0
  ·rw[f6 c];exact⟨_,_,rfl⟩
  ·have h0:0<b.length:=(by omega);rw[d9 c,f8,show f5 b 0=some b[0]from l4 (i:=0) h0,d6];cases decide ((b[0].toNat:Int)=48)with
   |false=>exact j1
   |true=>
    rw[f9];cases decide ((a.length:Int)>1)with
    |true=>exact⟨_,_,rfl⟩
    |false=>exact j1
 rw[b0j,dV];by_cases c:(a.length:Int)>0
 ·have h0:0<a.length:=(by omega);rw[f6 c,f9,show f5 a 0=some a[0]from l4 (i:=0) h0,d6];cases decide ((a[0].toNat:Int)=45)with
  |false=>exact j2 a ha
  |true=>rw[f9,T7 (show C8 1 (a.length:Int) (a.length:Int)from⟨by omega,by omega,P4 _⟩),d6];exact j2 _ (by rw[(Kv a 1 a.length ⟨by omega,by omega,P4 _⟩).1];omega)
 ·rw[d9 c];exact j2 a ha
def Hf(n i:Nat)(r:b35):Prop:=∃(bs:b38) (k:Int) (ok:Bool),r=some ((bs,k,ok,()),())∧(ok=true→∃kn:Nat,k=(kn:Int)∧i<kn∧kn≤n∧bs.length≤kn)
theorem Hf.mono{n i j:Nat}{r:b35}(h:Hf n j r)(hij:i≤j):Hf n i r:=by obtain⟨bs,k,ok,h1,h2⟩:=h;exact⟨bs,k,ok,h1,fun h=>by obtain⟨kn,e1,e2,e3,e4⟩:=h2 h;exact⟨kn,e1,by omega,e3,e4⟩⟩
theorem Br(n i:Nat)(bs:b38)(k:Int):Hf n i (some ((bs,k,false,()),())):=⟨_,_,_,rfl,fun h=>nomatch h⟩
theorem SN(a:Int)(h0:0≤a)(h1:a<256):∃v,Uc d5 a=some ((v,()),()):=by
 have j2:∃v,jE d5=some ((v,()),()):=⟨_,a0E⟩;have j0:∃v,eW d5 a=some ((v,()),()):=by
  rw[a31,gS];cases decide (a≥65)with
  |false=>exact j2
  |true=>
   rw[f9];cases decide (a≤70)with
   |false=>exact j2
   |true=>exact⟨_,rfl⟩
 have j1:∃v,lO d5 a=some ((v,()),()):=by
  rw[a7l,fI];cases decide (a≥97)with
  |false=>exact j0
  |true=>
   rw[f9];cases decide (a≤102)with
   |false=>exact j0
   |true=>exact⟨_,rfl⟩
 rw[b0D,mP];cases decide (a≥48)with
 |false=>exact j1
 |true=>
  rw[f9];cases decide (a≤57)with
  |false=>exact j1
  |true=>exact⟨_,rfl⟩
theorem b0O(n:Int):0≤IntKind.wrap .u8 n∧IntKind.wrap .u8 n<256:=by have:IntKind.wrap .u8 n=n%256:=rfl;omega
theorem ID{c:List Int}(h:∀x∈c,0≤x∧x<256):Ql c=some ():=if_pos h
theorem a6I{c:List Int}(h:∀x∈c,0≤x∧x<256)(y:Int)(hy:0≤y∧y<256):∀x∈c++[y],0≤x∧x<256:=by
 intro x hx;rcases A7.1 hx with hx|hx
 ·exact h x hx
 ·rw[O0.1 hx];exact hy
theorem Nw(x:UInt8):0≤(x.toNat:Int)∧(x.toNat:Int)<256:=by have:=x.toNat_lt;omega
theorem a5V(s:b38)(hs:s.length≤65536):∀(m i:Nat) (c:List Int),s.length-i=m→(∀x∈c,0≤x∧x<256)→c.length≤i→Hf s.length i (qL d5 s (i:Int) c):=by
 intro m
 induction m using Nat.strongRecOn with
 |_ m ih=>
 intro i c hm hc hl;rw[b1J,lP];by_cases ci:i<s.length
 ·have e1:=y9 (i:=i) (by omega);have go:∀(j:Nat) (y:Int),i≤j→j≤65600→0≤y∧y<256→Hf s.length i ((y8 1 c ([y]:List Int)).bind fun e=>Jb d5 s (j:Int) e):=by
   intro j y hij hj hy;have hz:c.length+ [y].length≤100000000:=(by rw[A3];omega);rw[H8 (by decide) hz,d6,a5u,Yc,y9 (by omega)];by_cases cj:s.length-(j+1)<m
   ·exact(ih _ cj (j+1) _ rfl (a6I hc y hy) (by rw[o9,A3];omega)).mono (by omega)
   ·omega
  rw[f6 (by omega),f9,l4 ci,d6,e1];cases decide ((s[i].toNat:Int)<32)with
  |true=>exact Br _ _ _ _
  |false=>
  rw[f8];cases decide ((s[i].toNat:Int)>126)with
  |true=>exact Br _ _ _ _
  |false=>
  rw[f8];cases decide ((s[i].toNat:Int)=34)with
  |true=>rw[f9,ID hc];exact⟨_,_,_,rfl,fun _=>⟨i+1,rfl,by omega,by omega,by unfold y6;rw[E1];omega⟩⟩
  |false=>
  rw[f8];cases decide ((s[i].toNat:Int)=92)with
  |false=>exact go i _ (i4 _) (by omega) (Nw _)
  |true=>
  rw[A2,f8];by_cases c1:i+1<s.length
  ·rw[d9 (by omega),f8,l4 c1,d6];have j1:Hf s.length i (aV d5 s (i:Int) c):=by rw[a3F,pV,e1,l4 c1,d6];exact go (i+1) _ (by omega) (by omega) (Nw _)
   cases decide ((s[i+1].toNat:Int)=34)with
   |true=>exact j1
   |false=>
   rw[f8];cases decide ((s[i+1].toNat:Int)=92)with
   |true=>exact j1
   |false=>
   rw[f8];cases decide ((s[i+1].toNat:Int)=110)with
   |true=>exact go (i+1) 10 (by omega) (by omega) (by decide)
   |false=>
   rw[f8];cases decide ((s[i+1].toNat:Int)=116)with
   |true=>exact go (i+1) 9 (by omega) (by omega) (by decide)
   |false=>
   rw[f8];cases decide ((s[i+1].toNat:Int)=120)with
   |false=>exact Br _ _ _ _
   |true=>
    rw[f9];have e2:w64 (((i+1:Nat):Int)+1)=((i+2:Nat):Int):=y9 (by omega);have e3:w64 (((i+1:Nat):Int)+2)=((i+3:Nat):Int):=(by rw[wrap64 (by omega) (by omega)];omega);have e4:w64 ((1:Int)+1)=2:=rfl;have e5:w64 ((2:Int)+1)=3:=rfl;rw[tC,Pc,f6 (by decide),f9,e1,e2,e4];by_cases c2:i+2<s.length
    ·obtain⟨v,hv⟩:=SN (s[i+2].toNat:Int) (Nw _).1 (Nw _).2;rw[d9 (by omega),f8,l4 c2,d6,hv,d6];cases decide (v<0)with
     |true=>exact Br _ _ _ _
     |false=>
     rw[f8,tC,Pc,f6 (by decide),f9,e1,e3,e5];by_cases c3:i+3<s.length
     ·obtain⟨u,hu⟩:=SN (s[i+3].toNat:Int) (Nw _).1 (Nw _).2;rw[d9 (by omega),f8,l4 c3,d6,hu,d6];cases decide (u<0)with
      |true=>exact Br _ _ _ _
      |false=>
      rw[f8,tC,Pc,d9 (by decide),f8,a1p,nF,e1,e2,e3,l4 c2,d6,hv,d6,l4 c3,d6,hu,d6];exact go (i+3) _ (by omega) (by omega) (b0O _)
     ·rw[f6 (by omega)];exact Br _ _ _ _
    ·rw[f6 (by omega)];exact Br _ _ _ _
  ·rw[f6 (by omega)];exact Br _ _ _ _
 ·rw[d9 (by omega),f8,a5H,cY];exact Br _ _ _ _
theorem a7t(s:b38)(hs:s.length≤65536):Hf s.length 0 (EV d5 s):=by
 rw[a19,cB];by_cases c:(s.length:Int)=0
 ·rw[f6 c];exact Br _ _ _ _
 ·have h0:0<s.length:=(by omega);rw[d9 c,f8,show f5 s 0=some s[0]from l4 (i:=0) h0,d6];cases decide ((s[0].toNat:Int)=34)with
  |false=>exact Br _ _ _ _
  |true=>rw[A2,f8];exact(a5V s hs _ 1 [] rfl (fun x hx=>nomatch hx) (by simp)).mono (by omega)
def Ag(n i:Nat)(r:b31):Prop:=∃(t:l5) (k e:Int),r=some ((t,k,e,()),())∧(e=0→∃kn:Nat,k=(kn:Int)∧i<kn∧kn≤n∧t.Ds.length+i≤kn)
theorem Ue(n i:Nat)(t:l5)(k e:Int)(he:e≠0):Ag n i (some ((t,k,e,()),())):=⟨_,_,_,rfl,fun h=>absurd h he⟩
theorem Jj(n i k:Nat)(t:l5)(h1:i<k)(h2:k≤n)(h3:t.Ds.length+i≤k):Ag n i (some ((t,(k:Int),0,()),())):=⟨_,_,_,rfl,fun _=>⟨k,rfl,h1,h2,h3⟩⟩
theorem xH(s:b38)(hs:s.length≤65536)(i b c d:Nat)(hbc:b≤c)(hc:c≤s.length)(hd:i<d)(hd2:d≤s.length)(e f:Int):Ag s.length i (jZ d5 s (b:Int) (c:Int) (((d:Int),()),()) e f):=by
 have hcut:C8 (b:Int) (c:Int) (s.length:Int):=⟨by omega,by omega,by omega⟩;obtain⟨x,y,h1⟩:=a0o (x6 s (b:Int) (c:Int)) (by rw[(Kv s b c hcut).1];omega);rw[b3F,aH,T7 hcut,d6,h1,d6];cases decide (y=0)with
 |false=>exact Ue _ _ _ _ _ (by decide)
 |true=>
  rw[A2,f8];cases decide (x>e)with
  |true=>exact Ue _ _ _ _ _ (by decide)
  |false=>exact Jj _ _ _ _ hd hd2 (by simp;omega)
theorem a6c(s:b38)(hs:s.length≤65536)(i c d:Nat)(hc:c≤s.length)(hd:i<d)(hd2:d≤s.length)(e f:Int):∀(m b:Nat),c-b=m→b≤c→Ag s.length i (Zz d5 s (b:Int) (c:Int) (((d:Int),()),()) e f):=by
 intro m
 induction m with
 |zero=>intro b hm hb;rw[WR,Rx,wrap64 (by omega) (by omega),d9 (by omega)];exact xH s hs i b c d hb hc hd hd2 e f
 |succ m ih=>
  intro b hm hb;rw[WR,Rx,wrap64 (n:=(c:Int)-1) (by omega) (by omega)];by_cases c1:(b:Int)<(c:Int)-1
  ·have hbl:b<s.length:=(by omega);rw[f6 c1,f9,l4 hbl,d6,y9 (by omega)];cases decide ((s[b].toNat:Int)=48)with
   |true=>exact ih (b+1) (by omega) (by omega)
   |false=>exact xH s hs i b c d hb hc hd hd2 e f
  ·rw[d9 c1];exact xH s hs i b c d hb hc hd hd2 e f
theorem a6m(s:b38)(hs:s.length≤65536)(i:Nat)(hi:i<s.length)(hk:Gj d5 (s[i].toNat:Int)=some ((3,()),())):∀(m c:Nat),s.length-c=m→i≤c→c≤s.length→Ag s.length i (jI d5 s (i:Int) (c:Int)):=by
 intro m;have j1:∀c:Nat,i<c→c≤s.length→Ag s.length i (kG d5 s (i:Int) (c:Int)):=by
  intro c hic hcl;obtain⟨k,g1,g2,g3,g4⟩:=JM s hs _ c rfl hcl;have j3:∀e f:Int,Ag s.length i (aL d5 s (i:Int) (c:Int) (((k:Int),()),()) e f):=by intro e f;rw[a6J,bR];exact a6c s hs i c k hcl (by omega) g3 e f _ i rfl (by omega)
  have j4:Ag s.length i (qF d5 s (i:Int) (c:Int) (((k:Int),()),())):=by
   rw[b0d,oP];simp only;cases decide ((k:Int)=(c:Int))with
   |false=>exact Ue _ _ _ _ _ (by decide)
   |true=>exact j3 _ _
  rw[a8j,kW,WF,Ra,g1,d6,y9 (by omega)];by_cases ck:k=c+1
  ·have hcl2:c<s.length:=(by omega);rw[f6 (by simp only;omega),f9,l4 hcl2,d6];cases decide ((s[c].toNat:Int)=105)with
   |true=>exact j3 _ _
   |false=>exact j4
  ·rw[d9 (by simp only;omega)];exact j4
 induction m with
 |zero=>intro c hm hic hcl;rw[OU,Ui,d9 (by omega)];exact j1 c (by omega) hcl
 |succ m ih=>
  intro c hm hic hcl;have hc:c<s.length:=(by omega);obtain⟨q,hq,_⟩:=xY (s[c].toNat:Int);rw[OU,Ui,f6 (by omega),f9,l4 hc,d6,hq,d6,y9 (by omega)];by_cases c3:q=3
  ·rw[f6 c3];exact ih (c+1) (by omega) (by omega) (by omega)
  ·rw[d9 c3];refine j1 c ?_ hcl;by_cases e:i=c
   ·subst e;rw[hk]at hq;cases hq;exact absurd rfl c3
   ·omega
theorem a5W(a:b38)(W:List (b38))(hW:W.length≤1000)(hd:W=([([114,101,99]:b38),([102,110]:b38),([118,97,114]:b38),([105,102]:b38),([101,108,115,101]:b38),([119,104,105,108,101]:b38),([114,101,116,117,114,110]:b38),([112,114,105,110,116]:b38),([116,114,117,101]:b38),([102,97,108,115,101]:b38),([110,105,108]:b38),([109,97,107,101]:b38),([105,110,116]:b38),([98,111,111,108]:b38),([115,116,114]:b38),([99,111,109,112]:b38)]:List (b38))):∀(m i:Nat),W.length-i=m→∃b,jN d5 a (i:Int)=some ((b,()),()):=by
 intro m
 induction m with
 |zero=>intro i hm;rw[IN,Su,←hd,d9 (by omega),ZO,fK];exact⟨_,rfl⟩
 |succ m ih=>
  intro i hm;have hi:i<W.length:=(by omega);have e:=ih (i+1) (by omega);rw[IN,Su,←hd,f6 (by omega),f9,l4 hi,d6,E0,o5 hi,d6,y9 (by omega)];cases decide (W[i]=a)with
  |true=>exact⟨_,rfl⟩
  |false=>exact e
theorem b0T(a:b38):∃b,CA d5 a=some ((b,()),()):=by rw[b2A,dQ];exact a5W a _ (by decide) rfl _ 0 rfl
theorem b2z(s:b38)(hs:s.length≤65536)(i:Nat)(hi:i<s.length)(G:b38)(hG:G.length≤1000)(hd:G=([43,45,42,47,37,60,62,33,61,40,41,123,125,91,93,44,59,58,46]:b38)):∀(m c:Nat),G.length-c=m→Ag s.length i (nW d5 s (i:Int) (c:Int)):=by
 intro m
 induction m with
 |zero=>intro c hm;rw[GW,Qu,←hd,d9 (by omega),b1W,kK];exact Ue _ _ _ _ _ (by decide)
 |succ m ih=>
  intro c hm;have hc:c<G.length:=(by omega);have e:=ih (c+1) (by omega);rw[GW,Qu,←hd,f6 (by omega),f9,l4 hi,d6,l4 hc,d6,y9 (by omega)];cases decide ((s[i].toNat:Int)=(G[c].toNat:Int))with
  |false=>exact e
  |true=>rw[f9,T7 (show C8 (c:Int) ((c+1:Nat):Int) (G.length:Int)from⟨by omega,by omega,by omega⟩),d6,y9 (by omega)];have hl:=(Kv G (c:Int) ((c+1:Nat):Int) ⟨by omega,by omega,by omega⟩).1;exact Jj _ _ _ _ (by omega) (by omega) (by simp only;omega)
theorem a35(s:b38)(hs:s.length≤65536)(i:Nat)(hi:i<s.length)(V:List (b38))(hV:V.length≤1000)(hV2:∀v∈V,v.length≤2)(hd:V=([([38,38]:b38),([124,124]:b38),([61,61]:b38),([33,61]:b38),([60,61]:b38),([62,61]:b38)]:List (b38))):∀(m c:Nat),V.length-c=m→Ag s.length i (Ry d5 s (i:Int) (c:Int)):=by
 have e2:w64 ((i:Int)+2)=((i+2:Nat):Int):=(by rw[wrap64 (by omega) (by omega)];omega);intro m
 induction m with
 |zero=>intro c hm;rw[FM,Rm,←hd,d9 (by omega),f8,a64,kT];exact b2z s hs i hi _ (by decide) rfl _ 0 rfl
 |succ m ih=>
  intro c hm;have hc:c<V.length:=(by omega);have e:=ih (c+1) (by omega);rw[FM,Rm,←hd,f6 (by omega),f9,e2,y9 (i:=c) (by omega)];by_cases c2:((i+2:Nat):Int)≤(s.length:Int)
  ·rw[f6 c2,f9,T7 (show C8 (i:Int) ((i+2:Nat):Int) (s.length:Int)from⟨by omega,by omega,c2⟩),d6,l4 hc,d6,E0,o5 hc,d6];cases decide (x6 s (i:Int) ((i+2:Nat):Int)=V[c])with
   |false=>exact e
   |true=>rw[f9,d6,d6];have hl:=hV2 _ (A4 hc);exact Jj _ _ _ _ (by omega) (by omega) (by simp only;omega)
  ·rw[d9 c2];exact e
theorem HE(s:b38)(hs:s.length≤65536)(i:Nat)(hi:i<s.length):Ag s.length i (Xy d5 s (i:Int)):=by
 obtain⟨q,hq,hq0,hq3⟩:=xY (s[i].toNat:Int);have j0:0<q→Ag s.length i (Zb d5 s (i:Int)):=by
  intro hp;obtain⟨k,g1,g2,g3,g4⟩:=JM s hs _ i rfl (by omega);have hik:=g4 hi q hq hp;have hcut:C8 (i:Int) (k:Int) (s.length:Int):=⟨by omega,by omega,by omega⟩;obtain⟨b,hb⟩:=b0T (x6 s (i:Int) (k:Int));rw[a9R,pU,WF,Ra,g1,d6,T7 hcut,d6,l4 hi,d6,hq,d6];have hcl:=(Kv s (i:Int) (k:Int) hcut).1;cases decide (q=2)with
  |true=>exact Jj _ _ _ _ hik g3 (by simp only;omega)
  |false=>
   rw[f8,hb,d6];cases b with
   |true=>exact Jj _ _ _ _ hik g3 (by simp only;omega)
   |false=>exact Jj _ _ _ _ hik g3 (by simp only;omega)
 rw[a2o,lM,l4 hi,d6,hq,d6];by_cases c1:q=1
 ·rw[f6 c1];exact j0 (by omega)
 by_cases c2:q=2
 ·rw[d9 c1,f8,f6 c2];exact j0 (by omega)
 rw[d9 c1,f8,d9 c2,f8];by_cases c3:q=3
 ·rw[f6 c3,f9,a1C,aT];subst c3;obtain⟨t,k,e,h1,h2⟩:=a6m s hs i hi hq _ i rfl (i4 _) (by omega);rw[h1];exact⟨t,k,e,rfl,h2⟩
 rw[d9 c3,f8,d6];cases decide ((s[i].toNat:Int)=34)with
 |false=>exact a35 s hs i hi _ (by decide) (by decide) rfl _ 0 rfl
 |true=>
  have hcut:C8 (i:Int) (s.length:Int) (s.length:Int):=⟨by omega,by omega,P4 _⟩;have hcl:=(Kv s (i:Int) (s.length:Int) hcut).1;obtain⟨bs,k,ok,h1,h2⟩:=a7t (x6 s (i:Int) (s.length:Int)) (by rw[hcl];omega);rw[f9,T7 hcut,d6,h1,d6];cases ok with
  |false=>exact Ue _ _ _ _ _ (by decide)
  |true=>obtain⟨kn,rfl,e1,e2,e4⟩:=h2 rfl;have e3:w64 ((i:Int)+(kn:Int))=((i+kn:Nat):Int):=(by rw[wrap64 (by omega) (by omega)];omega);simp only[A2,f8,e3];exact Jj _ _ _ _ (by omega) (by omega) (by simp only;omega)
def ts(l:List l5):Nat:=(l.map fun t=>t.Ds.length).sum
theorem KM(l:List l5)(t:l5):ts (l++[t])=ts l+t.Ds.length:=by unfold ts;rw[D9,Ya];simp
theorem a3v(l:List l5):tl l l.length=ts l:=by unfold tl ts;rw[List.take_length]
def tln(L:List l5):Prop:=∀t∈L,pl t.Ls=0
theorem OI{L:List l5}(h:tln L)(t:l5)(ht:pl t.Ls=0):tln (L++[t]):=fun x hx=>by
 rcases A7.1 hx with h1|h1
 ·exact h x h1
 ·rw[O0.1 h1];exact ht
theorem b2d(s:b38)(hs:s.length≤65536):∀(m b c:Nat) (d e:Int) (l:List l5),s.length-b=m→b≤s.length→c≤b→l.length≤b→ts l≤b→0≤d→d≤c+1→tln l→∃L f,sO d5 s (b:Int) (c:Int) d e l=some ((L,f,()),())∧(f.Code=0→Tk L∧0<L.length∧tln L)∧L.length≤s.length+1∧ts L≤s.length:=by
 intro m
 induction m using Nat.strongRecOn with
 |_ m ih=>
 intro b c d e l hm hb hcb hl hlt hd0 hd1 hln;have hcut:C8 (c:Int) (s.length:Int) (s.length:Int):=⟨by omega,by omega,P4 _⟩;have hcl:=(Kv s (c:Int) (s.length:Int) hcut).1;have e0:w64 ((b:Int)-(c:Int))=((b-c:Nat):Int):=(by rw[wrap64 (by omega) (by omega)];omega);obtain⟨x,y,hp,x0,x1⟩:=a1Y (x6 s (c:Int) (s.length:Int)) (b-c) (by rw[hcl];omega) (by rw[hcl];omega) _ 0 1 1 rfl (by omega) (by omega) (by omega);have j1:∀d e:Int,0≤d→d≤b+1→∃L f,hD d5 s (b:Int) d e l=some ((L,f,()),())∧(f.Code=0→Tk L∧0<L.length∧tln L)∧L.length≤s.length+1∧ts L≤s.length:=by
  intro d e hd0 hd1;have hpl:pl d=0:=if_pos ⟨hd0,by omega⟩;rw[ZV,Zt];by_cases cb:(b:Int)≥(s.length:Int)
  ·have hz:l.length+ [(l5.mk 8 d e 0 ([]:b38))].length≤100000000:=(by rw[A3];omega);rw[f6 cb,f9,H8 (by decide) hz];refine⟨_,_,rfl,fun _=>⟨⟨fun i t hi hi2=>?_,?_⟩,?_,OI hln _ hpl⟩,?_,by rw[KM];simp;omega⟩
   ·rw[o9,A3]at hi2;have:i=l.length:=(by omega);subst this;rw[Z5 (i4 _),Xz]at hi;cases hi;rfl
   all_goals rw[o9,A3];omega
  ·have hbl:b<s.length:=(by omega);obtain⟨t,k,er,h1,h2⟩:=HE s hs b hbl;rw[d9 cb,f8,h1,d6];by_cases ce:er=0
   ·obtain⟨kn,rfl,k1,k2,k3⟩:=h2 ce;have hz:l.length+ [(l5.mk t.Ks d e t.Ns t.Ds)].length≤100000000:=(by rw[A3];omega);obtain⟨j,g1,g2,g3⟩:=JR s hs _ kn false rfl k2;rw[f6 ce,A2,f8,H8 (by decide) hz,d6,MH,Qb0];simp only;rw[g1,d6];exact ih _ (by omega) j b d e _ rfl g3 (by omega) (by rw[o9,A3];omega) (by rw[KM];simp only;omega) hd0 (by omega) (OI hln _ hpl)
   ·rw[d9 ce];exact⟨_,_,rfl,fun h=>absurd h ce,by simp,by unfold ts;simp⟩
 rw[a62,dR,T7 hcut,d6,e0,a6y,Qb5,show Pp d5 (x6 s (c:Int) (s.length:Int)) ((b-c:Nat):Int) 1 1 0=_ from hp,d6];have e9:w64 (d+w64 (x-1))=d+x-1:=(by rw[wrap64 (n:=x-1) (by omega) (by omega),wrap64 (by omega) (by omega)];omega);by_cases cx:x>1
 ·rw[f6 cx];exact j1 _ _ (by show 0≤w64 (d+w64 (x-1));rw[e9];omega) (by show w64 (d+w64 (x-1))≤_;rw[e9];omega)
 ·rw[d9 cx];exact j1 _ _ hd0 (by omega)
theorem a3w(s:b38):∃L f,sL d5 s=some ((L,f,()),())∧(f.Code=0→Tk L∧0<L.length∧tln L)∧L.length≤s.length+1∧ts L≤s.length:=by
 rw[a5q,qZ];by_cases c:(s.length:Int)>65536
 ·rw[f6 c];exact⟨_,_,rfl,fun h=>absurd h (by decide),by simp,by unfold ts;simp⟩
 ·have hs:s.length≤65536:=(by omega);obtain⟨k,g1,g2,g3⟩:=JR s hs _ 0 false rfl (C9 _);rw[d9 c,f8,MH,Qb0,show Cd d5 s 0 false=_ from g1,d6];exact b2d s hs _ k 0 1 1 [] rfl g3 (C9 _) (C9 _) (by unfold ts;simp) (by omega) (by omega) (fun t ht=>nomatch ht)
theorem b3L(s:b38):∃x f,nG d5 s=some ((x,f,()),())∧x.length≤10*s.length+31∧D6 x≤s.length:=by obtain⟨L,f,h1,h2,h3,h4⟩:=a3w s;obtain⟨x,f',g1,g2,g3⟩:=b1y h1 h2;rw[a3v]at g3;exact⟨x,f',g1,by omega,by omega⟩
theorem BB{x:List d7}{n:d7}(h:n∈x):n.Ds.length+pl n.Ls≤D6 x:=by
 induction x with
 |nil=>exact nomatch h
 |cons a l ih=>
  rw[vX];rcases F9.1 h with rfl|h
  ·omega
  ·have:=ih h;omega
end
section
inductive WFo(l:List d7):Nat→Nat→Prop
 |nil(i:Nat):WFo l i i
 |cons(i k j:Nat)(x:d7)(hx:l[i]? =some x)(hs:x.Cs=(k:Int)-(i+1))(hk:i+1≤k)(kids:WFo l (i+1) k)(rest:WFo l k j):WFo l i j
theorem WFo.le{l:List d7}{i j:Nat}(h:WFo l i j):i≤j:=by
 induction h with
 |nil=>exact i4 _
 |cons i k j x hx hs hk _ _ _ ih=>omega
theorem WFo.inside{l:List d7}{i j:Nat}(h:WFo l i j):∀p,i≤p→p<j→∃(x:d7) (k:Nat),l[p]? =some x∧x.Cs=(k:Int)-(p+1)∧p+1≤k∧WFo l (p+1) k∧k≤j:=by
 induction h with
 |nil=>intro p h1 h2;omega
 |cons i k j x hx hs hk kids rest ih1 ih2=>
  intro p h1 h2;have hkj:=rest.le;by_cases e:p=i
  ·subst e;exact⟨x,k,hx,hs,hk,kids,hkj⟩
  ·by_cases e2:p<k
   ·obtain⟨y,q,g1,g2,g3,g4,g5⟩:=ih1 p (by omega) e2;exact⟨y,q,g1,g2,g3,g4,by omega⟩
   ·exact ih2 p (by omega) h2
inductive Kc(l:List d7):Nat→Nat→List Nat→Prop
 |nil(i:Nat):Kc l i i []
 |cons(i k j:Nat)(x:d7)(ks:List Nat)(hx:l[i]? =some x)(hs:x.Cs=(k:Int)-(i+1))(hk:i+1≤k)(kids:WFo l (i+1) k)(rest:Kc l k j ks):Kc l i j (i::ks)
theorem WFo.kc{l:List d7}{i j:Nat}(h:WFo l i j):∃ks,Kc l i j ks:=by
 induction h with
 |nil i=>exact⟨[],.nil i⟩
 |cons i k j x hx hs hk kids rest ih1 ih2=>obtain⟨ks,h⟩:=ih2;exact⟨i::ks,.cons i k j x ks hx hs hk kids h⟩
theorem Kc.le{l:List d7}{i j:Nat}{ks:List Nat}(h:Kc l i j ks):i+ks.length≤j:=by
 induction h with
 |nil=>simp
 |cons i k j x ks hx hs hk _ _ ih=>rw[I5];omega
theorem Kc.mem{l:List d7}{i j:Nat}{ks:List Nat}(h:Kc l i j ks):∀p∈ks,i≤p∧p<j∧∃(x:d7) (k:Nat),l[p]? =some x∧x.Cs=(k:Int)-(p+1)∧p+1≤k∧k≤j∧WFo l (p+1) k:=by
 induction h with
 |nil=>intro p hp;exact absurd hp (List.not_mem_nil)
 |cons i k j x ks hx hs hk kids rest ih=>
  have:=rest.le;intro p hp;rcases F9.1 hp with rfl|hp
  ·exact⟨i4 _,by omega,x,k,hx,hs,hk,by omega,kids⟩
  ·obtain⟨h1,h2,h3⟩:=ih p hp;exact⟨by omega,h2,h3⟩
section
variable{l:List d7}(hl:l.length≤100000000)
include hl
theorem a8U{a:Nat}{x:d7}{st:Nat}(hs:x.Cs=(st:Int)-(a+1))(hst:st≤l.length)(ha:a<l.length):∀(n k:Nat),l.length-k=n→a<k→k≤l.length→(∀k:Nat,a<k→k≤l.length→∃r:Int,Ou d5 l (k:Int)=some ((r,()),())∧(r= -1∨∃(y:d7) (q:Nat),l[k]? =some y∧y.Cs=(q:Int)-(k+1)∧k+1≤q∧q≤l.length∧r=(q:Int)∧WFo l (k+1) q))→∃r:Int,mJ d5 l (a:Int) x (k:Int)=some ((r,()),())∧(r= -1∨r=(st:Int)∧WFo l k st):=by
 have w1:w64 (w64 ((a:Int)+1)+x.Cs)=(st:Int):=(by rw[hs,wrap64 (n:=(a:Int)+1) (by omega) (by omega),wrap64 (by omega) (by omega)];omega);intro n
 induction n using Nat.strongRecOn with
 |_ n ih=>
 intro k hn hak hk IH;rw[GZ,Ve,f6 (by omega),f9,w1];by_cases c:(k:Int)<(st:Int)
 ·rw[f6 c,f9];obtain⟨r,g1,g2⟩:=IH k hak hk;rw[g1,d6];rcases g2 with rfl|⟨y,q,q1,q2,q3,q4,rfl,q6⟩
  ·refine⟨-1,?_,.inl rfl⟩;simp only;rw[GZ,Ve,d9 (by omega),f8,KJ,Sy,w1,d9 (by omega)];rfl
  ·obtain⟨r,k1,k2⟩:=ih _ (by omega) q rfl (by omega) q4 IH;simp only;refine⟨r,k1,?_⟩;rcases k2 with rfl|⟨rfl,k3⟩
   ·exact .inl rfl
   ·exact .inr ⟨rfl,.cons k q st y q1 q2 q3 q6 k3⟩
 ·rw[d9 c,f8,KJ,Sy,w1];by_cases e:(k:Int)=(st:Int)
  ·rw[f6 e];have:k=st:=(by omega);subst this;exact⟨_,rfl,.inr ⟨rfl,.nil _⟩⟩
  ·rw[d9 e];exact⟨_,rfl,.inl rfl⟩
theorem a1K:∀(n a:Nat),l.length-a=n→a≤l.length→∃r:Int,Ou d5 l (a:Int)=some ((r,()),())∧(r= -1∨∃(y:d7) (q:Nat),l[a]? =some y∧y.Cs=(q:Int)-(a+1)∧a+1≤q∧q≤l.length∧r=(q:Int)∧WFo l (a+1) q):=by
 intro n
 induction n using Nat.strongRecOn with
 |_ n ih=>
 intro a hn ha;rw[a4X,cO];by_cases c:(a:Int)≥(l.length:Int)
 ·rw[f6 c];exact⟨_,rfl,.inl rfl⟩
 have hal:a<l.length:=(by omega);have e0:w64 (w64 ((l.length:Int)-1)-(a:Int))=(l.length:Int)-1-a:=(by rw[wrap64 (n:=(l.length:Int)-1) (by omega) (by omega),wrap64 (by omega) (by omega)]);have e1:w64 ((a:Int)+1)=((a+1:Nat):Int):=(by rw[wrap64 (by omega) (by omega)];omega);rw[d9 c,f8,l4 hal,d6];by_cases c1:l[a].Cs<0
 ·rw[f6 c1];exact⟨_,rfl,.inl rfl⟩
 rw[d9 c1,f8,d6,e0];by_cases c2:l[a].Cs>(l.length:Int)-1-a
 ·rw[f6 c2];exact⟨_,rfl,.inl rfl⟩
 rw[d9 c2,f8,d6,e1];have hs:l[a].Cs=((a+1+l[a].Cs.toNat:Nat):Int)-(a+1):=(by omega);obtain⟨r,g1,g2⟩:=a8U hl hs (by omega) hal _ (a+1) rfl (by omega) (by omega) (fun k h1 h2=>ih _ (by omega) k rfl h2);refine⟨r,g1,?_⟩;rcases g2 with h|⟨h,w⟩
 ·exact .inl h
 ·exact .inr ⟨l[a],_,o5 hal,hs,by omega,by omega,h,w⟩
theorem OL:∃b,eH d5 l=some ((b,()),())∧(b=true→∃x,l[0]? =some x∧x.Cs=(l.length:Int)-1∧1≤l.length∧WFo l 1 l.length):=by
 rw[a5O,kB];by_cases c:(l.length:Int)>0
 ·obtain⟨r,g1,g2⟩:=a1K hl _ 0 rfl (C9 _);rw[f6 c,f9,show Ou d5 l 0=_ from g1];refine⟨_,rfl,fun h=>?_⟩;have h:=D3 h;simp only at h;rcases g2 with h2|⟨y,q,q1,q2,q3,q4,q5,q6⟩
  ·omega
  ·have:q=l.length:=(by omega);subst this;exact⟨y,q1,by omega,by omega,q6⟩
 ·rw[d9 c];exact⟨_,rfl,fun h=>nomatch h⟩
theorem a00{b:Nat}{x:d7}{st:Nat}(hx:l[b]? =some x)(hs:x.Cs=(st:Int)-(b+1))(hst:st≤l.length){c:Nat}{ks:List Nat}(h:Kc l c st ks):∀d:List Int,d.length+ks.length≤l.length→eR d5 l (b:Int) (c:Int) d=some ((d++ks.map (fun(k:Nat)=>(k:Int)),()),()):=by
 have hbl:b<l.length:=(l3.1 hx).1;have hxe:l[b]=x:=(l3.1 hx).2;have w1:w64 (w64 ((b:Int)+1)+x.Cs)=(st:Int):=by rw[hs,wrap64 (n:=(b:Int)+1) (by omega) (by omega),wrap64 (by omega) (by omega)];omega
 induction h with
 |nil c=>intro d hd;rw[XK,Ty,l4 hbl,d6,hxe,w1,d9 (by omega),f8,b1u,jG,List.map_nil,O1]
 |cons c k j y ks hy hys hk kids rest ih=>intro d hd;have hkj:=rest.le;have hcl:c<l.length:=(by omega);have hye:l[c]=y:=(l3.1 hy).2;have e1:w64 (w64 ((c:Int)+1)+y.Cs)=(k:Int):=(by rw[hys,wrap64 (n:=(c:Int)+1) (by omega) (by omega),wrap64 (by omega) (by omega)];omega);rw[I5]at hd;have hz:d.length+ [(c:Int)].length≤100000000:=(by rw[A3];omega);have:=ih hs hst w1 (d++[(c:Int)]) (by rw[o9,A3];omega);rw[XK,Ty,l4 hbl,d6,hxe,w1,f6 (by omega),f9,H8 (by decide) hz,d6,l4 hcl,d6,hye,e1,this,List.map_cons,G5];rfl
theorem T8{b:Nat}{x:d7}{st:Nat}(hx:l[b]? =some x)(hs:x.Cs=(st:Int)-(b+1))(hst:st≤l.length){ks:List Nat}(h:Kc l (b+1) st ks):O4 d5 l (b:Int)=some ((ks.map (fun(k:Nat)=>(k:Int)),()),()):=by have:=h.le;have e1:w64 ((b:Int)+1)=((b+1:Nat):Int):=(by rw[wrap64 (by omega) (by omega)];omega);rw[a5L,gZ,e1,a00 hl hx hs hst h [] (by rw[L6];omega),J4]
end
end
section
def sk0(k:Int):Int:=if k=6 then 98 else if k=5 then 112 else if k=3 then 102 else if k=2 then 100 else if k=4 then 100 else 45
def sk1(k:Int):Int:=if 7≤k∧k≤13 then 115 else sk0 k
def sk2(k:Int):Int:=if 21≤k∧k≤32 then 101 else sk1 k
def E2(k:Int):Int:=if k=14 then 48 else if 15≤k∧k≤20 then 116 else sk2 k
theorem xJ{α:Type}(k a b:Int)(x y:α):cond (decide (k≥a)) (cond (decide (k≤b)) x y) y=if a≤k∧k≤b then x else y:=by
 by_cases c:k≥a
 ·rw[f6 c,f9];by_cases d:k≤b
  ·rw[f6 d,if_pos ⟨c,d⟩];rfl
  ·rw[d9 d,if_neg (fun h=>d h.2)];rfl
 ·rw[d9 c,if_neg (fun h=>c h.1)];rfl
theorem a41(x:d7):CE d5 x=some ((E2 x.Ks,()),()):=by
 generalize hk:x.Ks=k;have j0:nV d5 x=some ((sk0 k,()),()):=by
  unfold sk0;rw[a8D,kV,a8m,pC,hk];simp only[Bool.cond_eq_ite,decide_eq_true_eq]
  repeat' split
  all_goals first|rfl|contradiction
 have j1:rK d5 x=some ((sk1 k,()),()):=by unfold sk1;rw[a5p,cX,hk,j0,xJ];split<;>rfl
 have j2:kQ d5 x=some ((sk2 k,()),()):=by unfold sk2;rw[a8T,kO,hk,j1,xJ];split<;>rfl
 unfold E2;rw[a5r,bP,hk,j2,xJ];by_cases c:k=14
 ·rw[f6 c,if_pos c];rfl
 ·rw[d9 c,if_neg c,f8];split<;>rfl
theorem a84(k:Int):0≤E2 k∧E2 k<256:=by
 unfold E2 sk2 sk1 sk0
 repeat' split
 all_goals omega
theorem PF:∀{a b:List Int},(∀x∈a,0≤x∧x<256)→(∀x∈b,0≤x∧x<256)→y6 a=y6 b→a=b
 | [],[],_,_,_=>rfl
 | [],_::_,_,_,h=>by cases h
 |_::_,[],_,_,h=>by cases h
 |x::a,y::b,ha,hb,h=>by
  unfold y6 at h;rw[List.map_cons,List.map_cons]at h;injection h with h1 h2
  have hx:=ha x G0;have hy:=hb y G0;have e:x=y:=by have:=congrArg UInt8.toNat h1;rw[UInt8.toNat_ofNat',UInt8.toNat_ofNat']at this;omega
  rw[e,PF (fun z hz=>ha z (H6 _ hz)) (fun z hz=>hb z (H6 _ hz)) h2]
theorem zW{x:Int}(h:0≤x∧x<256):((UInt8.ofNat x.toNat).toNat:Int)=x:=by rw[UInt8.toNat_ofNat'];omega
theorem a1x(S:List Int)(hS:∀x∈S,0≤x∧x<256)(hl:S.length≤100000000)(c:Int):∀(n i:Nat),S.length-i=n→∃b,Zx d5 (y6 S) c (i:Int)=some ((b,()),())∧(b=true→∀s∈S.drop i,s=c):=by
 have hbl:(y6 S).length=S.length:=(by unfold y6;rw[E1]);intro n
 induction n with
 |zero=>intro i hn;rw[GU,Vp,hbl,d9 (by omega),f8,a27,eE,N3 (by omega)];exact⟨_,rfl,fun _ s hs=>nomatch hs⟩
 |succ n ih=>
  intro i hn;have hi:i<S.length:=(by omega);have hi2:i<(y6 S).length:=(by omega);have e1:w64 ((i:Int)+1)=((i+1:Nat):Int):=(by rw[wrap64 (by omega) (by omega)];omega);have e2:((y6 S)[i].toNat:Int)=S[i]:=by have:(y6 S)[i]=UInt8.ofNat S[i].toNat:=(by simp only[y6,List.getElem_map]);rw[this];exact zW (hS _ (A4 hi))
  obtain⟨b,h1,h2⟩:=ih (i+1) (by omega);rw[GU,Vp,hbl,f6 (by omega),f9,l4 hi2,d6,e1,e2,J8 hi];by_cases h:S[i]=c
  ·rw[f6 h,A2,f8];refine⟨b,h1,fun hb s hs=>?_⟩;rcases F9.1 hs with rfl|hs
   ·exact h
   ·exact h2 hb s hs
  ·rw[d9 h];exact⟨_,rfl,fun h=>nomatch h⟩
theorem UR(S:List Int)(hS:∀x∈S,0≤x∧x<256)(hl:S.length≤100000000)(c:Int):∃b,Ll d5 (y6 S) c=some ((b,()),())∧(b=true→∀s∈S,s=c):=by rw[a8P,bH];exact a1x S hS hl c _ 0 rfl
structure Fam(k num:Int)(i:Nat)(S:List Int)(fk:Int):Prop where
 k1:k=1→i=0∧∀s∈S,s=100
 k2:k=2→∀s∈S,s=102
 k3:k=3∨k=5∨k=20→S=[116]
 k4:k=4→∃(P:List Int) (t:Int),S=P++[t,98]∧num=P.length∧(∀s∈P,s=112)∧(t=116∨t=48)
 k6:k=6→∀s∈S,s=115
 k7:k=7→S=[116,101]
 k8:k=8→S=[101,101]∧(fk=26∨fk=28∨fk=29)
 k9:k=9→S=[101,98]∨S=[101,98,98]
 k10:k=10→S=[101,98]
 k11:k=11→S=[]∨S=[101]
 k12:k=12∨k=29∨k=30→S=[101]
 k13:k=13→S=[101]∧fk=27
 k27:k=27→∀s∈S,s=101
 k28:k=28∨k=31→S=[101,101]
 k32:k=32→S=[116]∧fk=19∨S=[116,101]∧fk=20
 kr:(k<1∨(14≤k∧k≤19)∨(21≤k∧k≤26)∨33≤k)→S=[]∧14≤k∧k≤26
theorem a1H{S:List Int}(hS:∀x∈S,0≤x∧x<256)(T:List Int)(hT:∀x∈T,0≤x∧x<256){t:b38}(ht:t=y6 T):decide (y6 S=t)=decide (S=T):=by
 by_cases h:S=T
 ·subst h;rw[ht,f6 rfl,f6 rfl]
 ·rw[d9 h,d9 (fun e=>h (PF hS hT (by rw[e,ht])))]
def kd(l:List d7)(i:Nat):Int:=match l[i]? with|some x=>x.Ks|none=>0
theorem p9{l:List d7}{i:Nat}{x:d7}(h:l[i]? =some x):kd l i=x.Ks:=by unfold kd;rw[h]
def fkd(l:List d7):List Nat→Int
 | []=>0
 |k::_=>kd l k
def E5(l:List d7)(ks:List Nat):List Int:=ks.map fun k=>E2 (kd l k)
theorem DL(l:List d7)(ks:List Nat):∀x∈E5 l ks,0≤x∧x<256:=by intro x hx;obtain⟨k,_,rfl⟩:=List.mem_map.1 hx;exact a84 _
theorem LB{l:List d7}{i:Nat}{x:d7}(hx:l[i]? =some x)(hl:l.length≤100000000){S:List Int}(hS:∀y∈S,0≤y∧y<256)(hSl:S.length≤100000000)(d:d7)(fk:Int)(hd:S=[]∨d.Ks=fk):∃b,bF d5 l (i:Int) S d=some ((b,()),())∧(b=true→Fam x.Ks x.Ns i S fk):=by
 have hil:i<l.length:=(l3.1 hx).1;have hxe:l[i]=x:=(l3.1 hx).2;have o:=UR S hS hSl;have bl:(y6 S).length=S.length:=(by unfold y6;rw[E1]);have t1:∀(T:List Int) (t:b38),t=y6 T→(∀y∈T,0≤y∧y<256)→decide (y6 S=t)=decide (S=T):=fun T t e h=>a1H hS T h e;have r116:=t1 [116] [116] rfl (by decide);have r116e:=t1 [116,101] [116,101] rfl (by decide);have ree:=t1 [101,101] [101,101] rfl (by decide);have reb:=t1 [101,98] [101,98] rfl (by decide);have rebb:=t1 [101,98,98] [101,98,98] rfl (by decide);have re:=t1 [101] [101] rfl (by decide);have rn:=t1 [] [] rfl (by decide);rw[a5T,lS,l4 hil,d6,hxe,r116,r116e,ree,reb,rebb,re,rn];by_cases h1:x.Ks=1
 ·rw[f6 h1,f9];by_cases hi0:(i:Int)=0
  ·obtain⟨b,g1,g2⟩:=o 100;rw[f6 hi0,f9,g1];exact⟨b,rfl,fun hb=>by constructor<;>intro h<;>first|(exfalso;omega)|exact⟨by omega,g2 hb⟩⟩
  ·rw[d9 hi0];exact⟨_,rfl,fun h=>nomatch h⟩
 by_cases h2:x.Ks=2
 ·obtain⟨b,g1,g2⟩:=o 102;rw[d9 h1,f8,f6 h2,f9,g1];exact⟨b,rfl,fun hb=>by constructor<;>intro h<;>first|(exfalso;omega)|exact g2 hb⟩
 rw[d9 h1,f8,d9 h2,f8];have c3:∀{r:Option RT0},x.Ks=3∨x.Ks=5∨x.Ks=20→r=some (((decide (S=[116])),()),())→∃b,r=some ((b,()),())∧(b=true→Fam x.Ks x.Ns i S fk):=by
  intro r hk hr;refine⟨_,hr,fun hb=>?_⟩;have key:=D3 hb
  constructor<;>intro h<;>first|(exfalso;omega)|exact key
 by_cases h3:x.Ks=3
 ·rw[f6 h3];exact c3 (.inl h3) rfl
 by_cases h5:x.Ks=5
 ·rw[d9 h3,f8,f6 h5];exact c3 (.inr (.inl h5)) rfl
 by_cases h20:x.Ks=20
 ·rw[d9 h3,f8,d9 h5,f8,f6 h20];exact c3 (.inr (.inr h20)) rfl
 rw[d9 h3,f8,d9 h5,f8,d9 h20,f8];by_cases h4:x.Ks=4
 ·rw[f6 h4,f9,bl];by_cases c2:(S.length:Int)≥2
  ·have e2:w64 ((S.length:Int)-2)=((S.length-2:Nat):Int):=(by rw[wrap64 (by omega) (by omega)];omega);have e1:w64 ((S.length:Int)-1)=((S.length-1:Nat):Int):=(by rw[wrap64 (by omega) (by omega)];omega);rw[f6 c2,f9,d6,e2,e1];by_cases cn:((S.length-2:Nat):Int)=x.Ns
   ·have hcut:C8 (0:Int) ((S.length-2:Nat):Int) (S.length:Int):=⟨by omega,by omega,by omega⟩;have hcl:x6 (y6 S) (0:Int) ((S.length-2:Nat):Int)=y6 (S.take (S.length-2)):=by unfold x6 y6;rw[List.map_take];simp
    have hT:∀y∈S.take (S.length-2),0≤y∧y<256:=fun y hy=>hS y (List.mem_of_mem_take hy);obtain⟨b,g1,g2⟩:=UR (S.take (S.length-2)) hT (by rw[List.length_take];omega) 112;have i1:S.length-2<S.length:=(by omega);have i2:S.length-1<S.length:=(by omega);have v1:f5 (y6 S) ((S.length-2:Nat):Int)=some (UInt8.ofNat (S[S.length-2]).toNat):=by rw[l4 (by rw[bl];exact i1)];simp[y6]
    have v2:f5 (y6 S) ((S.length-1:Nat):Int)=some (UInt8.ofNat (S[S.length-1]).toNat):=by rw[l4 (by rw[bl];exact i2)];simp[y6]
    have u1:=zW (hS _ (A4 i1));have u2:=zW (hS _ (A4 i2));have hsp:S=S.take (S.length-2)++[S[S.length-2],S[S.length-1]]:=by
     conv=>lhs;rw[←List.take_append_drop (S.length-2) S]
     congr 1;rw[J8 i1];congr 1;have:S.length-2+1=S.length-1:=(by omega);rw[this,J8 i2];congr 1;exact N3 (by omega)
    have fin:∀{r:Option RT0} (t:Int),S[S.length-2]=t→(t=116∨t=48)→b=true→r=some (((decide (S[S.length-1]=98)),()),())→∃b,r=some ((b,()),())∧(b=true→Fam x.Ks x.Ns i S fk):=by
     intro r t ht ht2 hb hr;refine⟨_,hr,fun hb2=>?_⟩;have k2:=D3 hb2;have key:∃(P:List Int) (t:Int),S=P++[t,98]∧x.Ns=P.length∧(∀s∈P,s=112)∧(t=116∨t=48):=by refine⟨S.take (S.length-2),t,?_,by rw[List.length_take];omega,g2 hb,ht2⟩;rw[k2,ht]at hsp;exact hsp
     constructor<;>intro h<;>first|(exfalso;omega)|exact key
    rw[f6 cn,f9,T7 hcut,d6,hcl,g1,d6];cases b with
    |false=>exact⟨_,rfl,fun h=>nomatch h⟩
    |true=>
     rw[f9,v1,d6,u1,v2,d6,d6,u2];by_cases z1:S[S.length-2]=116
     ·rw[f6 z1];exact fin 116 z1 (.inl rfl) rfl rfl
     ·rw[d9 z1,f8,u1];by_cases z2:S[S.length-2]=48
      ·rw[f6 z2];exact fin 48 z2 (.inr rfl) rfl rfl
      ·rw[d9 z2];exact⟨_,rfl,fun h=>nomatch h⟩
   ·rw[d9 cn];exact⟨_,rfl,fun h=>nomatch h⟩
  ·rw[d9 c2];exact⟨_,rfl,fun h=>nomatch h⟩
 rw[d9 h4,f8];by_cases h6:x.Ks=6
 ·obtain⟨b,g1,g2⟩:=o 115;rw[f6 h6,f9,g1];exact⟨b,rfl,fun hb=>by constructor<;>intro h<;>first|(exfalso;omega)|exact g2 hb⟩
 rw[d9 h6,f8];by_cases h7:x.Ks=7
 ·rw[f6 h7,f9];exact⟨_,rfl,fun hb=>by have key:=D3 hb;constructor<;>intro h<;>first|(exfalso;omega)|exact key⟩
 rw[d9 h7,f8];by_cases h8:x.Ks=8
 ·rw[f6 h8,f9];by_cases hs:S=[101,101]
  ·rw[f6 hs,f9];have hd2:d.Ks=fk:=by
                 rcases hd with h|h
                 ·rw[hs]at h;cases h
                 ·exact h
   have fin:∀{r:Option RT0} {b:Bool},r=some ((b,()),())→(b=true→fk=26∨fk=28∨fk=29)→∃b,r=some ((b,()),())∧(b=true→Fam x.Ks x.Ns i S fk):=by
    intro r b hr hb;refine⟨b,hr,fun h=>?_⟩;have key:=hb h
    constructor<;>intro h<;>first|(exfalso;omega)|exact⟨hs,key⟩
   by_cases d1:d.Ks=26
   ·rw[f6 d1];exact fin rfl (fun _=>by omega)
   ·rw[d9 d1,f8];by_cases d2:d.Ks=28
    ·rw[f6 d2];exact fin rfl (fun _=>by omega)
    ·rw[d9 d2,f8];exact fin rfl (fun h=>by have:=D3 h;omega)
  ·rw[d9 hs];exact⟨_,rfl,fun h=>nomatch h⟩
 rw[d9 h8,f8];by_cases h9:x.Ks=9
 ·rw[f6 h9,f9];by_cases hs:S=[101,98]
  ·rw[f6 hs];exact⟨_,rfl,fun hb=>by constructor<;>intro h<;>first|(exfalso;omega)|exact .inl hs⟩
  ·rw[d9 hs];exact⟨_,rfl,fun hb=>by have key:=D3 hb;constructor<;>intro h<;>first|(exfalso;omega)|exact .inr key⟩
 rw[d9 h9,f8];by_cases h10:x.Ks=10
 ·rw[f6 h10,f9];exact⟨_,rfl,fun hb=>by have key:=D3 hb;constructor<;>intro h<;>first|(exfalso;omega)|exact key⟩
 rw[d9 h10,f8];by_cases h11:x.Ks=11
 ·rw[f6 h11,f9];by_cases hs:S=[]
  ·rw[f6 hs];exact⟨_,rfl,fun hb=>by constructor<;>intro h<;>first|(exfalso;omega)|exact .inl hs⟩
  ·rw[d9 hs];exact⟨_,rfl,fun hb=>by have key:=D3 hb;constructor<;>intro h<;>first|(exfalso;omega)|exact .inr key⟩
 rw[d9 h11,f8];have c12:∀{r:Option RT0},x.Ks=12∨x.Ks=29∨x.Ks=30→r=some (((decide (S=[101])),()),())→∃b,r=some ((b,()),())∧(b=true→Fam x.Ks x.Ns i S fk):=by
  intro r hk hr;refine⟨_,hr,fun hb=>?_⟩;have key:=D3 hb
  constructor<;>intro h<;>first|(exfalso;omega)|exact key
 by_cases h12:x.Ks=12
 ·rw[f6 h12];exact c12 (.inl h12) rfl
 by_cases h29:x.Ks=29
 ·rw[d9 h12,f8,f6 h29];exact c12 (.inr (.inl h29)) rfl
 by_cases h30:x.Ks=30
 ·rw[d9 h12,f8,d9 h29,f8,f6 h30];exact c12 (.inr (.inr h30)) rfl
 rw[d9 h12,f8,d9 h29,f8,d9 h30,f8];by_cases h13:x.Ks=13
 ·rw[f6 h13,f9];by_cases hs:S=[101]
  ·have hd2:d.Ks=fk:=by
                 rcases hd with h|h
                 ·rw[hs]at h;cases h
                 ·exact h
   rw[f6 hs];exact⟨_,rfl,fun hb=>by have key:=D3 hb;constructor<;>intro h<;>first|(exfalso;omega)|exact⟨hs,by omega⟩⟩
  ·rw[d9 hs];exact⟨_,rfl,fun h=>nomatch h⟩
 rw[d9 h13,f8];by_cases h27:x.Ks=27
 ·obtain⟨b,g1,g2⟩:=o 101;rw[f6 h27,f9,g1];exact⟨b,rfl,fun hb=>by constructor<;>intro h<;>first|(exfalso;omega)|exact g2 hb⟩
 rw[d9 h27,f8];have c28:∀{r:Option RT0},x.Ks=28∨x.Ks=31→r=some (((decide (S=[101,101])),()),())→∃b,r=some ((b,()),())∧(b=true→Fam x.Ks x.Ns i S fk):=by
  intro r hk hr;refine⟨_,hr,fun hb=>?_⟩;have key:=D3 hb
  constructor<;>intro h<;>first|(exfalso;omega)|exact key
 by_cases h28:x.Ks=28
 ·rw[f6 h28];exact c28 (.inl h28) rfl
 by_cases h31:x.Ks=31
 ·rw[d9 h28,f8,f6 h31];exact c28 (.inr h31) rfl
 rw[d9 h28,f8,d9 h31,f8];by_cases h32:x.Ks=32
 ·rw[f6 h32,f9];have fin:∀{r:Option RT0} {b:Bool},r=some ((b,()),())→(b=true→S=[116]∧fk=19∨S=[116,101]∧fk=20)→∃b,r=some ((b,()),())∧(b=true→Fam x.Ks x.Ns i S fk):=by
   intro r b hr hb;refine⟨b,hr,fun h=>?_⟩;have key:=hb h
   constructor<;>intro h<;>first|(exfalso;omega)|exact key
  have two:∃b,(cond (decide (S=[116,101])) (some (((decide (d.Ks=20)),()),())) (some ((false,()),())):Option RT0)=some ((b,()),())∧(b=true→Fam x.Ks x.Ns i S fk):=by
   by_cases hs:S=[116,101]
   ·have hd2:d.Ks=fk:=by
                  rcases hd with h|h
                  ·rw[hs]at h;cases h
                  ·exact h
    rw[f6 hs];exact fin rfl (fun h=>.inr ⟨hs,by have:=D3 h;omega⟩)
   ·rw[d9 hs];exact⟨_,rfl,fun h=>nomatch h⟩
  by_cases hs:S=[116]
  ·have hd2:d.Ks=fk:=by
                 rcases hd with h|h
                 ·rw[hs]at h;cases h
                 ·exact h
   rw[f6 hs,f9];by_cases d1:d.Ks=19
   ·rw[f6 d1];exact fin rfl (fun _=>.inl ⟨hs,by omega⟩)
   ·rw[d9 d1];exact two
  ·rw[d9 hs];exact two
 rw[d9 h32,f8];by_cases hs:S=[]
 ·rw[f6 hs,f9,d6,d6];by_cases c14:x.Ks≥14
  ·rw[f6 c14];exact⟨_,rfl,fun hb=>by have key:=D3 hb;constructor<;>intro h<;>first|(exfalso;omega)|exact⟨hs,by omega,key⟩⟩
  ·rw[d9 c14];exact⟨_,rfl,fun h=>nomatch h⟩
 ·rw[d9 hs];exact⟨_,rfl,fun h=>nomatch h⟩
theorem b1Y{l:List d7}{i st:Nat}{x:d7}(hl:l.length≤100000000)(hx:l[i]? =some x)(hs:x.Cs=(st:Int)-(i+1))(hst:st≤l.length){ks:List Nat}(h:Kc l (i+1) st ks):∃b,yX d5 l (i:Int)=some ((b,()),())∧(b=true→Fam x.Ks x.Ns i (E5 l ks) (fkd l ks)):=by
 have hkl:=h.le;rw[b01,sC,T8 hl hx hs hst h,d6];generalize hI:ks.map (fun(k:Nat)=>(k:Int))=ksI;have hIl:ksI.length=ks.length:=(by rw[←hI,E1]);have get:∀(d:Nat) (hd:d<ks.length),∃y,l[ks[d]]? =some y∧f5 ksI (d:Int)=some ((ks[d]:Nat):Int)∧ksI[d]? =some ((ks[d]:Nat):Int)∧f5 l ((ks[d]:Nat):Int)=some y:=by
  intro d hd;obtain⟨_,_,y,q,hy,_⟩:=h.mem _ (A4 hd);have hyl:=(l3.1 hy).1;refine⟨y,hy,?_,?_,?_⟩
  ·rw[l4 (by rw[hIl];exact hd)];simp[←hI]
  ·simp[←hI,hd]
  ·rw[l4 hyl];exact(o5 hyl).symm.trans hy
 have loop:∀(n d:Nat),ks.length-d=n→d≤ks.length→Wy d5 l (i:Int) ((ksI,()),()) (d:Int) (E5 l (ks.take d))=CO d5 l (i:Int) ((ksI,()),()) (E5 l ks):=by
  intro n
  induction n with
  |zero=>intro d hn hd;rw[YJ,Wh];simp only[hIl];rw[d9 (by omega),f8,List.take_of_length_le (by omega)]
  |succ n ih=>
   intro d hn hd;have hdl:d<ks.length:=(by omega);obtain⟨y,hy,g1,g2,g3⟩:=get d hdl;have e1:w64 ((d:Int)+1)=((d+1:Nat):Int):=(by rw[wrap64 (by omega) (by omega)];omega);have es:E5 l (ks.take d)++[E2 y.Ks]=E5 l (ks.take (d+1)):=by unfold E5;rw[List.take_add_one,o5 hdl,D9];simp[p9 hy]
   have hz:(E5 l (ks.take d)).length+ [E2 y.Ks].length≤100000000:=by unfold E5;rw[E1,List.length_take,A3];omega
   have:=ih (d+1) (by omega) (by omega);rw[YJ,Wh];simp only[hIl];rw[f6 (by omega),f9,g1,d6,E0,g2,d6,g3,d6,a41,d6];simp only;rw[H8 (by decide) hz,d6,es,e1,this]
 have l0:=loop _ 0 rfl (C9 _);rw[List.take_zero]at l0;rw[show Wy d5 l (i:Int) ((ksI,()),()) 0 []=_ from l0,b3B,eO,ID (DL l ks),d6];have hsl:(E5 l ks).length≤100000000:=(by unfold E5;rw[E1];omega);simp only[hIl];cases ks with
 |nil=>rw[d9 (by simp),f8];exact LB hx hl (DL l []) hsl _ _ (.inl rfl)
 |cons k ks=>obtain⟨y,hy,g1,g2,g3⟩:=get 0 (by simp);rw[f6 (by simp),f9,show f5 ksI 0=_ from g1,d6,show ksI[Int.toNat 0]? =_ from g2,d6,g3,d6];exact LB hx hl (DL l (k::ks)) hsl _ _ (.inr (p9 hy).symm)
structure Fld(x:d7):Prop where
 n21:x.Ks=21→0≤x.Ns
 n22:x.Ks=22→0≤x.Ns∧x.Ns<8388608
 n24:x.Ks=24→x.Ns=0∨x.Ns=1
 n30:x.Ks=30→x.Ns=12∨x.Ns=13
 n31:x.Ks=31→1≤x.Ns∧x.Ns≤11∨x.Ns=14∨x.Ns=15
theorem GE(s:b38)(hs:s.length≤65536)(k:Int):∃b,oR d5 s k=some ((b,()),()):=by
 rw[ZQ,bA];by_cases c:(s.length:Int)=0
 ·rw[f6 c];exact⟨_,rfl⟩
 have h0:0<s.length:=(by omega);have j0:∃b,Ye d5 s k=some ((b,()),()):=by
  obtain⟨t,n,e,h1,h2⟩:=HE s hs 0 h0;rw[b11,Yd,show Xy d5 s 0=_ from h1,d6];cases decide (e=0)with
  |false=>exact⟨_,rfl⟩
  |true=>
   rw[f9];cases decide (n=(s.length:Int))with
   |false=>exact⟨_,rfl⟩
   |true=>exact⟨_,rfl⟩
 rw[d9 c,f8,show f5 s 0=some s[0]from l4 (i:=0) h0,d6,d6];cases decide ((s[0].toNat:Int)≥48)with
 |false=>exact j0
 |true=>
  rw[f9];cases decide ((s[0].toNat:Int)≤57)with
  |false=>exact j0
  |true=>exact⟨_,rfl⟩
theorem b2B(x:d7)(hs:x.Ds.length≤65536):∃b,CP d5 x=some ((b,()),())∧(b=true→Fld x):=by
 obtain⟨bg,hg⟩:=GE x.Ds hs 2;obtain⟨bn',hn⟩:=GE x.Ds hs 1;have hG:xE d5 x.Ds=some ((bg,()),()):=(by rw[a5v,aY,hg];rfl);have hN:bB d5 x.Ds=some ((bn',()),()):=(by rw[a6U,Yv,hn];rfl);have triv:∀{r:Option RT0} {b:Bool},r=some ((b,()),())→(x.Ks<21∨x.Ks=23∨25≤x.Ks∧x.Ks≤29∨32≤x.Ks)→∃b,r=some ((b,()),())∧(b=true→Fld x):=by
  intro r b hr hk;refine⟨b,hr,fun _=>?_⟩
  constructor<;>intro h<;>(exfalso;omega)
 have j0:(x.Ks=2∨x.Ks=19)→∃b,mQ d5 x=some ((b,()),())∧(b=true→Fld x):=by
  intro hk;rw[b2T,jF,hG,d6];cases bg with
  |true=>exact triv rfl (by omega)
  |false=>exact triv rfl (by omega)
 have j1:(x.Ks=3∨x.Ks=5∨x.Ks=7∨x.Ks=26∨x.Ks=27∨x.Ks=29)→∃b,Gu d5 x=some ((b,()),())∧(b=true→Fld x):=by
  intro hk;rw[b2s,qM,hN,d6];cases bn' with
  |true=>exact triv rfl (by omega)
  |false=>exact triv rfl (by omega)
 rw[b16,oH];by_cases h2:x.Ks=2
 ·rw[f6 h2];exact j0 (.inl h2)
 rw[d9 h2,f8];by_cases h19:x.Ks=19
 ·rw[f6 h19];exact j0 (.inr h19)
 rw[d9 h19,f8];by_cases h3:x.Ks=3
 ·rw[f6 h3];exact j1 (by omega)
 rw[d9 h3,f8];by_cases h5:x.Ks=5
 ·rw[f6 h5];exact j1 (by omega)
 rw[d9 h5,f8];by_cases h7:x.Ks=7
 ·rw[f6 h7];exact j1 (by omega)
 rw[d9 h7,f8];by_cases h26:x.Ks=26
 ·rw[f6 h26];exact j1 (by omega)
 rw[d9 h26,f8];by_cases h27:x.Ks=27
 ·rw[f6 h27];exact j1 (by omega)
 rw[d9 h27,f8];by_cases h29:x.Ks=29
 ·rw[f6 h29];exact j1 (by omega)
 rw[d9 h29,f8];by_cases h4:x.Ks=4
 ·rw[f6 h4,f9,hN];exact triv rfl (by omega)
 rw[d9 h4,f8];by_cases h23:x.Ks=23
 ·rw[f6 h23];exact triv rfl (by omega)
 rw[d9 h23,f8];cases decide (x.Ds=([]:b38))with
 |false=>exact⟨_,rfl,fun h=>nomatch h⟩
 |true=>
 rw[A2,f8];by_cases h21:x.Ks=21
 ·rw[f6 h21];exact⟨_,rfl,fun hb=>by have key:=D3 hb;constructor<;>intro h<;>first|(exfalso;omega)|exact key⟩
 rw[d9 h21,f8];by_cases h22:x.Ks=22
 ·rw[f6 h22,f9];by_cases a:x.Ns≥0
  ·rw[f6 a];exact⟨_,rfl,fun hb=>by have key:=D3 hb;constructor<;>intro h<;>first|(exfalso;omega)|exact⟨a,key⟩⟩
  ·rw[d9 a];exact⟨_,rfl,fun h=>nomatch h⟩
 rw[d9 h22,f8];by_cases h24:x.Ks=24
 ·rw[f6 h24,f9];by_cases a:x.Ns=0
  ·rw[f6 a];exact⟨_,rfl,fun hb=>by constructor<;>intro h<;>first|(exfalso;omega)|exact .inl a⟩
  ·rw[d9 a];exact⟨_,rfl,fun hb=>by have key:=D3 hb;constructor<;>intro h<;>first|(exfalso;omega)|exact .inr key⟩
 rw[d9 h24,f8];by_cases h30:x.Ks=30
 ·rw[f6 h30,f9];by_cases a:x.Ns=12
  ·rw[f6 a];exact⟨_,rfl,fun hb=>by constructor<;>intro h<;>first|(exfalso;omega)|exact .inl a⟩
  ·rw[d9 a];exact⟨_,rfl,fun hb=>by have key:=D3 hb;constructor<;>intro h<;>first|(exfalso;omega)|exact .inr key⟩
 rw[d9 h30,f8];by_cases h31:x.Ks=31
 ·have fin:∀{r:Option RT0} {b:Bool},r=some ((b,()),())→(b=true→1≤x.Ns∧x.Ns≤11∨x.Ns=14∨x.Ns=15)→∃b,r=some ((b,()),())∧(b=true→Fld x):=by
   intro r b hr hb;refine⟨b,hr,fun h=>?_⟩;have key:=hb h
   constructor<;>intro h<;>first|(exfalso;omega)|exact key
  have two:∃b,(cond (decide (x.Ns=14)) (some ((true,()),())) (some (((decide (x.Ns=15)),()),())):Option RT0)=some ((b,()),())∧(b=true→Fld x):=by
   by_cases a:x.Ns=14
   ·rw[f6 a];exact fin rfl (fun _=>by omega)
   ·rw[d9 a];exact fin rfl (fun h=>by have:=D3 h;omega)
  rw[f6 h31,f9];by_cases a:x.Ns≥1
  ·rw[f6 a,f9];by_cases b:x.Ns≤11
   ·rw[f6 b];exact fin rfl (fun _=>by omega)
   ·rw[d9 b];exact two
  ·rw[d9 a];exact two
 rw[d9 h31,f8];exact triv rfl (by omega)
structure J9(l:List d7):Prop where
 root:∃x,l[0]? =some x∧x.Ks=1∧x.Cs=(l.length:Int)-1∧1≤l.length∧WFo l 1 l.length
 nd:∀(i:Nat) (x:d7),l[i]? =some x→∃(st:Nat) (ks:List Nat),x.Cs=(st:Int)-(i+1)∧i+1≤st∧st≤l.length∧WFo l (i+1) st∧Kc l (i+1) st ks∧Fam x.Ks x.Ns i (E5 l ks) (fkd l ks)∧Fld x
theorem NP{l:List d7}(hl:l.length≤100000000)(ht:∀n∈l,n.Ds.length≤65536):∃b,oB d5 l=some ((b,()),())∧(b=true→J9 l):=by
 obtain⟨b,h1,h2⟩:=OL hl;rw[a3j,jX,h1,d6];cases b with
 |false=>exact⟨_,rfl,fun h=>nomatch h⟩
 |true=>
  obtain⟨x,hx,hxs,h0,hw⟩:=h2 rfl;have hxe:l[0]=x:=(l3.1 hx).2;rw[A2,f8,show f5 l 0=some l[0]from l4 (i:=0) h0,d6,hxe];by_cases hk:x.Ks=1
  ·rw[f6 hk,A2,f8];have tree:∀(i:Nat) (x:d7),l[i]? =some x→∃(st:Nat) (ks:List Nat),x.Cs=(st:Int)-(i+1)∧i+1≤st∧st≤l.length∧WFo l (i+1) st∧Kc l (i+1) st ks:=by
    intro i y hy;have hil:=(l3.1 hy).1;by_cases e:i=0
    ·subst e;rw[hx]at hy;cases hy;obtain⟨ks,hks⟩:=hw.kc;exact⟨l.length,ks,by omega,by omega,i4 _,hw,hks⟩
    ·obtain⟨z,k,g1,g2,g3,g4,g5⟩:=hw.inside i (by omega) hil;rw[hy]at g1;cases g1;obtain⟨ks,hks⟩:=g4.kc;exact⟨k,ks,g2,g3,g5,g4,hks⟩
   have loop:∀(n i:Nat),l.length-i=n→∃b,jB d5 l (i:Int)=some ((b,()),())∧(b=true→∀(j:Nat) (x:d7),i≤j→l[j]? =some x→∃(st:Nat) (ks:List Nat),x.Cs=(st:Int)-(j+1)∧j+1≤st∧st≤l.length∧WFo l (j+1) st∧Kc l (j+1) st ks∧Fam x.Ks x.Ns j (E5 l ks) (fkd l ks)∧Fld x):=by
    intro n
    induction n with
    |zero=>intro i hi;rw[VP,Vc,d9 (by omega),f8,a9q,dT];exact⟨_,rfl,fun _ j y hj hy=>by have:=(l3.1 hy).1;omega⟩
    |succ n ih=>
     intro i hi;have hil:i<l.length:=(by omega);have e1:w64 ((i:Int)+1)=((i+1:Nat):Int):=(by rw[wrap64 (by omega) (by omega)];omega);have hy:l[i]? =some l[i]:=o5 hil;obtain⟨st,ks,t1,t2,t3,t4,t5⟩:=tree i _ hy;obtain⟨b1,f1,f2⟩:=b2B l[i] (ht _ (A4 hil));obtain⟨b2,g1,g2⟩:=b1Y hl hy t1 t3 t5;obtain⟨b3,k1,k2⟩:=ih (i+1) (by omega);rw[VP,Vc,f6 (by omega),f9,l4 hil,d6,f1,d6];cases b1 with
     |false=>exact⟨_,rfl,fun h=>nomatch h⟩
     |true=>
      rw[A2,f8,g1,d6];cases b2 with
      |false=>exact⟨_,rfl,fun h=>nomatch h⟩
      |true=>
       rw[A2,f8,e1];refine⟨b3,k1,fun hb j y hj hy2=>?_⟩;by_cases e:i=j
       ·subst e;rw[hy]at hy2;cases hy2;exact⟨st,ks,t1,t2,t3,t4,t5,g2 rfl,f2 rfl⟩
       ·exact k2 hb j y (by omega) hy2
   obtain⟨b,k1,k2⟩:=loop _ 0 rfl;exact⟨b,k1,fun hb=>⟨⟨x,hx,hk,hxs,h0,hw⟩,fun i y hy=>k2 hb i y (C9 _) hy⟩⟩
  ·rw[d9 hk];exact⟨_,rfl,fun h=>nomatch h⟩
theorem V3{α:Type}{b:Nat}{xs ys:List α}(hb:b≤1000)(h:xs.length+ys.length≤100000000000):y8 b xs ys=some (xs++ys):=by unfold y8;rw[if_pos];unfold M4 maxLen;have:=Nat.mul_le_mul h hb;omega
structure Y2(nr:Nat)(T:List o0):Prop where
 len:6+nr≤T.length
 base:∀i:Nat,i<6→T[i]? =some ⟨i,0⟩
 recs:∀i:Nat,i<nr→T[6+i]? =some ⟨6,i⟩
 lists:∀(i:Nat) (x:o0),6+nr≤i→T[i]? =some x→x.Ks=7∧1≤x.Of∧x.Of<T.length∧x.Of≠5
def C7(T:List o0)(t:Int):Prop:=1≤t∧t<T.length∧t≠5
theorem C7.ext{T T':List o0}{t:Int}(h:C7 T t)(hp:T<+:T'):C7 T' t:=by have:=hp.length_le;exact⟨h.1,by have:=h.2.1;omega,h.2.2⟩
def TKn(T:List o0)(t k:Int):Prop:=∃y,T[t.toNat]? =some y∧y.Ks=k
def TKd(T:List o0)(t K:Int):Prop:=(K=19→TKn T t 6)∧(K=20→TKn T t 7)
theorem TKn.ext{T T':List o0}{t k:Int}(h:TKn T t k)(hp:T<+:T'):TKn T' t k:=by obtain⟨y,h1,h2⟩:=h;obtain⟨r,rfl⟩:=hp;have:=(l3.1 h1).1;exact⟨y,by rw[T0 this];exact h1,h2⟩
theorem TKd.ext{T T':List o0}{t K:Int}(h:TKd T t K)(hp:T<+:T'):TKd T' t K:=⟨fun hk=>(h.1 hk).ext hp,fun hk=>(h.2 hk).ext hp⟩
theorem a1t(T:List o0)(hT:T.length≤90000000000)(k:Int)(nr:Nat)(h:Y2 nr T)(hk:C7 T k):∃T' t,Ji d5 T k=some ((T',t,()),())∧Y2 nr T'∧C7 T' t∧T<+:T'∧T'.length≤T.length+1∧TKn T' t 7:=by
 have hz:([]:List o0).length+T.length≤100000000000:=(by rw[L6];omega);have h6:=h.len;rw[a1f,oW,V3 (by decide) hz,d6,J4,d9 (by have:=hk.1;omega),f8,d9 (by have:=hk.2.1;omega),f8,d9 hk.2.2,f8];have loop:∀(n i:Nat),T.length-i=n→∃T' t,Uw d5 T k (i:Int) T=some ((T',t,()),())∧Y2 nr T'∧C7 T' t∧T<+:T'∧T'.length≤T.length+1∧TKn T' t 7:=by
  intro n
  induction n with
  |zero=>
   intro i hi;have hz:T.length+ [(o0.mk 7 k)].length≤100000000000:=(by rw[A3];omega);rw[ML,Rl,d9 (by omega),f8,a36,qV,V3 (by decide) hz];refine⟨_,_,rfl,⟨?_,fun i hi=>?_,fun i hi=>?_,fun i x hi hx=>?_⟩,⟨by omega,by rw[o9,A3];omega,by omega⟩,List.prefix_append _ _,by simp,⟨_,by rw[E0,Z5 (i4 _),Xz];rfl,rfl⟩⟩
   ·rw[o9];omega
   ·rw[T0 (by omega)];exact h.base i hi
   ·rw[T0 (by omega)];exact h.recs i hi
   ·by_cases c:i<T.length
    ·rw[T0 c]at hx;obtain⟨a1,a2,a3,a4⟩:=h.lists i x hi hx;exact⟨a1,a2,by rw[o9];omega,a4⟩
    ·rw[Z5 (by omega)]at hx;have:i-T.length=0:=by have:=(l3.1 hx).1;simpa using this
     rw[this]at hx;cases hx;exact⟨rfl,hk.1,by rw[o9];have:=hk.2.1;simp only;omega,hk.2.2⟩
  |succ n ih=>
   intro i hi;have hil:i<T.length:=(by omega);have e:=ih (i+1) (by omega);rw[ML,Rl,f6 (by omega),f9,l4 hil,d6,d6,y9 (by omega)];by_cases c7:T[i].Ks=7
   ·rw[f6 c7,f9];by_cases co:T[i].Of=k
    ·rw[f6 co];have hi6:6≤i:=by
      refine Nat.le_of_not_lt fun hlt=>?_;have:=h.base i hlt;rw[o5 hil]at this;injection this with this
      rw[this]at c7;simp only at c7;omega
     exact⟨T,i,rfl,h,⟨by omega,by omega,by omega⟩,L7 _,by omega,⟨_,by rw[E0];exact o5 hil,c7⟩⟩
    ·rw[d9 co];exact e
   ·rw[d9 c7];exact e
 exact loop _ 0 rfl
theorem a82(T:List o0)(recs:List (b38))(hr:recs.length≤90000000000)(x:d7)(hx:15≤x.Ks∧x.Ks≤19)(nr:Nat)(h:Y2 nr T):∃t,DC d5 T recs x=some ((t,()),())∧(t=0∨C7 T t∧(x.Ks=19→TKn T t 6)):=by
 have h6:=h.len;rw[a52,iE];by_cases c:x.Ks<19
 ·rw[f6 c,f9,wrap64 (n:=x.Ks) (by omega) (by omega),wrap64 (by omega) (by omega)];exact⟨_,rfl,.inr ⟨⟨by omega,by omega,by omega⟩,fun h=>by omega⟩⟩
 ·rw[d9 c,f8];have loop:∀(n i:Nat),recs.length-i=n→∃t,nO d5 T recs (i:Int) x=some ((t,()),())∧(t=0∨C7 T t∧(x.Ks=19→TKn T t 6)):=by
   intro n
   induction n with
   |zero=>intro i hi;rw[EZ,Vk,d9 (by omega),f8,a7S,mL];exact⟨_,rfl,.inl rfl⟩
   |succ n ih=>
    intro i hi;have hil:i<recs.length:=(by omega);have e:=ih (i+1) (by omega);have e6:w64 ((i:Int)+6)=((i+6:Nat):Int):=(by rw[wrap64 (by omega) (by omega)];omega);rw[EZ,Vk,f6 (by omega),f9,l4 hil,d6,y9 (by omega),e6];cases decide (recs[i]=x.Ds)with
    |false=>exact e
    |true=>
     rw[f9];by_cases c6:((i+6:Nat):Int)<(T.length:Int)
     ·have hl6:i+6<T.length:=(by omega);rw[f6 c6,f9,l4 hl6,d6];by_cases ck:T[i+6].Ks=6
      ·rw[f6 ck];exact⟨_,rfl,.inr ⟨⟨by omega,by omega,by omega⟩,fun _=>⟨_,by rw[E0];exact o5 hl6,ck⟩⟩⟩
      ·rw[d9 ck];exact⟨_,rfl,.inl rfl⟩
     ·rw[d9 c6];exact⟨_,rfl,.inl rfl⟩
  exact loop _ 0 rfl
theorem a7T(x:d7)(hx:x.Ds.length≤65536):∃b,DD d5 [x]=some ((b,()),()):=by
 obtain⟨b,h1,_⟩:=OL (l:=[x]) (by simp);rw[a3c,oA,h1,d6];cases b with
 |false=>exact⟨_,rfl⟩
 |true=>
  rw[A2,f8,H8 (by decide) (by simp),d6];have ht:∀n∈([(d7.mk 1 0 0 (w64 (([x].length:Int)+2)) 0 ([]:b38)),(d7.mk 2 0 0 (w64 (([x].length:Int)+1)) 0 ([82]:b38)),(d7.mk 3 0 0 ([x].length:Int) 0 ([102]:b38))]:List d7)++[x],n.Ds.length≤65536:=by
   intro n hn;simp only[List.cons_append,J4,F9,List.not_mem_nil,or_false]at hn;rcases hn with rfl|rfl|rfl|rfl
   ·simp
   ·simp
   ·simp
   ·exact hx
  obtain⟨b,h3,_⟩:=NP (by simp) ht;rw[h3];exact⟨_,rfl⟩
theorem b2w(T:List o0)(hT:T.length≤90000000000)(recs:List (b38))(hr:recs.length≤90000000000)(x:d7)(hx:15≤x.Ks∧x.Ks≤19)(ht:x.Ds.length≤65536)(nr:Nat)(h:Y2 nr T):∃T' t,Pr d5 T recs [x]=some ((T',t,()),())∧(t=0∨C7 T t∧(x.Ks=19→TKn T t 6)):=by
 obtain⟨b,h1⟩:=a7T x ht;obtain⟨t,h2,h3⟩:=a82 T recs hr x hx nr h;have hz:([]:List o0).length+T.length≤100000000000:=(by rw[L6];omega);rw[a0V,sW,V3 (by decide) hz,d6,h1,d6];cases b with
 |false=>exact⟨_,_,rfl,.inl rfl⟩
 |true=>
  rw[A2,f8,show f5 [x] (w64 (([x].length:Int)-1))=some x from rfl,d6,h2,d6];by_cases c:t=0
  ·rw[f6 c];exact⟨_,_,rfl,.inl rfl⟩
  ·have e0:w64 ((([x]:List d7).length:Int)-1)=0:=rfl;rw[d9 c,f8,a4w,oT,e0,d9 (by omega),f8,a0a,cU];exact⟨_,_,rfl,h3⟩
def x5(s:d8)(i:Nat)(m:i8):d8:=⟨⟨s.P.No,s.P.Ms.set i m,s.P.To,s.P.Rs,s.P.Hs,s.P.As,s.P.Ss,s.P.Vars,s.P.Ps⟩,s.Rs,s.F⟩
theorem Bt(s:d8)(hm:s.P.Ms.length≤90000000)(i:Nat)(hi:i<s.P.Ms.length)(m:i8):Gf d5 s (i:Int) m=some ((x5 s i m,()),()):=by have hz:([]:List i8).length+s.P.Ms.length≤100000000:=(by rw[L6];omega);rw[kJ,Ke,H8 (by decide) hz,d6,J4,l4 hi,d6,E0,o5 hi,d6];rfl
theorem NZ:Uz d5=Gf d5:=by funext s i m;rw[b3n,cS,kJ,Ke]
theorem DY:Ol d5=Gf d5:=by funext s i m;rw[a2Q,Zp,kJ,Ke]
theorem Pn:Fb d5=Gf d5:=by funext s i m;rw[a8S,Yj,kJ,Ke]
theorem KI:cV d5=Bd d5:=by funext s i m;rw[a7J,jC,oZ,Ky]
theorem AT:Ux d5=Bd d5:=by funext s i m;rw[b2g,eB,oZ,Ky]
theorem Lu:Hd d5=Bd d5:=by funext s i m;rw[a5s,rE,oZ,Ky]
theorem R1(s:d8):N1 d5 s=some ((!decide (s.F.Code=0),()),()):=a14 s
theorem W9(s:d8)(e:Int)(he:e≠0)(i:Nat)(hi:i<s.P.No.length):∃f:x8,Bd d5 s e (i:Int)=some (((⟨s.P,s.Rs,f⟩:d8),()),())∧f.Code≠0:=by
 rw[oZ,Ky,R1,d6];by_cases c:s.F.Code=0
 ·rw[f6 c,A2,D5,f9,l4 hi,d6,d6];exact⟨_,rfl,he⟩
 ·rw[d9 c];exact⟨s.F,rfl,c⟩
end
section
def fG(l:List d7)(T:List o0)(f:t8):Prop:=∃(k:Nat) (x:d7),f.Gs=(k:Int)∧l[k]? =some x∧x.Ks=4∧f.Es=x.Ns∧(f.By=0∨C7 T f.By)
def tot(s:d8):Nat:=s.P.To.length+s.P.Ps.length+s.P.Vars.length+s.P.Ss.length+s.P.Hs.length+s.P.Rs.length+s.P.As.length+s.Rs.length
structure RI(l:List d7)(nr B:Nat)(s:d8):Prop where
 nodes:s.P.No=l
 marks:s.P.Ms.length=l.length
 big:tot s≤B
 ty:Y2 nr s.P.To
 mt:∀m∈s.P.Ms,0≤m.Ts∧m.Ts<s.P.To.length
 fl:s.F.Code=0→∀f∈s.P.Hs,C7 s.P.To f.Ts
 rc:∀r∈s.P.Rs,0≤r.Us∧0≤r.Vs∧r.Us+r.Vs≤s.P.Hs.length
 fn:∀f∈s.P.As,fG l s.P.To f
 sl:s.F.Code=0→∀t∈s.P.Ss,C7 s.P.To t
theorem fG.ext{l:List d7}{T T':List o0}{f:t8}(h:fG l T f)(hp:T<+:T'):fG l T' f:=by
 obtain⟨k,x,h1,h2,h3,h4,h5⟩:=h;refine⟨k,x,h1,h2,h3,h4,?_⟩;rcases h5 with h5|h5
 ·exact .inl h5
 ·exact .inr (h5.ext hp)
theorem RI.more{l:List d7}{nr B B':Nat}{s:d8}(h:RI l nr B s)(hb:B≤B'):RI l nr B' s:=⟨h.nodes,h.marks,by have:=h.big;omega,h.ty,h.mt,h.fl,h.rc,h.fn,h.sl⟩
theorem RI.fault{l:List d7}{nr B:Nat}{s:d8}(h:RI l nr B s)(f:x8)(hf:f.Code=0→s.F.Code=0):RI l nr B ⟨s.P,s.Rs,f⟩:=⟨h.nodes,h.marks,h.big,h.ty,h.mt,fun c=>h.fl (hf c),h.rc,h.fn,fun c=>h.sl (hf c)⟩
theorem RI.types{l:List d7}{nr B:Nat}{s:d8}(h:RI l nr B s){T:List o0}(hT:Y2 nr T)(hp:s.P.To<+:T)(hl:T.length≤s.P.To.length+1):RI l nr (B+1) ⟨⟨s.P.No,s.P.Ms,T,s.P.Rs,s.P.Hs,s.P.As,s.P.Ss,s.P.Vars,s.P.Ps⟩,s.Rs,s.F⟩:=by
 have hlen:=hp.length_le;refine⟨h.nodes,h.marks,?_,hT,fun m hm=>?_,fun c f hf=>(h.fl c f hf).ext hp,h.rc,fun f hf=>(h.fn f hf).ext hp,fun c t ht=>(h.sl c t ht).ext hp⟩
 ·have:=h.big;unfold tot at this⊢;simp only;omega
 ·have:=h.mt m hm;exact⟨this.1,by simp only;omega⟩
theorem RI.mark{l:List d7}{nr B:Nat}{s:d8}(h:RI l nr B s)(i:Nat)(m:i8)(h0:0≤m.Ts)(h1:m.Ts<s.P.To.length):RI l nr B (x5 s i m):=by
 refine⟨h.nodes,by unfold x5;simp only[Du];exact h.marks,h.big,h.ty,fun x hx=>?_,h.fl,h.rc,h.fn,h.sl⟩;rcases List.mem_or_eq_of_mem_set hx with hx|rfl
 ·exact h.mt x hx
 ·exact⟨h0,h1⟩
structure Ex(l:List d7)(s s':d8)(lo hi:Nat):Prop where
 types:s.P.To<+:s'.P.To
 marks:∀i:Nat,(i<lo∨hi≤i)→s'.P.Ms[i]? =s.P.Ms[i]?
 par:∀i:Nat,kd l i=5→s'.P.Ms[i]? =s.P.Ms[i]?
 recs:s'.P.Rs=s.P.Rs
 fields:s'.P.Hs=s.P.Hs
 fns:s'.P.As=s.P.As
 slots:s'.P.Ss=s.P.Ss
 vars:s'.P.Vars=s.P.Vars
 points:s'.P.Ps=s.P.Ps
 own:s'.Rs=s.Rs
 bad:s.F.Code≠0→s'.F.Code≠0
theorem Ex.refl(l:List d7)(s:d8)(lo hi:Nat):Ex l s s lo hi:=⟨L7 _,fun _ _=>rfl,fun _ _=>rfl,rfl,rfl,rfl,rfl,rfl,rfl,rfl,id⟩
theorem Ex.trans{l:List d7}{s s' s'':d8}{lo hi lo' hi' lo2 hi2:Nat}(h:Ex l s s' lo hi)(h':Ex l s' s'' lo' hi')(a:lo2≤lo)(b:hi≤hi2)(c:lo2≤lo')(d:hi'≤hi2):Ex l s s'' lo2 hi2:=
 ⟨h.types.trans h'.types,fun i hi=>(h'.marks i (by omega)).trans (h.marks i (by omega)),fun i hi=>(h'.par i hi).trans (h.par i hi),h'.recs.trans h.recs,h'.fields.trans h.fields,h'.fns.trans h.fns,h'.slots.trans h.slots,h'.vars.trans h.vars,h'.points.trans h.points,h'.own.trans h.own,fun hb=>h'.bad (h.bad hb)⟩
theorem Ex.fault(l:List d7)(s:d8)(f:x8)(hf:f.Code≠0)(lo hi:Nat):Ex l s ⟨s.P,s.Rs,f⟩ lo hi:=⟨L7 _,fun _ _=>rfl,fun _ _=>rfl,rfl,rfl,rfl,rfl,rfl,rfl,rfl,fun _=>hf⟩
theorem Ex.mark(l:List d7)(s:d8)(i:Nat)(m:i8)(lo hi:Nat)(h1:lo≤i)(h2:i<hi)(h5:kd l i≠5):Ex l s (x5 s i m) lo hi:=⟨L7 _,fun j hj=>by unfold x5;simp only;rw[Y0 (by omega)],fun j hj=>by unfold x5;simp only;rw[Y0 (fun e=>h5 (by rw[e];exact hj))],rfl,rfl,rfl,rfl,rfl,rfl,rfl,id⟩
theorem b1A{α:Type}{l:List α}{b:Nat}{x:α}(h:l[b]? =some x):x6 l (b:Int) ((b+1:Nat):Int)=[x]:=by have hb:=(l3.1 h).1;have hx:=(l3.1 h).2;unfold x6;rw[E0,J8 hb,hx];have:(((b+1:Nat):Int)-(b:Int)).toNat=1:=(by omega);rw[this];rfl
theorem H2{l:List d7}{ks:List Nat}{a:List Int}(h:E5 l ks=a):ks.length=a.length∧∀(i:Nat) (h1:i<ks.length) (h2:i<a.length),E2 (kd l ks[i])=a[i]:=by subst h;exact⟨by unfold E5;rw[E1],fun i h1 h2=>by simp[E5]⟩
theorem S6{k:Int}(h:E2 k=116):15≤k∧k≤20:=by
 unfold E2 sk2 sk1 sk0 at h
 repeat' split at h
 all_goals omega
theorem Kc.first{l:List d7}{i j:Nat}{k:Nat}{ks:List Nat}(h:Kc l i j (k::ks)):k=i∧∃(x:d7) (q:Nat),l[i]? =some x∧x.Cs=(q:Int)-(i+1)∧i+1≤q∧q≤j∧Kc l q j ks:=by
 cases h with
 |cons _ q _ x _ hx hs hk kids rest=>exact⟨rfl,x,q,hx,hs,hk,by have:=rest.le;omega,rest⟩
section
variable{l:List d7}(hM:J9 l)(hl:l.length≤30000)(htx:∀n∈l,n.Ds.length≤65536)
include hM hl htx
theorem zS(K:d8→Int→Option N6)(hK:∀a b,K a b=((f5 a.P.No b).bind fun c=>(cond (decide (c.Ks=14)) (some ((0,a,()),())) ((f5 a.P.No b).bind fun d=>(cond (decide (d.Ks=20)) (((K a (w64 (b+1)))).bind fun(e:N6)=>(((N1 d5 e.1.2.1)).bind fun(f:RT0)=>(cond f.1.1 (some ((0,e.1.2.1,()),())) (((Ji d5 e.1.2.1.P.To e.1.1)).bind fun(h:V1)=>(((Gf d5 (d8.mk (l9.mk e.1.2.1.P.No e.1.2.1.P.Ms h.1.1 e.1.2.1.P.Rs e.1.2.1.P.Hs e.1.2.1.P.As e.1.2.1.P.Ss e.1.2.1.P.Vars e.1.2.1.P.Ps) e.1.2.1.Rs e.1.2.1.F) b (i8.mk h.1.2.1 0 0))).bind fun(j:l8)=>(some ((h.1.2.1,j.1.1,()),()))))))) ((okP (C8 b (w64 (b+1)) (a.P.No.length:Int))).bind fun _=>(((Pr d5 a.P.To a.Rs (x6 a.P.No b (w64 (b+1))))).bind fun(k:V1)=>(cond (decide (k.1.2.1=0)) (((Bd d5 a 8 b)).bind fun(l:l8)=>(some ((0,l.1.1,()),()))) (((Gf d5 a b (i8.mk k.1.2.1 0 0))).bind fun(m:l8)=>(some ((k.1.2.1,m.1.1,()),()))))))))))):∀(n b:Nat) (x:d7) (st:Nat),l[b]? =some x→x.Cs=(st:Int)-(b+1)→st-b=n→(14≤x.Ks∧x.Ks≤20)→∀(s:d8) (nr B:Nat),RI l nr B s→B+(st-b)≤80000000000→∃t s',K s (b:Int)=some ((t,s',()),())∧RI l nr (B+(st-b)) s'∧Ex l s s' b st∧(t=0∨C7 s'.P.To t)∧(s'.F.Code=0→x.Ks=14∧t=0∨(x.Ks≠14∧TKd s'.P.To t x.Ks)∧C7 s'.P.To t):=by
 intro n
 induction n using Nat.strongRecOn with
 |_ n ih=>
 intro b x st hx hs hn hk s nr B hR hB;have hbl:=(l3.1 hx).1;have hxe:=(l3.1 hx).2;have hnd:=hR.nodes;have hmk:=hR.marks;have hbig:=hR.big;unfold tot at hbig;have h5:kd l b≠5:=(by rw[p9 hx];omega);have gx:f5 s.P.No (b:Int)=some x:=(by rw[hnd,l4 hbl,hxe]);obtain⟨st',ks,t1,t2,t3,t4,t5,t6,t7⟩:=hM.nd b x hx;have est:st'=st:=(by omega);subst est;rw[hK,gx,d6,d6];by_cases c14:x.Ks=14
 ·rw[f6 c14];exact⟨0,s,rfl,hR.more (by omega),Ex.refl _ _ _ _,.inl rfl,fun _=>.inl ⟨c14,rfl⟩⟩
 rw[d9 c14,f8];by_cases c20:x.Ks=20
 ·rw[f6 c20,f9,y9 (by omega)];obtain⟨e1,e2⟩:=H2 (t6.k3 (.inr (.inr c20)));obtain⟨k,ks,rfl⟩:∃k ks',ks=k::ks':=by
   cases ks with
   |nil=>simp at e1
   |cons k ks=>exact⟨k,ks,rfl⟩
  have hk1:=S6 (e2 0 (by simp) (by simp));obtain⟨rfl,y,q,hy,hys,hq1,hq2,_⟩:=t5.first
  rw[H7,p9 hy]at hk1;obtain⟨t,s1,g1,g2,g3,g4,g5⟩:=ih (q-(b+1)) (by omega) (b+1) y q hy hys rfl (by omega) s nr B hR (by omega);have hbig1:=g2.big;unfold tot at hbig1;rw[g1,d6,R1,d6];by_cases cb:s1.F.Code=0
  ·rw[f6 cb,A2,f8];have hT:C7 s1.P.To t:=by
    rcases g5 cb with⟨h,_⟩|⟨_,h⟩
    ·omega
    ·exact h
   obtain⟨T',t',k1,k2,k3,k4,k5,k6⟩:=a1t s1.P.To (by omega) t nr g2.ty hT;have hR2:=g2.types k2 k4 k5;have hm2:b<(⟨⟨s1.P.No,s1.P.Ms,T',s1.P.Rs,s1.P.Hs,s1.P.As,s1.P.Ss,s1.P.Vars,s1.P.Ps⟩,s1.Rs,s1.F⟩:d8).P.Ms.length:=by show b<s1.P.Ms.length;rw[g2.marks];exact hbl
   have hml:s1.P.Ms.length=l.length:=g2.marks;rw[k1,d6];simp only;rw[Bt _ (by simp only;omega) b hm2];refine⟨t',_,rfl,(hR2.mark b _ (by have:=k3.1;simp only;omega) k3.2.1).more (by omega),?_,.inr k3,fun _=>.inr ⟨⟨c14,fun h=>absurd h (by rw[c20];decide),fun _=>k6⟩,k3⟩⟩;have a1:Ex l s1 (⟨⟨s1.P.No,s1.P.Ms,T',s1.P.Rs,s1.P.Hs,s1.P.As,s1.P.Ss,s1.P.Vars,s1.P.Ps⟩,s1.Rs,s1.F⟩:d8) (b+1) q:=⟨k4,fun _ _=>rfl,fun _ _=>rfl,rfl,rfl,rfl,rfl,rfl,rfl,rfl,id⟩;exact(g3.trans a1 (i4 _) (i4 _) (i4 _) (i4 _)).trans (Ex.mark l _ b _ b (b+1) (i4 _) (by omega) h5) (by omega) hq2 (by omega) (by omega)
  ·rw[d9 cb];exact⟨0,s1,rfl,g2.more (by omega),g3.trans (Ex.refl l s1 (b+1) q) (by omega) hq2 (by omega) hq2,.inl rfl,fun h=>absurd h cb⟩
 ·have hcut:C8 (b:Int) ((b+1:Nat):Int) (s.P.No.length:Int):=(by rw[hnd];exact⟨by omega,by omega,by omega⟩);obtain⟨T',t,k1,k2⟩:=b2w s.P.To (by omega) s.Rs (by omega) x (by omega) (htx x (M7 hx)) nr hR.ty;rw[d9 c20,f8,y9 (by omega),T7 hcut,d6,hnd,b1A hx,k1,d6];by_cases c0:t=0
  ·obtain⟨f,f1,f2⟩:=W9 s 8 (by decide) b (by rw[hnd];exact hbl);rw[f6 c0,f9,f1];exact⟨0,_,rfl,(hR.fault f (fun h=>absurd h f2)).more (by omega),Ex.fault l s f f2 _ _,.inl rfl,fun h=>absurd h f2⟩
  ·have hT:C7 s.P.To t∧(x.Ks=19→TKn s.P.To t 6):=by
    rcases k2 with h|h
    ·exact absurd h c0
    ·exact h
   rw[d9 c0,f8];simp only;rw[Bt s (by omega) b (by omega)];exact⟨t,_,rfl,(hR.mark b _ (by have:=hT.1.1;simp only;omega) hT.1.2.1).more (by omega),Ex.mark l s b _ b st' (i4 _) (by omega) h5,.inr hT.1,fun _=>.inr ⟨⟨c14,hT.2,fun h=>absurd h c20⟩,hT.1⟩⟩
end
end
section
def i7(ks:List Nat):List Int:=ks.map fun(k:Nat)=>(k:Int)
theorem B0(ks:List Nat):(i7 ks).length=ks.length:=by unfold i7;rw[E1]
theorem C6{ks:List Nat}{i:Nat}(h:i<ks.length):f5 (i7 ks) (i:Int)=some ((ks[i]:Nat):Int):=by rw[l4 (by rw[B0];exact h)];simp[i7]
theorem D7{ks:List Nat}{i:Nat}(h:i<ks.length):(i7 ks)[i]? =some ((ks[i]:Nat):Int):=by simp[i7,h]
theorem Zu(ks:List Nat)(i:Nat):x6 (i7 ks) (0:Int) (i:Int)=i7 (ks.take i):=by unfold x6 i7;rw[List.map_take];simp
theorem Kc.sorted{l:List d7}{i j:Nat}{ks:List Nat}(h:Kc l i j ks):ks.Pairwise (· < ·):=by
 induction h with
 |nil=>exact List.Pairwise.nil
 |cons i k j x ks hx hs hk kids rest ih=>exact List.Pairwise.cons (fun p hp=>by have:=(rest.mem p hp).1;omega) ih
theorem VY{l:List d7}(hM:J9 l)(hl:l.length≤30000)(k:Int):∃ts:List Nat,aU d5 l k=some ((i7 ts,()),())∧ts.length≤l.length∧(∀p∈ts,∃x,l[p]? =some x∧x.Ks=k)∧ts.Pairwise (· < ·):=by
 obtain⟨x,hx,hk,hs,h0,hw⟩:=hM.root;obtain⟨ks,hks⟩:=hw.kc;have hkl:=hks.le;have hkids:=T8 (l:=l) (by omega) hx (st:=l.length) (by omega) (i4 _) hks;have loop:∀(n i:Nat),ks.length-i=n→Wz d5 l k ((i7 ks,()),()) (i:Int) (i7 ((ks.take i).filter fun p=>decide (kd l p=k)))=some ((i7 (ks.filter fun p=>decide (kd l p=k)),()),()):=by
  intro n
  induction n with
  |zero=>intro i hi;rw[YA,Uh];simp only[B0];rw[d9 (by omega),f8,b1D,mY,List.take_of_length_le (by omega)]
  |succ n ih=>
   intro i hi;have hil:i<ks.length:=(by omega);obtain⟨_,_,y,q,hy,_⟩:=hks.mem _ (A4 hil);have hyl:=(l3.1 hy).1;have hye:=(l3.1 hy).2;have g:=C6 hil;have ga:=D7 hil;have hfl:=List.length_filter_le (fun p=>decide (kd l p=k)) (ks.take i);rw[List.length_take]at hfl;have hz:(i7 ((ks.take i).filter fun p=>decide (kd l p=k))).length+ [((ks[i]:Nat):Int)].length≤100000000:=(by rw[B0,A3];omega);have e:=ih (i+1) (by omega);rw[List.take_add_one,o5 hil,List.filter_append]at e;rw[YA,Uh];simp only[B0];rw[f6 (by omega),f9,g,d6,E0,ga,d6,l4 hyl,hye,d6,y9 (by omega)];by_cases c:y.Ks=k
   ·have e1:i7 ((ks.take i).filter fun p=>decide (kd l p=k))++[((ks[i]:Nat):Int)]=i7 ((ks.take i).filter (fun p=>decide (kd l p=k))++(Option.toList (some ks[i])).filter fun p=>decide (kd l p=k)):=by simp[i7,p9 hy,c]
    rw[f6 c,f9,d6,d6,H8 (by decide) hz,d6,e1];exact e
   ·have e1:(ks.take i).filter (fun p=>decide (kd l p=k))++(Option.toList (some ks[i])).filter (fun p=>decide (kd l p=k))=(ks.take i).filter fun p=>decide (kd l p=k):=by simp[p9 hy,c]
    rw[e1]at e;rw[d9 c,f8];exact e
 rw[a9g,jW,show O4 d5 l 0=_ from hkids,d6];have l0:=loop _ 0 rfl;rw[List.take_zero]at l0;refine⟨_,l0,?_,fun p hp=>?_,hks.sorted.filter _⟩
 ·have:=List.length_filter_le (fun p=>decide (kd l p=k)) ks;omega
 ·obtain⟨h1,h2⟩:=List.mem_filter.1 hp;obtain⟨_,_,y,q,hy,_⟩:=hks.mem p h1;refine⟨y,hy,?_⟩;rw[←p9 hy];exact D3 h2
theorem gK{l:List d7}(ks:List Nat)(hk:∀p∈ks,p<l.length)(hkl:ks.length≤30000)(s:b38):∃b,Lx d5 l (i7 ks) s=some ((b,()),()):=by
 have loop:∀(n i:Nat),ks.length-i=n→∃b,Yn d5 l (i7 ks) s (i:Int)=some ((b,()),()):=by
  intro n
  induction n with
  |zero=>intro i hi;rw[RC,Wt,B0,d9 (by omega),f8,a86,gQ];exact⟨_,rfl⟩
  |succ n ih=>
   intro i hi;have hil:i<ks.length:=(by omega);have hyl:=hk _ (A4 hil);have e:=ih (i+1) (by omega);rw[RC,Wt,B0,f6 (by omega),f9,C6 hil,d6,l4 hyl,d6,y9 (by omega)];cases decide (l[ks[i]].Ds=s)with
   |true=>exact⟨_,rfl⟩
   |false=>exact e
 rw[a0F,eY];exact loop _ 0 rfl
theorem GL(s:b38):∃n:Int,kD d5 s=some ((n,()),())∧0≤n∧n≤8:=by
 have loop:∀(W:List (b38)) (hd:W=([([]:b38),([108,101,110]:b38),([116,101,120,116]:b38),([114,101]:b38),([105,109]:b38),([112,97,105,114]:b38),([99,104,114]:b38),([114,101,97,100]:b38),([114,97,110,100]:b38)]:List (b38))) (hW:W.length=9),∀(n i:Nat),W.length-i=n→∃n:Int,gE d5 s (i:Int)=some ((n,()),())∧0≤n∧n≤8:=by
  intro W hd hW n
  induction n with
  |zero=>intro i hi;rw[YB,Um,←hd,d9 (by omega),f8,a4Z,dK];exact⟨0,rfl,by omega,by omega⟩
  |succ n ih=>
   intro i hi;have hil:i<W.length:=(by omega);have e:=ih (i+1) (by omega);rw[YB,Um,←hd,f6 (by omega),f9,l4 hil,d6,E0,o5 hil,d6,y9 (by omega)];cases decide (W[i]=s)with
   |true=>exact⟨_,rfl,by omega,by omega⟩
   |false=>exact e
 rw[a4D,iS];exact loop _ rfl rfl _ 0 rfl
theorem SE(s:d8)(hs:s.P.As.length≤100000000000)(name:b38):∃n:Int,rI d5 s name=some ((n,()),())∧ -1≤n∧n<s.P.As.length:=by
 have loop:∀(n i:Nat),s.P.As.length-i=n→∃n:Int,oM d5 name s (i:Int)=some ((n,()),())∧ -1≤n∧n<s.P.As.length:=by
  intro n
  induction n with
  |zero=>intro i hi;rw[KE,Wm,d9 (by omega),f8,a8h,sT];exact⟨-1,rfl,by omega,by omega⟩
  |succ n ih=>
   intro i hi;have hil:i<s.P.As.length:=(by omega);have e:=ih (i+1) (by omega);rw[KE,Wm,f6 (by omega),f9,l4 hil,d6,y9 (by omega)];cases decide (s.P.As[i].In=name)with
   |true=>exact⟨_,rfl,by omega,by omega⟩
   |false=>exact e
 rw[a2k,kS];exact loop _ 0 rfl
theorem a6w(n:Nat)(hn:n≤30000):∃T,CU d5 (n:Int)=some ((T,()),())∧Y2 (min n 100) T∧T.length=6+min n 100:=by
 have loop:∀(m i:Nat) (T:List o0),min n 100-i=m→i≤min n 100→Y2 i T→T.length=6+i→∃T',aA d5 (n:Int) (i:Int) T=some ((T',()),())∧Y2 (min n 100) T'∧T'.length=6+min n 100:=by
  intro m
  induction m with
  |zero=>
   intro i T hi hle h hl;have:i=min n 100:=(by omega);rw[KU,Qg,b1l,bY,←this];refine⟨T,?_,h,hl⟩;by_cases c:(i:Int)<(n:Int)
   ·rw[f6 c,d9 (by omega)];rfl
   ·rw[d9 c];rfl
  |succ m ih=>
   intro i T hi hle h hl;have hz:T.length+ [(o0.mk 6 (i:Int))].length≤100000000:=(by rw[A3];omega);rw[KU,Qg,f6 (by omega),f6 (by omega),f9,f9,H8 (by decide) hz,d6,y9 (by omega)];refine ih (i+1) _ (by omega) (by omega) ⟨?_,fun j hj=>?_,fun j hj=>?_,fun j x hj hx=>?_⟩ (by rw[o9,A3];omega)
   ·rw[o9,A3];omega
   ·rw[T0 (by omega)];exact h.base j hj
   ·by_cases c:j<i
    ·rw[T0 (by omega)];exact h.recs j c
    ·have:j=i:=(by omega);subst this;rw[Z5 (by omega)];have:6+j-T.length=0:=(by omega);rw[this];rfl
   ·have:=(l3.1 hx).1;rw[o9,A3]at this;omega
 rw[a25,qQ];refine loop _ 0 _ rfl (C9 _) ⟨by simp,fun i hi=>?_,fun i hi=>absurd hi (Nat.not_lt_zero _),fun i x hi hx=>?_⟩ rfl
 ·have:i=0∨i=1∨i=2∨i=3∨i=4∨i=5:=(by omega);rcases this with rfl|rfl|rfl|rfl|rfl|rfl<;>rfl
 ·have:=(l3.1 hx).1;simp at this;omega
section
variable{l:List d7}(hM:J9 l)(hl:l.length≤30000)(htx:∀n∈l,n.Ds.length≤65536)
include hM hl htx
theorem a3b(b:Nat)(x:d7)(st:Nat)(hx:l[b]? =some x)(hs:x.Cs=(st:Int)-(b+1))(hk:14≤x.Ks∧x.Ks≤20)(s:d8)(nr B:Nat)(hR:RI l nr B s)(hB:B+(st-b)≤80000000000):∃t s',pM d5 s (b:Int)=some ((t,s',()),())∧RI l nr (B+(st-b)) s'∧Ex l s s' b st∧(t=0∨C7 s'.P.To t)∧(s'.F.Code=0→x.Ks=14∧t=0∨(x.Ks≠14∧TKd s'.P.To t x.Ks)∧C7 s'.P.To t):=
 zS hM hl htx _ (fun a b=>by rw[a78,bK,NZ,AT]) _ b x st hx hs rfl hk s nr B hR hB
theorem US(b:Nat)(x:d7)(st:Nat)(hx:l[b]? =some x)(hs:x.Cs=(st:Int)-(b+1))(hk:14≤x.Ks∧x.Ks≤20)(s:d8)(nr B:Nat)(hR:RI l nr B s)(hB:B+(st-b)≤80000000000):∃t s',Xw d5 s (b:Int)=some ((t,s',()),())∧RI l nr (B+(st-b)) s'∧Ex l s s' b st∧(t=0∨C7 s'.P.To t)∧(s'.F.Code=0→x.Ks=14∧t=0∨(x.Ks≠14∧TKd s'.P.To t x.Ks)∧C7 s'.P.To t):=
 zS hM hl htx _ (fun a b=>by rw[a1U,lE,DY,Lu]) _ b x st hx hs rfl hk s nr B hR hB
theorem SB(b:Nat)(x:d7)(st:Nat)(hx:l[b]? =some x)(hs:x.Cs=(st:Int)-(b+1))(hk:14≤x.Ks∧x.Ks≤20)(s:d8)(nr B:Nat)(hR:RI l nr B s)(hB:B+(st-b)≤80000000000):∃t s',Si d5 s (b:Int)=some ((t,s',()),())∧RI l nr (B+(st-b)) s'∧Ex l s s' b st∧(t=0∨C7 s'.P.To t)∧(s'.F.Code=0→x.Ks=14∧t=0∨(x.Ks≠14∧TKd s'.P.To t x.Ks)∧C7 s'.P.To t):=
 zS hM hl htx _ (fun a b=>by rw[a1M,kC,Pn]) _ b x st hx hs rfl hk s nr B hR hB
end
end
end
end Go.Proofs.YtihbbcealnnpiaaGreatDoor
