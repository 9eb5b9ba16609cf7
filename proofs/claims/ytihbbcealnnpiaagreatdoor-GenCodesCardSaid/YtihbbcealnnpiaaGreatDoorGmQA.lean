/- Parts of the proof. -/
import Derived.Test.YtihbbcealnnpiaaGreatDoorGmQC
import Derived.Test.YtihbbcealnnpiaaGreatDoorGmQB2
set_option linter.unusedVariables false
set_option linter.unusedSectionVars false
namespace Go.Proofs.YtihbbcealnnpiaaGreatDoor
noncomputable section
section
open Go.RowKit
set_option maxRecDepth 100000
set_option maxHeartbeats 0
def Q_N(g:(i:Q_C)→Option (Q_T i)):(i:Q_C)→Option (Q_T i)
 |.c0 a b=>Qb0 g a b
 |.c1 a b c=>Qb1 g a b c
 |.c2 a b c d=>Qb2 g a b c d
 |.c3 a b c d=>Qb3 g a b c d
 |.c4 a=>Qb4 g a
 |.c5 a b=>Qb5 g a b
 |.c6 a b c d e=>Qb6 g a b c d e
 |.c7 a b=>Qb7 g a b
 |.c8 a=>Qb8 g a
 |.c9 a=>Qb9 g a
 |.c10 a=>kT g a
 |.c11=>CH g
 |.c12 a b=>Ro g a b
 |.c13 a b=>Yf g a b
 |.c14 a=>Tb g a
 |.c15 a=>eR g a
 |.c16 a b=>Tn g a b
 |.c17=>gO g
 |.c18 a=>lV g a
 |.c19 a=>bT g a
 |.c20 a=>cU g a
 |.c21 a=>eX g a
 |.c22 a b c=>Wy g a b c
 |.c23 a b=>rW g a b
 |.c24 a b=>eY g a b
 |.c25 a b=>kU g a b
 |.c26 a b c d=>Ux g a b c d
 |.c27 a b=>gA g a b
 |.c28 a b c=>rD g a b c
 |.c29 a b c=>bX g a b c
 |.c30 a b=>bP g a b
 |.c31 a b c=>Uz g a b c
 |.c32 a b c=>lX g a b c
 |.c33 a b c d e f=>Sp g a b c d e f
 |.c34 a b c d e f=>cT g a b c d e f
 |.c35 a b c d=>pS g a b c d
 |.c36 a b c d e f=>bG g a b c d e f
 |.c37 a=>nR g a
 |.c38 a=>iO g a
 |.c39 a=>gK g a
 |.c40=>zM g
 |.c41 a=>dC g a
 |.c42 a b c=>mR g a b c
 |.c43 a b c=>rA g a b c
 |.c44 a b c d=>Pm g a b c d
 |.c45 a=>dW g a
 |.c46 a b c=>Yz g a b c
 |.c47 a b c=>oH g a b c
 |.c48 a b=>mO g a b
 |.c49 a b=>qY g a b
 |.c50 a b c=>Sc g a b c
 |.c51 a b=>lU g a b
 |.c52 a b c=>Ri g a b c
 |.c53=>lK g
 |.c54 a=>sC g a
 |.c55 a b c d e f=>eS g a b c d e f
 |.c56 a b c d e=>aR g a b c d e
 |.c57 a=>rY g a
 |.c58 a=>eG g a
 |.c59 a b=>pK g a b
 |.c60 a b c d e=>rI g a b c d e
 |.c61 a b=>kI g a b
 |.c62 a b=>mB g a b
 |.c63 a b=>nP g a b
 |.c64 a b=>tM g a b
 |.c65 a b=>oL g a b
 |.c66 a b=>nH g a b
 |.c67 a b=>oT g a b
 |.c68 a=>jI g a
 |.c69 a b c=>Rn g a b c
 |.c70 a b=>iC g a b
 |.c71 a b=>nA g a b
 |.c72 a=>aQ g a
 |.c73 a b c d=>dZ g a b c d
 |.c74 a b c d=>cO g a b c d
 |.c75 a b=>sK g a b
 |.c76 a=>gU g a
 |.c77 a b c=>pI g a b c
 |.c78 a b c=>nY g a b c
 |.c79 a b=>lI g a b
 |.c80 a=>sF g a
 |.c81 a b=>pY g a b
 |.c82 a b=>jH g a b
 |.c83 a=>eO g a
 |.c84 a=>mZ g a
 |.c85 a b=>nZ g a b
 |.c86 a b=>Zx g a b
 |.c87 a b=>lF g a b
 |.c88 a=>sE g a
 |.c89 a b=>pB g a b
 |.c90 a=>aV g a
 |.c91 a b=>Rj g a b
 |.c92 a b c d e=>Rt g a b c d e
 |.c93 a b c d e f=>Wv g a b c d e f
 |.c94 a b c d e=>dF g a b c d e
 |.c95 a b=>bL g a b
 |.c96 a=>Zr g a
 |.c97 a b c=>Sj g a b c
 |.c98 a b c=>Wn g a b c
 |.c99 a b=>nT g a b
 |.c100 a b=>tH g a b
 |.c101 a b c=>fH g a b c
 |.c102 a b c=>rK g a b c
 |.c103 a=>nW g a
 |.c104 a b c=>iY g a b c
 |.c105 a b c=>kL g a b c
 |.c106 a=>fN g a
 |.c107 a b c d e=>oD g a b c d e
 |.c108 a b c d e=>gQ g a b c d e
 |.c109 a b c d e=>cV g a b c d e
 |.c110 a b c d e f=>lG g a b c d e f
 |.c111 a=>aJ g a
 |.c112 a b=>fO g a b
 |.c113 a b c=>mA g a b c
 |.c114 a b=>iR g a b
 |.c115 a b=>nQ g a b
 |.c116 a b=>eH g a b
 |.c117 a=>lP g a
 |.c118 a b=>iU g a b
 |.c119 a b c d=>Uo g a b c d
 |.c120 a=>kF g a
 |.c121 a b=>dL g a b
 |.c122 a b c d=>Vu g a b c d
 |.c123 a b c=>Tt g a b c
 |.c124 a=>lC g a
 |.c125 a b=>bY g a b
 |.c126 a b=>Za g a b
 |.c127 a=>bW g a
 |.c128 a=>Zt g a
 |.c129 a=>pJ g a
 |.c130 a=>kE g a
 |.c131 a=>rN g a
 |.c132 a=>cQ g a
 |.c133 a=>lW g a
 |.c134 a=>dV g a
 |.c135 a=>lO g a
 |.c136=>qH g
 |.c137 a b=>cE g a b
 |.c138 a b c=>Wg g a b c
 |.c139=>fG g
 |.c140 a b=>tG g a b
 |.c141 a b c d e=>Xb g a b c d e
 |.c142 a b c d=>fT g a b c d
 |.c143 a b c d=>mV g a b c d
 |.c144 a=>kX g a
 |.c145 a b=>Vr g a b
 |.c146=>eV g
 |.c147 a=>CX g a
 |.c148 a b=>lT g a b
 |.c149 a b c=>Xg g a b c
 |.c150=>uB g
 |.c151 a b=>kW g a b
 |.c152 a b c d e=>Uy g a b c d e
 |.c153 a=>oA g a
 |.c154 a b c=>fZ g a b c
 |.c155 a b c d=>Xm g a b c d
 |.c156=>iM g
 |.c157 a=>rS g a
 |.c158 a b c=>Qu g a b c
 |.c159 a=>cZ g a
 |.c160 a b c=>Ko g a b c
 |.c161 a b=>pZ g a b
 |.c162 a b c d=>Sa g a b c d
 |.c163 a b c=>rX g a b c
 |.c164 a=>pD g a
 |.c165 a b c=>jD g a b c
 |.c166 a b c d=>Wb g a b c d
 |.c167=>nO g
 |.c168 a b c=>uE g a b c
 |.c169 a b c d=>pW g a b c d
 |.c170 a b=>dS g a b
 |.c171 a b c=>dQ g a b c
 |.c172 a b c=>fD g a b c
 |.c173 a b=>cJ g a b
 |.c174 a b c=>kB g a b c
 |.c175 a=>lL g a
 |.c176 a b c d=>Yl g a b c d
 |.c177 a b c d=>aK g a b c d
 |.c178 a b c d=>nD g a b c d
 |.c179 a b c=>iZ g a b c
 |.c180 a b c d e=>Zj g a b c d e
 |.c181 a b c d=>Xl g a b c d
 |.c182 a b c d e f h j=>Vy g a b c d e f h j
 |.c183 a=>bA g a
 |.c184 a b c d e f h j=>rL g a b c d e f h j
 |.c185 a b c d e f h j=>rC g a b c d e f h j
 |.c186 a b c d e f h=>mL g a b c d e f h
 |.c187 a b c d e f h j k=>iK g a b c d e f h j k
 |.c188 a b c d e=>kK g a b c d e
 |.c189 a=>jS g a
 |.c190 a b=>Vd g a b
 |.c191=>eK g
 |.c192 a b c=>aO g a b c
 |.c193 a b c=>sI g a b c
 |.c194 a b=>mG g a b
 |.c195 a=>nG g a
 |.c196 a b c d=>Ww g a b c d
 |.c197 a b c d e f h j=>Yj g a b c d e f h j
 |.c198 a b c d e f=>qS g a b c d e f
 |.c199 a=>eJ g a
 |.c200 a b c d e f h j=>pM g a b c d e f h j
 |.c201 a b c d e f h j=>sS g a b c d e f h j
 |.c202 a b c d e f h=>dD g a b c d e f h
 |.c203 a b c d e f=>cG g a b c d e f
 |.c204 a b c d e f h j=>nJ g a b c d e f h j
 |.c205 a b c d e=>tB g a b c d e
 |.c206 a b c d e=>aH g a b c d e
 |.c207 a b c d e f h=>fW g a b c d e f h
 |.c208 a b c=>Li g a b c
 |.c209 a b c=>Zh g a b c
 |.c210 a b=>lD g a b
 |.c211 a b c d=>dI g a b c d
 |.c212 a b c d e=>Mm g a b c d e
 |.c213 a b c d e f h j=>Tz g a b c d e f h j
 |.c214 a b c d e f=>jW g a b c d e f
 |.c215 a=>Qy g a
 |.c216 a b c d e f=>tY g a b c d e f
 |.c217 a b c d e=>It g a b c d e
 |.c218 a b c d e=>sX g a b c d e
 |.c219 a b c d e=>Uf g a b c d e
 |.c220 a b c d e f h j k=>Xy g a b c d e f h j k
 |.c221 a b c d e f h j=>rF g a b c d e f h j
 |.c222 a b=>fQ g a b
 |.c223 a b c d e f h j=>Zm g a b c d e f h j
 |.c224 a b c d e f h j=>nI g a b c d e f h j
 |.c225 a b c d=>cP g a b c d
 |.c226 a b c d e f=>Xc g a b c d e f
 |.c227 a b c=>sZ g a b c
 |.c228 a b c d e=>Xq g a b c d e
 |.c229 a b=>qO g a b
 |.c230 a b=>cX g a b
 |.c231 a b c d e=>Yt g a b c d e
 |.c232 a b c d=>Zq g a b c d
 |.c233 a=>gY g a
 |.c234 a b c=>Kj g a b c
 |.c235 a=>Wl g a
 |.c236 a b=>aN g a b
 |.c237 a=>lS g a
 |.c238 a=>Qq g a
 |.c239 a b c=>tV g a b c
 |.c240 a b c=>rT g a b c
 |.c241 a b c=>eM g a b c
 |.c242 a b c=>dO g a b c
 |.c243 a=>jA g a
 |.c244 a b=>pQ g a b
 |.c245 a b c=>iL g a b c
 |.c246 a b=>mC g a b
 |.c247 a b c d e=>Rv g a b c d e
 |.c248 a b c d=>aG g a b c d
 |.c249 a b c d e=>Vg g a b c d e
 |.c250 a b c d e=>Xf g a b c d e
 |.c251 a b=>hH g a b
 |.c252 a b=>oF g a b
 |.c253 a b c=>kC g a b c
 |.c254 a b=>qV g a b
 |.c255 a b c d=>Uh g a b c d
 |.c256 a b=>oP g a b
 |.c257 a b c d=>tZ g a b c d
 |.c258 a b=>Zy g a b
 |.c259 a b c d e=>pV g a b c d e
 |.c260 a=>jG g a
 |.c261 a b=>mM g a b
 |.c262=>BS g
 |.c263 a b c=>gC g a b c
 |.c264 a b=>aL g a b
 |.c265 a b c=>qW g a b c
 |.c266 a b c d=>iP g a b c d
 |.c267 a b c d e=>cB g a b c d e
 |.c268 a b c d e=>rP g a b c d e
 |.c269 a b=>Gy g a b
 |.c270 a b c d=>iS g a b c d
 |.c271 a b c d=>Tg g a b c d
 |.c272 a b=>Zv g a b
 |.c273 a b=>tP g a b
 |.c274 a b=>jQ g a b
 |.c275 a b c d=>Si g a b c d
 |.c276 a b=>gD g a b
 |.c277 a=>rZ g a
 |.c278 a b c d=>Tu g a b c d
 |.c279 a b=>eC g a b
 |.c280 a=>tD g a
 |.l16_source a=>qQ g a
 |.c282 a b=>bE g a b
 |.c283 a b c d=>Yn g a b c d
 |.c284 a b=>oR g a b
 |.c285 a b c d=>qT g a b c d
 |.c286 a=>Qm g a
 |.c287 a b=>dP g a b
 |.c288 a b=>sV g a b
 |.c289 a b c d=>Td g a b c d
 |.c290 a b c=>Zc g a b c
 |.c291 a b=>tW g a b
 |.c292 a b c d e f h=>Yg g a b c d e f h
 |.c293 a b c d=>eW g a b c d
 |.c294 a b c=>mP g a b c
 |.c295 a b c d e=>sG g a b c d e
 |.c296 a b c d=>qD g a b c d
 |.c297 a b c=>oM g a b c
 |.c298 a b c d e=>Xi g a b c d e
 |.c299 a b c=>bD g a b c
 |.c300 a b=>tE g a b
 |.c301 a b=>Rw g a b
 |.c302 a b=>jY g a b
 |.c303 a b c=>Vk g a b c
 |.c304 a=>mJ g a
 |.c305 a b c=>Wd g a b c
 |.c306 a b c d e f=>mW g a b c d e f
 |.c307 a=>gB g a
 |.c308 a b c d=>iQ g a b c d
 |.c309 a b=>LU g a b
 |.l16_awake=>VB g
 |.c311 a b=>dM g a b
 |.c312 a b c=>Xr g a b c
 |.c313 a b=>qZ g a b
 |.c314 a b c=>Wm g a b c
 |.c315 a b=>qL g a b
 |.c316 a b c=>Yw g a b c
 |.c317=>rQ g
 |.c318 a b=>kZ g a b
 |.c319 a b c d=>Xo g a b c d
 |.c320 a b c d e f=>qU g a b c d e f
 |.c321 a=>qP g a
 |.c322 a b c d=>iW g a b c d
 |.c323 a b=>rE g a b
 |.c324 a b c d=>jU g a b c d
 |.c325 a b=>Xu g a b
 |.c326 a b c d=>Vm g a b c d
 |.c327 a b=>Yv g a b
 |.c328 a b=>Sr g a b
 |.c329 a b c=>jE g a b c
 |.c330 a b c d e=>Sb g a b c d e
 |.c331 a b c d=>bS g a b c d
 |.c332 a b c d=>tQ g a b c d
 |.c333 a b c d=>eD g a b c d
 |.c334 a b c d=>Wh g a b c d
 |.c335 a b c d=>Zf g a b c d
 |.c336 a b=>Jz g a b
 |.c337 a b=>sH g a b
 |.c338 a b c d=>Vx g a b c d
 |.c339 a b=>qF g a b
 |.c340 a=>lR g a
 |.c341 a b c d e=>Ru g a b c d e
 |.c342 a b c d e f h j=>sT g a b c d e f h j
 |.c343 a b c=>qK g a b c
 |.c344 a b c d e=>oK g a b c d e
 |.l16_GenCodes a=>sD g a
theorem b2l(g:Gt tab P0)(i:Q_C):nU (Q_B g) i=Q_N (nU g) i:=by cases i<;>as_aux_lemma=>kernel_rfl
theorem f8(i:Q_C):d5 i=Q_N d5 i:=(ZH i).trans (b2l _ i)
theorem a82(i:Q_C):H2 (fun g=>Q_N g i):=by
 cases i
 all_goals dsimp only[Q_N,Qb0,Qb1,Qb2,Qb3,Qb4,Qb5,Qb6,Qb7,Qb8,Qb9,kT,CH,Ro,Yf,Tb,eR,Tn,gO,lV,bT,cU,eX,Wy,rW,eY,kU,Ux,gA,rD,bX,bP,Uz,lX,Sp,cT,pS,bG,nR,iO,gK,zM,dC,mR,rA,Pm,dW,Yz,oH,mO,qY,Sc,lU,Ri,lK,sC,eS,aR,rY,eG,pK,rI,kI,mB,nP,tM,oL,nH,oT,jI,Rn,iC,nA,aQ,dZ,cO,sK,gU,pI,nY,lI,sF,pY,jH,eO,mZ,nZ,Zx,lF,sE,pB,aV,Rj,Rt,Wv,dF,bL,Zr,Sj,Wn,nT,tH,fH,rK,nW,iY,kL,fN,oD,gQ,cV,lG,aJ,fO,mA,iR,nQ,eH,lP,iU,Uo,kF,dL,Vu,Tt,lC,bY,Za,bW,Zt,pJ,kE,rN,cQ,lW,dV,lO,qH,cE,Wg,fG,tG,Xb,fT,mV,kX,Vr,eV,CX,lT,Xg,uB,kW,Uy,oA,fZ,Xm,iM,rS,Qu,cZ,Ko,pZ,Sa,rX,pD,jD,Wb,nO,uE,pW,dS,dQ,fD,cJ,kB,lL,Yl,aK,nD,iZ,Zj,Xl,Vy,bA,rL,rC,mL,iK,kK,jS,Vd,eK,aO,sI,mG,nG,Ww,Yj,qS,eJ,pM,sS,dD,cG,nJ,tB,aH,fW,Li,Zh,lD,dI,Mm,Tz,jW,Qy,tY,It,sX,Uf,Xy,rF,fQ,Zm,nI,cP,Xc,sZ,Xq,qO,cX,Yt,Zq,gY,Kj,Wl,aN,lS,Qq,tV,rT,eM,dO,jA,pQ,iL,mC,Rv,aG,Vg,Xf,hH,oF,kC,qV,Uh,oP,tZ,Zy,pV,jG,mM,BS,gC,aL,qW,iP,cB,rP,Gy,iS,Tg,Zv,tP,jQ,Si,gD,rZ,Tu,eC,tD,qQ,bE,Yn,oR,qT,Qm,dP,sV,Td,Zc,tW,Yg,eW,mP,sG,qD,oM,Xi,bD,tE,Rw,jY,Vk,mJ,Wd,mW,gB,iQ,LU,VB,dM,Xr,qZ,Wm,qL,Yw,rQ,kZ,Xo,qU,qP,iW,rE,jU,Xu,Vm,Yv,Sr,jE,Sb,bS,tQ,eD,Wh,Zf,Jz,sH,Vx,qF,lR,Ru,sT,qK,oK,sD]
 all_goals repeat(first|exact DL _|exact Q1 _|refine AJ ?_ (fun _=>?_)|refine a3E _ ?_ ?_)
theorem a4G{i:Q_C}{r:Q_T i}(h:H1 Q_N i=some r):d5 i=some r:=a9s a82 f8 h
end
section
open Go.RowKit
set_option maxRecDepth 100000
set_option maxHeartbeats 4000000
theorem NH a b:BU d5 a b=Qb0 d5 a b:=f8 (.c0 a b)
theorem MJ a b c:Cg d5 a b c=Qb1 d5 a b c:=f8 (.c1 a b c)
theorem b0r a b c d:cH d5 a b c d=Qb2 d5 a b c d:=f8 (.c2 a b c d)
theorem ZA a b c d:sN d5 a b c d=Qb3 d5 a b c d:=f8 (.c3 a b c d)
theorem a5E a:JY d5 a=Qb4 d5 a:=f8 (.c4 a)
theorem a6y a b:US d5 a b=Qb5 d5 a b:=f8 (.c5 a b)
theorem GP a b c d e:Qb d5 a b c d e=Qb6 d5 a b c d e:=f8 (.c6 a b c d e)
theorem b2f a b:WL d5 a b=Qb7 d5 a b:=f8 (.c7 a b)
theorem a2o a:Gl d5 a=Qb8 d5 a:=f8 (.c8 a)
theorem YV a:Ze d5 a=Qb9 d5 a:=f8 (.c9 a)
theorem a60 a:Th d5 a=kT d5 a:=f8 (.c10 a)
theorem b1V:sY d5=CH d5:=f8 (.c11)
theorem WQ a b:xG d5 a b=Ro d5 a b:=f8 (.c12 a b)
theorem QY a b:jO d5 a b=Yf d5 a b:=f8 (.c13 a b)
theorem JN a:CL d5 a=Tb d5 a:=f8 (.c14 a)
theorem b2C a:DF d5 a=eR d5 a:=f8 (.c15 a)
theorem JO a b:kM d5 a b=Tn d5 a b:=f8 (.c16 a b)
theorem ZS:HC d5=gO d5:=f8 (.c17)
theorem b3d a:YT d5 a=lV d5 a:=f8 (.c18 a)
theorem b2m a:PO d5 a=bT d5 a:=f8 (.c19 a)
theorem YU a:NG d5 a=cU d5 a:=f8 (.c20 a)
theorem b0m a:DB d5 a=eX d5 a:=f8 (.c21 a)
theorem VN a b c:Zp d5 a b c=Wy d5 a b c:=f8 (.c22 a b c)
theorem a6P a b:aM d5 a b=rW d5 a b:=f8 (.c23 a b)
theorem b2U a b:Qr d5 a b=eY d5 a b:=f8 (.c24 a b)
theorem b3w a b:AP d5 a b=kU d5 a b:=f8 (.c25 a b)
theorem SB a b c d:nX d5 a b c d=Ux d5 a b c d:=f8 (.c26 a b c d)
theorem ZE a b:oW d5 a b=gA d5 a b:=f8 (.c27 a b)
theorem a3Y a b c:kO d5 a b c=rD d5 a b c:=f8 (.c28 a b c)
theorem a2p a b c:OZ d5 a b c=bX d5 a b c:=f8 (.c29 a b c)
theorem a1E a b:VF d5 a b=bP d5 a b:=f8 (.c30 a b)
theorem PQ a b c:kH d5 a b c=Uz d5 a b c:=f8 (.c31 a b c)
theorem a8k a b c:lH d5 a b c=lX d5 a b c:=f8 (.c32 a b c)
theorem WZ a b c d e f:aY d5 a b c d e f=Sp d5 a b c d e f:=f8 (.c33 a b c d e f)
theorem a6J a b c d e f:bI d5 a b c d e f=cT d5 a b c d e f:=f8 (.c34 a b c d e f)
theorem b0f a b c d:rH d5 a b c d=pS d5 a b c d:=f8 (.c35 a b c d)
theorem b3E a b c d e f:lA d5 a b c d e f=bG d5 a b c d e f:=f8 (.c36 a b c d e f)
theorem b0E a:Ut d5 a=nR d5 a:=f8 (.c37 a)
theorem a32 a:fY d5 a=iO d5 a:=f8 (.c38 a)
theorem a7k a:mQ d5 a=gK d5 a:=f8 (.c39 a)
theorem a0K:kD d5=zM d5:=f8 (.c40)
theorem a2e a:FY d5 a=dC d5 a:=f8 (.c41 a)
theorem b1K a b c:rM d5 a b c=mR d5 a b c:=f8 (.c42 a b c)
theorem a3F a b c:bR d5 a b c=rA d5 a b c:=f8 (.c43 a b c)
theorem uK a b c d:xJ d5 a b c d=Pm d5 a b c d:=f8 (.c44 a b c d)
theorem a5I a:WG d5 a=dW d5 a:=f8 (.c45 a)
theorem a5u a b c:Jf d5 a b c=Yz d5 a b c:=f8 (.c46 a b c)
theorem a1s a b c:XR d5 a b c=oH d5 a b c:=f8 (.c47 a b c)
theorem a2u a b:Yu d5 a b=mO d5 a b:=f8 (.c48 a b)
theorem a9T a b:Zz d5 a b=qY d5 a b:=f8 (.c49 a b)
theorem GM a b c:Sq d5 a b c=Sc d5 a b c:=f8 (.c50 a b c)
theorem a63 a b:UF d5 a b=lU d5 a b:=f8 (.c51 a b)
theorem IF a b c:oY d5 a b c=Ri d5 a b c:=f8 (.c52 a b c)
theorem b1W:MI d5=lK d5:=f8 (.c53)
theorem a5q a:tU d5 a=sC d5 a:=f8 (.c54 a)
theorem a61 a b c d e f:tX d5 a b c d e f=eS d5 a b c d e f:=f8 (.c55 a b c d e f)
theorem a0a a b c d e:iV d5 a b c d e=aR d5 a b c d e:=f8 (.c56 a b c d e)
theorem a9l a:Aw d5 a=rY d5 a:=f8 (.c57 a)
theorem a1C a:T4 d5 a=eG d5 a:=f8 (.c58 a)
theorem a2I a b:E7 d5 a b=pK d5 a b:=f8 (.c59 a b)
theorem b1n a b c d e:F7 d5 a b c d e=rI d5 a b c d e:=f8 (.c60 a b c d e)
theorem a8Z a b:De d5 a b=kI d5 a b:=f8 (.c61 a b)
theorem a4u a b:I3 d5 a b=mB d5 a b:=f8 (.c62 a b)
theorem a1p a b:Ey d5 a b=nP d5 a b:=f8 (.c63 a b)
theorem a76 a b:sP d5 a b=tM d5 a b:=f8 (.c64 a b)
theorem a1j a b:Ae d5 a b=oL d5 a b:=f8 (.c65 a b)
theorem a6p a b:oC d5 a b=nH d5 a b:=f8 (.c66 a b)
theorem a8a a b:Bi d5 a b=oT d5 a b:=f8 (.c67 a b)
theorem a7b a:Jx d5 a=jI d5 a:=f8 (.c68 a)
theorem XT a b c:nB d5 a b c=Rn d5 a b c:=f8 (.c69 a b c)
theorem YZ a b:BL d5 a b=iC d5 a b:=f8 (.c70 a b)
theorem b2a a b:jJ d5 a b=nA d5 a b:=f8 (.c71 a b)
theorem a4A a:DG d5 a=aQ d5 a:=f8 (.c72 a)
theorem a9A a b c d:Zw d5 a b c d=dZ d5 a b c d:=f8 (.c73 a b c d)
theorem b3c a b c d:nN d5 a b c d=cO d5 a b c d:=f8 (.c74 a b c d)
theorem b3F a b:Ax d5 a b=sK d5 a b:=f8 (.c75 a b)
theorem a0e a:IE d5 a=gU d5 a:=f8 (.c76 a)
theorem b1c a b c:jB d5 a b c=pI d5 a b c:=f8 (.c77 a b c)
theorem b0y a b c:mD d5 a b c=nY d5 a b c:=f8 (.c78 a b c)
theorem b2j a b:gJ d5 a b=lI d5 a b:=f8 (.c79 a b)
theorem YW a:CA d5 a=sF d5 a:=f8 (.c80 a)
theorem b1M a b:Nd d5 a b=pY d5 a b:=f8 (.c81 a b)
theorem b06 a b:Pp d5 a b=jH d5 a b:=f8 (.c82 a b)
theorem a8f a:FO d5 a=eO d5 a:=f8 (.c83 a)
theorem b0s a:UU d5 a=mZ d5 a:=f8 (.c84 a)
theorem b2T a b:Qx d5 a b=nZ d5 a b:=f8 (.c85 a b)
theorem a2C a b:dJ d5 a b=Zx d5 a b:=f8 (.c86 a b)
theorem a7H a b:vK d5 a b=lF d5 a b:=f8 (.c87 a b)
theorem a8P a:Nh d5 a=sE d5 a:=f8 (.c88 a)
theorem a1r a b:oS d5 a b=pB d5 a b:=f8 (.c89 a b)
theorem a2H a:zD d5 a=aV d5 a:=f8 (.c90 a)
theorem NK a b:L6 d5 a b=Rj d5 a b:=f8 (.c91 a b)
theorem JU a b c d e:oB d5 a b c d e=Rt d5 a b c d e:=f8 (.c92 a b c d e)
theorem RZ a b c d e f:Ih d5 a b c d e f=Wv d5 a b c d e f:=f8 (.c93 a b c d e f)
theorem a9z a b c d e:yE d5 a b c d e=dF d5 a b c d e:=f8 (.c94 a b c d e)
theorem ZB a b:LL d5 a b=bL d5 a b:=f8 (.c95 a b)
theorem a4M a:Mf d5 a=Zr d5 a:=f8 (.c96 a)
theorem KQ a b c:uH d5 a b c=Sj d5 a b c:=f8 (.c97 a b c)
theorem JK a b c:EH d5 a b c=Wn d5 a b c:=f8 (.c98 a b c)
theorem a2R a b:Ue d5 a b=nT d5 a b:=f8 (.c99 a b)
theorem a7p a b:iX d5 a b=tH d5 a b:=f8 (.c100 a b)
theorem b2P a b c:Qw d5 a b c=fH d5 a b c:=f8 (.c101 a b c)
theorem b1Q a b c:dB d5 a b c=rK d5 a b c:=f8 (.c102 a b c)
theorem a9e a:Fb d5 a=nW d5 a:=f8 (.c103 a)
theorem a4J a b c:tA d5 a b c=iY d5 a b c:=f8 (.c104 a b c)
theorem a0l a b c:rO d5 a b c=kL d5 a b c:=f8 (.c105 a b c)
theorem a4d a:EB d5 a=fN d5 a:=f8 (.c106 a)
theorem b1p a b c d e:sL d5 a b c d e=oD d5 a b c d e:=f8 (.c107 a b c d e)
theorem a4I a b c d e:aF d5 a b c d e=gQ d5 a b c d e:=f8 (.c108 a b c d e)
theorem a1V a b c d e:Zn d5 a b c d e=cV d5 a b c d e:=f8 (.c109 a b c d e)
theorem a0y a b c d e f:gM d5 a b c d e f=lG d5 a b c d e f:=f8 (.c110 a b c d e f)
theorem a4s a:YE d5 a=aJ d5 a:=f8 (.c111 a)
theorem a6X a b:jV d5 a b=fO d5 a b:=f8 (.c112 a b)
theorem a6t a b c:Ul d5 a b c=mA d5 a b c:=f8 (.c113 a b c)
theorem b1N a b:Zg d5 a b=iR d5 a b:=f8 (.c114 a b)
theorem b03 a b:zE d5 a b=nQ d5 a b:=f8 (.c115 a b)
theorem a2j a b:dX d5 a b=eH d5 a b:=f8 (.c116 a b)
theorem a64 a:oI d5 a=lP d5 a:=f8 (.c117 a)
theorem a5M a b:J7 d5 a b=iU d5 a b:=f8 (.c118 a b)
theorem XS a b c d:fV d5 a b c d=Uo d5 a b c d:=f8 (.c119 a b c d)
theorem b1w a:GY d5 a=kF d5 a:=f8 (.c120 a)
theorem a4V a b:Pe d5 a b=dL d5 a b:=f8 (.c121 a b)
theorem IJ a b c d:nM d5 a b c d=Vu d5 a b c d:=f8 (.c122 a b c d)
theorem LJ a b c:uJ d5 a b c=Tt d5 a b c:=f8 (.c123 a b c)
theorem a5Q a:fJ d5 a=lC d5 a:=f8 (.c124 a)
theorem ZU a b:pU d5 a b=bY d5 a b:=f8 (.c125 a b)
theorem b14 a b:Zb d5 a b=Za d5 a b:=f8 (.c126 a b)
theorem a5v a:yF d5 a=bW d5 a:=f8 (.c127 a)
theorem a6U a:bZ d5 a=Zt d5 a:=f8 (.c128 a)
theorem b19 a:DQ d5 a=pJ d5 a:=f8 (.c129 a)
theorem b2S a:nS d5 a=kE d5 a:=f8 (.c130 a)
theorem b2u a:Gw d5 a=rN d5 a:=f8 (.c131 a)
theorem a5r a:DJ d5 a=cQ d5 a:=f8 (.c132 a)
theorem a8F a:oX d5 a=lW d5 a:=f8 (.c133 a)
theorem a5p a:sO d5 a=dV d5 a:=f8 (.c134 a)
theorem a8V a:lQ d5 a=lO d5 a:=f8 (.c135 a)
theorem a8m:TL d5=qH d5:=f8 (.c136)
theorem a8Q a b:Lv d5 a b=cE d5 a b:=f8 (.c137 a b)
theorem ID a b c:aW d5 a b c=Wg d5 a b c:=f8 (.c138 a b c)
theorem a28:RJ d5=fG d5:=f8 (.c139)
theorem b01 a b:zY d5 a b=tG d5 a b:=f8 (.c140 a b)
theorem YO a b c d e:Xt d5 a b c d e=Xb d5 a b c d e:=f8 (.c141 a b c d e)
theorem b3z a b c d:DP d5 a b c d=fT d5 a b c d:=f8 (.c142 a b c d)
theorem a5V a b c d:cC d5 a b c d=mV d5 a b c d:=f8 (.c143 a b c d)
theorem a3k a:pE d5 a=kX d5 a:=f8 (.c144 a)
theorem WC a b:kA d5 a b=Vr d5 a b:=f8 (.c145 a b)
theorem a9u:IA d5=eV d5:=f8 (.c146)
theorem a17 a:N6 d5 a=CX d5 a:=f8 (.c147 a)
theorem a2q a b:sM d5 a b=lT d5 a b:=f8 (.c148 a b)
theorem LE a b c:pO d5 a b c=Xg d5 a b c:=f8 (.c149 a b c)
theorem a8i:KG d5=uB d5:=f8 (.c150)
theorem a9i a b:bQ d5 a b=kW d5 a b:=f8 (.c151 a b)
theorem YG a b c d e:Xv d5 a b c d e=Uy d5 a b c d e:=f8 (.c152 a b c d e)
theorem b1E a:SU d5 a=oA d5 a:=f8 (.c153 a)
theorem a0L a b c:Mg d5 a b c=fZ d5 a b c:=f8 (.c154 a b c)
theorem RV a b c d:Zl d5 a b c d=Xm d5 a b c d:=f8 (.c155 a b c d)
theorem a88:PF d5=iM d5:=f8 (.c156)
theorem a26 a:DX d5 a=rS d5 a:=f8 (.c157 a)
theorem LW a b c:aZ d5 a b c=Qu d5 a b c:=f8 (.c158 a b c)
theorem b1m a:uW d5 a=cZ d5 a:=f8 (.c159 a)
theorem lJ a b c:Gh d5 a b c=Ko d5 a b c:=f8 (.c160 a b c)
theorem a1k a b:Jo d5 a b=pZ d5 a b:=f8 (.c161 a b)
theorem NL a b c d:Vl d5 a b c d=Sa d5 a b c d:=f8 (.c162 a b c d)
theorem a36 a b c:SR d5 a b c=rX d5 a b c:=f8 (.c163 a b c)
theorem a3d a:EG d5 a=pD d5 a:=f8 (.c164 a)
theorem a54 a b c:EE d5 a b c=jD d5 a b c:=f8 (.c165 a b c)
theorem GD a b c d:oQ d5 a b c d=Wb d5 a b c d:=f8 (.c166 a b c d)
theorem a7S:OC d5=nO d5:=f8 (.c167)
theorem a00 a b c:Qd d5 a b c=uE d5 a b c:=f8 (.c168 a b c)
theorem a4w a b c d:wG d5 a b c d=pW d5 a b c d:=f8 (.c169 a b c d)
theorem a0f a b:UZ d5 a b=dS d5 a b:=f8 (.c170 a b)
theorem b3l a b c:Vp d5 a b c=dQ d5 a b c:=f8 (.c171 a b c)
theorem b2k a b c:Vn d5 a b c=fD d5 a b c:=f8 (.c172 a b c)
theorem a79 a b:qR d5 a b=cJ d5 a b:=f8 (.c173 a b)
theorem a7J a b c:dT d5 a b c=kB d5 a b c:=f8 (.c174 a b c)
theorem a5j a:BE d5 a=lL d5 a:=f8 (.c175 a)
theorem QM a b c d:Rr d5 a b c d=Yl d5 a b c d:=f8 (.c176 a b c d)
theorem a8e a b c d:hO d5 a b c d=aK d5 a b c d:=f8 (.c177 a b c d)
theorem a6l a b c d:dG d5 a b c d=nD d5 a b c d:=f8 (.c178 a b c d)
theorem b25 a b c:Qt d5 a b c=iZ d5 a b c:=f8 (.c179 a b c)
theorem a9o a b c d e:LF d5 a b c d e=Zj d5 a b c d e:=f8 (.c180 a b c d e)
theorem NP a b c d:tF d5 a b c d=Xl d5 a b c d:=f8 (.c181 a b c d)
theorem XE a b c d e f h j:Pj d5 a b c d e f h j=Vy d5 a b c d e f h j:=f8 (.c182 a b c d e f h j)
theorem a1o a:TF d5 a=bA d5 a:=f8 (.c183 a)
theorem a7q a b c d e f h j:Sz d5 a b c d e f h j=rL d5 a b c d e f h j:=f8 (.c184 a b c d e f h j)
theorem a2X a b c d e f h j:Ym d5 a b c d e f h j=rC d5 a b c d e f h j:=f8 (.c185 a b c d e f h j)
theorem b1U a b c d e f h:Yk d5 a b c d e f h=mL d5 a b c d e f h:=f8 (.c186 a b c d e f h)
theorem b3m a b c d e f h j k:HE d5 a b c d e f h j k=iK d5 a b c d e f h j k:=f8 (.c187 a b c d e f h j k)
theorem b0d a b c d e:KN d5 a b c d e=kK d5 a b c d e:=f8 (.c188 a b c d e)
theorem a4C a:lE d5 a=jS d5 a:=f8 (.c189 a)
theorem YH a b:iD d5 a b=Vd d5 a b:=f8 (.c190 a b)
theorem a4X:KP d5=eK d5:=f8 (.c191)
theorem a2V a b c:Pa d5 a b c=aO d5 a b c:=f8 (.c192 a b c)
theorem a5s a b c:Hg d5 a b c=sI d5 a b c:=f8 (.c193 a b c)
theorem a1W a b:Yr d5 a b=mG d5 a b:=f8 (.c194 a b)
theorem b2w a:vW d5 a=nG d5 a:=f8 (.c195 a)
theorem OQ a b c d:We d5 a b c d=Ww d5 a b c d:=f8 (.c196 a b c d)
theorem IY a b c d e f h j:Me d5 a b c d e f h j=Yj d5 a b c d e f h j:=f8 (.c197 a b c d e f h j)
theorem a4e a b c d e f:qN d5 a b c d e f=qS d5 a b c d e f:=f8 (.c198 a b c d e f)
theorem a9I a:NB d5 a=eJ d5 a:=f8 (.c199 a)
theorem a7N a b c d e f h j:Sm d5 a b c d e f h j=pM d5 a b c d e f h j:=f8 (.c200 a b c d e f h j)
theorem a0B a b c d e f h j:Wu d5 a b c d e f h j=sS d5 a b c d e f h j:=f8 (.c201 a b c d e f h j)
theorem a5g a b c d e f h:Jj d5 a b c d e f h=dD d5 a b c d e f h:=f8 (.c202 a b c d e f h)
theorem a6n a b c d e f:pC d5 a b c d e f=cG d5 a b c d e f:=f8 (.c203 a b c d e f)
theorem a7c a b c d e f h j:NC d5 a b c d e f h j=nJ d5 a b c d e f h j:=f8 (.c204 a b c d e f h j)
theorem a3H a b c d e:XQ d5 a b c d e=tB d5 a b c d e:=f8 (.c205 a b c d e)
theorem b0i a b c d e:jP d5 a b c d e=aH d5 a b c d e:=f8 (.c206 a b c d e)
theorem b1D a b c d e f h:dK d5 a b c d e f h=fW d5 a b c d e f h:=f8 (.c207 a b c d e f h)
theorem qE a b c:Bh d5 a b c=Li d5 a b c:=f8 (.c208 a b c)
theorem a8U a b c:Fd d5 a b c=Zh d5 a b c:=f8 (.c209 a b c)
theorem a1O a b:Tc d5 a b=lD d5 a b:=f8 (.c210 a b)
theorem ZY a b c d:rU d5 a b c d=dI d5 a b c d:=f8 (.c211 a b c d)
theorem yD a b c d e:Iu d5 a b c d e=Mm d5 a b c d e:=f8 (.c212 a b c d e)
theorem MN a b c d e f h j:Qa d5 a b c d e f h j=Tz d5 a b c d e f h j:=f8 (.c213 a b c d e f h j)
theorem a5n a b c d e f:gS d5 a b c d e f=jW d5 a b c d e f:=f8 (.c214 a b c d e f)
theorem PW a:ND d5 a=Qy d5 a:=f8 (.c215 a)
theorem a7f a b c d e f:FW d5 a b c d e f=tY d5 a b c d e f:=f8 (.c216 a b c d e f)
theorem qJ a b c d e:Mh d5 a b c d e=It d5 a b c d e:=f8 (.c217 a b c d e)
theorem b0X a b c d e:ER d5 a b c d e=sX d5 a b c d e:=f8 (.c218 a b c d e)
theorem YJ a b c d e:Ox d5 a b c d e=Uf d5 a b c d e:=f8 (.c219 a b c d e)
theorem YF a b c d e f h j k:Qh d5 a b c d e f h j k=Xy d5 a b c d e f h j k:=f8 (.c220 a b c d e f h j k)
theorem a5L a b c d e f h j:tN d5 a b c d e f h j=rF d5 a b c d e f h j:=f8 (.c221 a b c d e f h j)
theorem b2e a b:PV d5 a b=fQ d5 a b:=f8 (.c222 a b)
theorem a25 a b c d e f h j:xI d5 a b c d e f h j=Zm d5 a b c d e f h j:=f8 (.c223 a b c d e f h j)
theorem a59 a b c d e f h j:kP d5 a b c d e f h j=nI d5 a b c d e f h j:=f8 (.c224 a b c d e f h j)
theorem a58 a b c d:jF d5 a b c d=cP d5 a b c d:=f8 (.c225 a b c d)
theorem GI a b c d e f:bN d5 a b c d e f=Xc d5 a b c d e f:=f8 (.c226 a b c d e f)
theorem ZM a b c:CK d5 a b c=sZ d5 a b c:=f8 (.c227 a b c)
theorem PB a b c d e:Wa d5 a b c d e=Xq d5 a b c d e:=f8 (.c228 a b c d e)
theorem a7E a b:YS d5 a b=qO d5 a b:=f8 (.c229 a b)
theorem a9F a b:vS d5 a b=cX d5 a b:=f8 (.c230 a b)
theorem HY a b c d e:Yo d5 a b c d e=Yt d5 a b c d e:=f8 (.c231 a b c d e)
theorem a7l a b c d:zC d5 a b c d=Zq d5 a b c d:=f8 (.c232 a b c d)
theorem a1S a:xL d5 a=gY d5 a:=f8 (.c233 a)
theorem lY a b c:Hh d5 a b c=Kj d5 a b c:=f8 (.c234 a b c)
theorem HD a:Kn d5 a=Wl d5 a:=f8 (.c235 a)
theorem a5y a b:rR d5 a b=aN d5 a b:=f8 (.c236 a b)
theorem b02 a:mK d5 a=lS d5 a:=f8 (.c237 a)
theorem OF a:Ug d5 a=Qq d5 a:=f8 (.c238 a)
theorem a5S a b c:Em d5 a b c=tV d5 a b c:=f8 (.c239 a b c)
theorem b1T a b c:J8 d5 a b c=rT d5 a b c:=f8 (.c240 a b c)
theorem a8T a b c:CB d5 a b c=eM d5 a b c:=f8 (.c241 a b c)
theorem a41 a b c:Al d5 a b c=dO d5 a b c:=f8 (.c242 a b c)
theorem ZQ a:DY d5 a=jA d5 a:=f8 (.c243 a)
theorem a1z a b:Ln d5 a b=pQ d5 a b:=f8 (.c244 a b)
theorem a96 a b c:xB d5 a b c=iL d5 a b c:=f8 (.c245 a b c)
theorem a1G a b:zT d5 a b=mC d5 a b:=f8 (.c246 a b)
theorem MX a b c d e:Yd d5 a b c d e=Rv d5 a b c d e:=f8 (.c247 a b c d e)
theorem a5T a b c d:BG d5 a b c d=aG d5 a b c d:=f8 (.c248 a b c d)
theorem SZ a b c d e:Vq d5 a b c d e=Vg d5 a b c d e:=f8 (.c249 a b c d e)
theorem PJ a b c d e:Ql d5 a b c d e=Xf d5 a b c d e:=f8 (.c250 a b c d e)
theorem a2K a b:EU d5 a b=hH d5 a b:=f8 (.c251 a b)
theorem b1t a b:yU d5 a b=oF d5 a b:=f8 (.c252 a b)
theorem a1B a b c:HU d5 a b c=kC d5 a b c:=f8 (.c253 a b c)
theorem a3W a b:fI d5 a b=qV d5 a b:=f8 (.c254 a b)
theorem IU a b c d:Uj d5 a b c d=Uh d5 a b c d:=f8 (.c255 a b c d)
theorem a4a a b:OM d5 a b=oP d5 a b:=f8 (.c256 a b)
theorem a4p a b c d:yN d5 a b c d=tZ d5 a b c d:=f8 (.c257 a b c d)
theorem a15 a b:rB d5 a b=Zy d5 a b:=f8 (.c258 a b)
theorem b2d a b c d e:cA d5 a b c d e=pV d5 a b c d e:=f8 (.c259 a b c d e)
theorem a07 a:eI d5 a=jG d5 a:=f8 (.c260 a)
theorem a6e a b:eU d5 a b=mM d5 a b:=f8 (.c261 a b)
theorem a3j:Gf d5=BS d5:=f8 (.c262)
theorem a4W a b c:uZ d5 a b c=gC d5 a b c:=f8 (.c263 a b c)
theorem b1r a b:R7 d5 a b=aL d5 a b:=f8 (.c264 a b)
theorem a1N a b c:J0 d5 a b c=qW d5 a b c:=f8 (.c265 a b c)
theorem b2R a b c d:cD d5 a b c d=iP d5 a b c d:=f8 (.c266 a b c d)
theorem b2L a b c d e:jK d5 a b c d e=cB d5 a b c d e:=f8 (.c267 a b c d e)
theorem a95 a b c d e:xE d5 a b c d e=rP d5 a b c d e:=f8 (.c268 a b c d e)
theorem Ve a b:Ht d5 a b=Gy d5 a b:=f8 (.c269 a b)
theorem a5H a b c d:Mp d5 a b c d=iS d5 a b c d:=f8 (.c270 a b c d)
theorem KZ a b c d:Pb d5 a b c d=Tg d5 a b c d:=f8 (.c271 a b c d)
theorem b3G a b:gW d5 a b=Zv d5 a b:=f8 (.c272 a b)
theorem a6L a b:MP d5 a b=tP d5 a b:=f8 (.c273 a b)
theorem ZG a b:rJ d5 a b=jQ d5 a b:=f8 (.c274 a b)
theorem QX a b c d:tR d5 a b c d=Si d5 a b c d:=f8 (.c275 a b c d)
theorem a4n a b:VL d5 a b=gD d5 a b:=f8 (.c276 a b)
theorem b0w a:FN d5 a=rZ d5 a:=f8 (.c277 a)
theorem RR a b c d:Hp d5 a b c d=Tu d5 a b c d:=f8 (.c278 a b c d)
theorem b1P a b:aA d5 a b=eC d5 a b:=f8 (.c279 a b)
theorem a1f a:aC d5 a=tD d5 a:=f8 (.c280 a)
theorem a9K a:AL d5 a=qQ d5 a:=f8 (.l16_source a)
theorem a7h a b:Ju d5 a b=bE d5 a b:=f8 (.c282 a b)
theorem ST a b c d:kS d5 a b c d=Yn d5 a b c d:=f8 (.c283 a b c d)
theorem b05 a b:MQ d5 a b=oR d5 a b:=f8 (.c284 a b)
theorem a6r a b c d:Q8 d5 a b c d=qT d5 a b c d:=f8 (.c285 a b c d)
theorem VC a:BR d5 a=Qm d5 a:=f8 (.c286 a)
theorem ZR a b:Mj d5 a b=dP d5 a b:=f8 (.c287 a b)
theorem b0o a b:BD d5 a b=sV d5 a b:=f8 (.c288 a b)
theorem XY a b c d:zU d5 a b c d=Td d5 a b c d:=f8 (.c289 a b c d)
theorem a3V a b c:vJ d5 a b c=Zc d5 a b c:=f8 (.c290 a b c)
theorem a9Q a b:X9 d5 a b=tW d5 a b:=f8 (.c291 a b)
theorem WF a b c d e f h:Ui d5 a b c d e f h=Yg d5 a b c d e f h:=f8 (.c292 a b c d e f h)
theorem a6i a b c d:nC d5 a b c d=eW d5 a b c d:=f8 (.c293 a b c d)
theorem a9d a b c:cW d5 a b c=mP d5 a b c:=f8 (.c294 a b c)
theorem b1j a b c d e:Ra d5 a b c d e=sG d5 a b c d e:=f8 (.c295 a b c d e)
theorem a8g a b c d:FF d5 a b c d=qD d5 a b c d:=f8 (.c296 a b c d)
theorem a9q a b c:FT d5 a b c=oM d5 a b c:=f8 (.c297 a b c)
theorem SO a b c d e:Ua d5 a b c d e=Xi d5 a b c d e:=f8 (.c298 a b c d e)
theorem b0h a b c:CU d5 a b c=bD d5 a b c:=f8 (.c299 a b c)
theorem ZC a b:uI d5 a b=tE d5 a b:=f8 (.c300 a b)
theorem SJ a b:vM d5 a b=Rw d5 a b:=f8 (.c301 a b)
theorem b0c a b:Mv d5 a b=jY d5 a b:=f8 (.c302 a b)
theorem UH a b c:nL d5 a b c=Vk d5 a b c:=f8 (.c303 a b c)
theorem a0H a:gX d5 a=mJ d5 a:=f8 (.c304 a)
theorem KH a b c:Yp d5 a b c=Wd d5 a b c:=f8 (.c305 a b c)
theorem a9E a b c d e f:lM d5 a b c d e f=mW d5 a b c d e f:=f8 (.c306 a b c d e f)
theorem a4k a:aX d5 a=gB d5 a:=f8 (.c307 a)
theorem a2h a b c d:GJ d5 a b c d=iQ d5 a b c d:=f8 (.c308 a b c d)
theorem b0k a b:DT d5 a b=dM d5 a b:=f8 (.c311 a b)
theorem KE a b c:gZ d5 a b c=Xr d5 a b c:=f8 (.c312 a b c)
theorem a8p a b:OL d5 a b=qZ d5 a b:=f8 (.c313 a b)
theorem JR a b c:uA d5 a b c=Wm d5 a b c:=f8 (.c314 a b c)
theorem a2w a b:KA d5 a b=qL d5 a b:=f8 (.c315 a b)
theorem IC a b c:pP d5 a b c=Yw d5 a b c:=f8 (.c316 a b c)
theorem b1u:LK d5=rQ d5:=f8 (.c317)
theorem a6q a b:CT d5 a b=kZ d5 a b:=f8 (.c318 a b)
theorem NT a b c d:jC d5 a b c d=Xo d5 a b c d:=f8 (.c319 a b c d)
theorem b1b a b c d e f:Te d5 a b c d e f=qU d5 a b c d e f:=f8 (.c320 a b c d e f)
theorem a9Y a:UX d5 a=qP d5 a:=f8 (.c321 a)
theorem a4l a b c d:OO d5 a b c d=iW d5 a b c d:=f8 (.c322 a b c d)
theorem b2N a b:E6 d5 a b=rE d5 a b:=f8 (.c323 a b)
theorem a3Q a b c d:G3 d5 a b c d=jU d5 a b c d:=f8 (.c324 a b c d)
theorem JH a b:Ot d5 a b=Xu d5 a b:=f8 (.c325 a b)
theorem RG a b c d:Ha d5 a b c d=Vm d5 a b c d:=f8 (.c326 a b c d)
theorem XM a b:Yb d5 a b=Yv d5 a b:=f8 (.c327 a b)
theorem VS a b:V5 d5 a b=Sr d5 a b:=f8 (.c328 a b)
theorem ZF a b c:Q9 d5 a b c=jE d5 a b c:=f8 (.c329 a b c)
theorem SL a b c d e:Io d5 a b c d e=Sb d5 a b c d e:=f8 (.c330 a b c d e)
theorem a18 a b c d:Wt d5 a b c d=bS d5 a b c d:=f8 (.c331 a b c d)
theorem ZZ a b c d:nK d5 a b c d=tQ d5 a b c d:=f8 (.c332 a b c d)
theorem a4c a b c d:vL d5 a b c d=eD d5 a b c d:=f8 (.c333 a b c d)
theorem II a b c d:DS d5 a b c d=Wh d5 a b c d:=f8 (.c334 a b c d)
theorem a2O a b c d:zV d5 a b c d=Zf d5 a b c d:=f8 (.c335 a b c d)
theorem cR a b:Jh d5 a b=Jz d5 a b:=f8 (.c336 a b)
theorem b2b a b:Px d5 a b=sH d5 a b:=f8 (.c337 a b)
theorem WK a b c d:Jl d5 a b c d=Vx d5 a b c d:=f8 (.c338 a b c d)
theorem a9t a b:Sg d5 a b=qF d5 a b:=f8 (.c339 a b)
theorem b1d a:xP d5 a=lR d5 a:=f8 (.c340 a)
theorem HS a b c d e:Re d5 a b c d e=Ru d5 a b c d e:=f8 (.c341 a b c d e)
theorem b21 a b c d e f h j:dH d5 a b c d e f h j=sT d5 a b c d e f h j:=f8 (.c342 a b c d e f h j)
theorem b0N a b c:sQ d5 a b c=qK d5 a b c:=f8 (.c343 a b c)
theorem a5a a b c d e:MG d5 a b c d e=oK d5 a b c d e:=f8 (.c344 a b c d e)
theorem a4Y a:AF d5 a=sD d5 a:=f8 (.l16_GenCodes a)
end
section
def bn(p:i6):Nat:=if p.F.Code=0 then 0 else 1
def iN(p:i6):Nat:=p.I.toNat
def pl(z:Int):Nat:=if 0≤z∧z≤100000 then 0 else 1000000000
def D9(x:List d7):Nat:=(x.map fun n=>n.Ds.length+pl n.Ls).sum
def tl(L:List l6)(i:Nat):Nat:=((L.take i).map fun t=>t.Ds.length).sum
theorem N7:D9 []=0:=rfl
theorem Lm(x y:List d7):D9 (x++y)=D9 x+D9 y:=by unfold D9;rw[G0,Yx]
theorem wY(n:d7)(y:List d7):D9 (n::y)=n.Ds.length+pl n.Ls+D9 y:=by unfold D9;rw[List.map_cons,List.sum_cons]
theorem MU{L:List l6}{i:Nat}{t:l6}(h:L[i]? =some t):tl L (i+1)=tl L i+t.Ds.length:=by unfold tl;rw[List.take_add_one,h,G0,Yx];simp
theorem s8(L:List l6){i j:Nat}(h:i≤j):tl L i≤tl L j:=by obtain⟨d,rfl⟩:=Nat.exists_eq_add_of_le h;unfold tl;rw[List.take_add,G0,Yx];omega
structure Tk(L:List l6):Prop where
 last:∀(i:Nat) (t:l6),L[i]? =some t→i+1=L.length→t.Ks=8
 small:L.length≤1000000
structure PI(L:List l6)(p:i6):Prop where
 l:p.L=L
 i:p.I=(iN p:Int)
 lt:iN p<L.length
 ln:∀t∈L,pl t.Ls=0
theorem K9{L:List l6}{p:i6}(h:PI L p){i:Nat}{t:l6}(ht:L[i]? =some t):pl t.Ls=0:=h.ln t (O6 ht)
structure Fwd(L:List l6)(p p':i6):Prop where
 pi:PI L p'
 le:iN p≤iN p'
 le1:iN p'≤iN p+1
 mono:bn p≤bn p'
 stay:bn p=1→iN p'=iN p
 go:bn p'=0→iN p<iN p'
theorem l8(p:i6):bn p≤1:=by unfold bn;split<;>omega
theorem G9{α:Type}{b:Nat}{xs ys:List α}(hb:b≤1000)(h:xs.length+ys.length≤100000000):y9 b xs ys=some (xs++ys):=by unfold y9;rw[if_pos];unfold M8 maxLen;have:=Nat.mul_le_mul h hb;omega
theorem X4{L:List l6}{p:i6}(h:PI L p):∃t,T4 d5 p=some ((t,()),())∧L[iN p]? =some t:=by
 have h1:iN p<p.L.length:=(by rw[h.l];exact h.lt);refine⟨p.L[iN p],?_,?_⟩
 ·rw[a1C,eG,h.i,l5 h1];rfl
 ·rw[←h.l];exact p9 h1
theorem Cw(p:i6):Aw d5 p=some ((decide (bn p=1),()),()):=by
 rw[a9l,rY];unfold bn;by_cases c:p.F.Code=0
 ·rw[if_pos c,f7 c];rfl
 ·rw[if_neg c,d9 c];rfl
theorem F4{L:List l6}{p:i6}(h:PI L p)(s:b36):∃b:Bool,E7 d5 p s=some ((b,()),())∧(b=true→bn p=0∧∃t,L[iN p]? =some t∧(t.Ks=6∨t.Ks=7)):=by
 obtain⟨t,h1,h2⟩:=X4 h;rw[a2I,pK,h1,Cw];have hb:=l8 p;by_cases c:bn p=1
 ·rw[f7 c];exact⟨false,rfl,fun h=>nomatch h⟩
 ·rw[d9 c];by_cases c6:t.Ks=6
  ·refine⟨decide (t.Ds=s),?_,fun _=>⟨by omega,t,h2,.inl c6⟩⟩;simp only[d6,D6,f9,f7 c6]
  ·by_cases c7:t.Ks=7
   ·refine⟨decide (t.Ds=s),?_,fun _=>⟨by omega,t,h2,.inr c7⟩⟩;simp only[d6,D6,f9,f7 c7,d9 c6,f6]
   ·refine⟨false,?_,fun h=>nomatch h⟩;simp only[d6,D6,f9,d9 c7,d9 c6,f6]
theorem a0P{L:List l6}{p:i6}(h:PI L p)(e:Int)(he:e≠0):∃p',De d5 p e=some ((p',()),())∧PI L p'∧iN p'=iN p∧bn p'=1:=by
 rw[a8Z,kI,Cw];have hb:=l8 p;by_cases c:bn p=1
 ·rw[f7 c];exact⟨p,rfl,h,rfl,c⟩
 ·rw[d9 c];obtain⟨t,h1,h2⟩:=X4 h;rw[h1];exact⟨_,rfl,⟨h.l,h.i,h.lt,h.ln⟩,rfl,if_neg he⟩
theorem Iz{L:List l6}{p:i6}(h:PI L p)(e:Int)(he:e≠0):∃p',De d5 p e=some ((p',()),())∧Fwd L p p'∧bn p'=1:=by obtain⟨p',h1,h2,h3,h4⟩:=a0P h e he;have:=l8 p;exact⟨p',h1,⟨h2,by omega,by omega,by omega,fun _=>h3,fun h=>by omega⟩,h4⟩
theorem EI{L:List l6}(hL:Tk L){p:i6}(h:PI L p){t:l6}(ht:L[iN p]? =some t)(hk:t.Ks≠8)(hb:bn p=0)(d:Int):Fwd L p ⟨p.L,w64 (p.I+1),d,p.F⟩∧w64 (p.I+1)=((iN p+1:Nat):Int)∧iN p+1<L.length:=by
 have h1:iN p+1<L.length:=by have:=h.lt;have:iN p+1≠L.length:=fun e=>hk (hL.last _ _ ht e);omega
 have hs:=hL.small;have tn:=N7;have ln:([]:b36).length=0:=rfl;have e1:w64 (p.I+1)=((iN p+1:Nat):Int):=(by rw[h.i,wrap64 (by omega) (by omega)];omega);have e2:iN ⟨p.L,w64 (p.I+1),d,p.F⟩=iN p+1:=(by show(w64 (p.I+1)).toNat=_;rw[e1];rfl);have e3:bn ⟨p.L,w64 (p.I+1),d,p.F⟩=bn p:=rfl;exact⟨⟨⟨h.l,by rw[e2];exact e1,by rw[e2];exact h1,h.ln⟩,by omega,by omega,by omega,fun h=>by omega,fun h=>by omega⟩,e1,h1⟩
theorem I8{L:List l6}(hL:Tk L){p:i6}(h:PI L p)(s:b36):∃p',I3 d5 p s=some ((p',()),())∧Fwd L p p':=by
 obtain⟨b,h1,h2⟩:=F4 h s;rw[a4u,mB,h1];cases b with
 |false=>obtain⟨p',g1,g2,_⟩:=Iz h 5 (by decide);rw[d6,D6,f9,g1];exact⟨p',rfl,g2⟩
 |true=>obtain⟨hb,t,ht,hk⟩:=h2 rfl;exact⟨_,rfl,(EI hL h ht (by omega) hb _).1⟩
theorem NW{L:List l6}{p p':i6}(h:Fwd L p p')(d:Int):Fwd L p ⟨p'.L,p'.I,d,p'.F⟩:=⟨⟨h.pi.l,h.pi.i,h.pi.lt,h.pi.ln⟩,h.le,h.le1,h.mono,h.stay,h.go⟩
theorem Dg{L:List l6}(hL:Tk L){p:i6}(h:PI L p)(s:b36):∃p',Ae d5 p s=some ((p',()),())∧Fwd L p p':=by
 obtain⟨b,h1,h2⟩:=F4 h s;have key:∃p',oC d5 s p=some ((p',()),())∧Fwd L p p':=by obtain⟨p',g1,g2⟩:=I8 hL h s;rw[a6p,nH,g1];exact⟨_,rfl,NW g2 _⟩
 rw[a1j,oL,h1];cases b with
 |false=>exact key
 |true=>
  rw[d6,f9];cases decide (p.Js≥40)with
  |false=>exact key
  |true=>obtain⟨p',g1,g2,_⟩:=Iz h 6 (by decide);rw[f9,g1];exact⟨p',rfl,g2⟩
theorem Fa{L:List l6}(hL:Tk L){p:i6}(h:PI L p)(s:b36):∃p',Bi d5 p s=some ((p',()),())∧Fwd L p p':=by obtain⟨p',g1,g2⟩:=I8 hL h s;rw[a8a,oT,g1];exact⟨_,rfl,NW g2 _⟩
theorem Lo{L:List l6}(hL:Tk L){p:i6}(h:PI L p)(k:Int)(hk:k≠8):∃t p',Ey d5 p k=some ((t,p',()),())∧Fwd L p p'∧(bn p'=0→t.Ds.length+tl L (iN p)≤tl L (iN p'))∧pl t.Ls=0:=by
 obtain⟨t,h1,h2⟩:=X4 h;have key:∃t' p',sP d5 p ((t,()),())=some ((t',p',()),())∧Fwd L p p'∧(bn p'=0→t'.Ds.length+tl L (iN p)≤tl L (iN p'))∧pl t'.Ls=0:=by obtain⟨p',g1,g2,g3⟩:=Iz h 5 (by decide);rw[a76,tM,g1];exact⟨t,p',rfl,g2,fun h=>by omega,K9 h h2⟩
 rw[a1p,nP,h1,Cw];have hb:=l8 p;by_cases c:bn p=1
 ·rw[f7 c];exact key
 ·rw[d9 c];simp only[d6,f6];by_cases c2:t.Ks=k
  ·rw[f7 c2];obtain⟨q1,q2,q3⟩:=EI hL h h2 (by omega) (by omega) p.Js;refine⟨t,⟨p.L,w64 (p.I+1),p.Js,p.F⟩,rfl,q1,fun _=>?_,K9 h h2⟩;have e2:iN ⟨p.L,w64 (p.I+1),p.Js,p.F⟩=iN p+1:=(by show(w64 (p.I+1)).toNat=_;rw[q2];rfl);rw[e2,MU h2];omega
  ·rw[d9 c2];exact key
theorem J2(k:Int)(t:l6)(s:b36)(n:Int)(x:List d7)(h:x.length≤50000000)(hl:pl t.Ls=0):∃y,F7 d5 k t s n x=some ((y,()),())∧y.length=x.length+1∧D9 y=s.length+D9 x:=by rw[b1n,rI,G9 (by decide) (by simp;omega)];exact⟨_,rfl,by simp,by rw[Lm,wY,N7,show pl (d7.mk k t.Ls t.Id (x.length:Int) n s).Ls=0 from hl];rfl⟩
theorem Dt(x y:List d7)(h:x.length+y.length≤50000000):∃z,Ax d5 x y=some ((z,()),())∧z.length=x.length+y.length∧D9 z=D9 x+D9 y:=by rw[b3F,sK,G9 (by decide) (by simp;omega),d6,G9 (by decide) (by simp;omega)];exact⟨_,rfl,by simp,by simp[Lm,N7]⟩
structure Ok(L:List l6)(b c:Nat)(p:i6)(x:List d7)(p':i6):Prop where
 pi:PI L p'
 le:iN p≤iN p'
 mono:bn p≤bn p'
 stay:bn p=1→iN p'=iN p∧x.length≤c
 go:bn p'=0→iN p<iN p'
 sz:x.length≤10*(iN p'-iN p)+b*bn p'
 ne:1≤x.length
 tx:bn p'=0→D9 x+tl L (iN p)≤tl L (iN p')
def mu(L:List l6)(p:i6):Nat:=if bn p=1 then 0 else 1+(L.length-iN p)
theorem Fi{L:List l6}{p p':i6}(h:PI L p)(g:Fwd L p p')(hb:bn p=0):mu L p'<mu L p:=by have h1:=g.go;have h2:=g.pi.lt;have h3:=h.lt;have h4:=l8 p';unfold mu;rw[if_neg (by omega:¬bn p=1)];split<;>omega
theorem JD{L:List l6}{b c:Nat}{p p':i6}{x:List d7}(h:PI L p)(g:Ok L b c p x p')(hb:bn p=0):mu L p'<mu L p:=by have h1:=g.go;have h2:=g.pi.lt;have h3:=h.lt;have h4:=l8 p';unfold mu;rw[if_neg (by omega:¬bn p=1)];split<;>omega
def Gu:List (b36):=[([105,110,116]:b36),([98,111,111,108]:b36),([115,116,114]:b36),([99,111,109,112]:b36)]
theorem eZ{L:List l6}(hL:Tk L):∀(m:Nat) (p:i6),PI L p→mu L p=m→∃x p',Jx d5 p=some ((x,p',()),())∧Ok L 3 1 p x p':=by
 intro m
 induction m using Nat.strongRecOn with
 |_ m ih=>
 intro p h hm;have hs:=hL.small;have tn:=N7;have ln:([]:b36).length=0:=rfl;have hlt:=h.lt;obtain⟨t,ht,ht2⟩:=X4 h;have key:∃x p',BL d5 p ((t,()),())=some ((x,p',()),())∧Ok L 3 1 p x p':=by
  rw[YZ,iC];obtain⟨b,h1,h2⟩:=F4 h [91];rw[h1];cases b with
  |true=>obtain⟨hb,_⟩:=h2 rfl;obtain⟨p1,g1,s1⟩:=Dg hL h [91];obtain⟨x,p2,g2,s2⟩:=ih _ (by have:=Fi h s1 hb;omega) p1 s1.pi rfl;have zt:=s2.tx;have z:=s2.sz;have z1:=s2.pi.lt;have z2:=l8 p2;obtain⟨y,g3,hy,hyt⟩:=J2 20 t [] 0 x (by have:=s2.pi.lt;omega) (K9 h ht2);obtain⟨p3,g4,s3⟩:=Fa hL s2.pi [93];rw[d6,f9,g1,d6,g2,d6,g3,d6,g4];have at1:=s8 L s1.le;have a1:=s1.le;have a2:=s1.mono;have a3:=s1.stay;have a4:=s1.go;have a5:=l8 p1;have bt1:=s8 L s2.le;have b1:=s2.le;have b2:=s2.mono;have b3:=s2.stay;have b4:=s2.go;have ct1:=s8 L s3.le;have c1:=s3.le;have c2:=s3.mono;have c3:=s3.stay;have c4:=s3.go;have c5:=l8 p3;exact⟨y,p3,rfl,s3.pi,by omega,by omega,fun h=>by omega,fun h=>by omega,by omega,by omega,fun h=>by omega⟩
  |false=>obtain⟨t',p1,g1,s1,s1w,s1l⟩:=Lo hL h 2 (by decide);obtain⟨y,g3,hy,hyt⟩:=J2 19 t' t'.Ds 0 [] (by simp) s1l;rw[d6,f6,g1,d6,g3];have at1:=s8 L s1.le;have a1:=s1.le;have a2:=s1.mono;have a3:=s1.stay;have a4:=s1.go;have a5:=l8 p1;simp only[I6]at hy;exact⟨y,p1,rfl,s1.pi,by omega,by omega,fun h=>by omega,fun h=>by omega,by omega,by omega,fun h=>by omega⟩
 have loop:∀(n i:Nat),4-i=n→∃x p',nB d5 (i:Int) p ((t,()),())=some ((x,p',()),())∧Ok L 3 1 p x p':=by
  intro n
  induction n with
  |zero=>intro i hi;rw[XT,Rn,d9 (by show¬(i:Int)<((4:Nat):Int);omega)];exact key
  |succ n ihn=>
   intro i hi;have e1:w64 ((i:Int)+1)=((i+1:Nat):Int):=(by rw[wrap64 (by omega) (by omega)];omega);have hi4:i<Gu.length:=(by show i<4;omega);obtain⟨b,h1,h2⟩:=F4 h Gu[i];obtain⟨p1,g1,s1⟩:=I8 hL h Gu[i];obtain⟨y,g3,hy,hyt⟩:=J2 (IntKind.wrap .u8 (w64 (15+(i:Int)))) t [] 0 [] (by simp) (K9 h ht2);have q1:f5 Gu (i:Int)=some Gu[i]:=l5 hi4;have q2:Gu[i]? =some Gu[i]:=p9 hi4;rw[XT,Rn,f7 (by show(i:Int)<((4:Nat):Int);omega),f9];unfold Gu at q1 q2 h1 g1;rw[q1,d6,E5,q2,d6,h1,d6,e1];cases b with
   |false=>exact ihn (i+1) (by omega)
   |true=>rw[f9,g3,d6,d6,d6,g1];have at1:=s8 L s1.le;have a1:=s1.le;have a2:=s1.mono;have a3:=s1.stay;have a4:=s1.go;have a5:=l8 p1;simp only[I6]at hy;exact⟨y,p1,rfl,s1.pi,by omega,by omega,fun h=>by omega,fun h=>by omega,by omega,by omega,fun h=>by omega⟩
 rw[a7b,jI,ht];exact loop _ 0 rfl
theorem UP{L:List l6}(hL:Tk L){p:i6}(h:PI L p)(k:Int):∃x p',jJ d5 p k=some ((x,p',()),())∧Ok L 4 2 p x p':=by have hs:=hL.small;have tn:=N7;have ln:([]:b36).length=0:=rfl;obtain⟨t,p1,g1,s1,s1w,s1l⟩:=Lo hL h 1 (by decide);obtain⟨p2,g2,s2⟩:=I8 hL s1.pi [58];obtain⟨x,p3,g3,s3⟩:=eZ hL _ p2 s2.pi rfl;have zt:=s3.tx;have z:=s3.sz;have z1:=s3.pi.lt;have z2:=l8 p3;obtain⟨y,g4,hy,hyt⟩:=J2 k t t.Ds 0 x (by omega) s1l;rw[b2a,nA,g1,d6,g2,d6,g3,d6,g4];have at1:=s8 L s1.le;have a1:=s1.le;have a2:=s1.mono;have a3:=s1.stay;have a4:=s1.go;have a5:=l8 p1;have bt1:=s8 L s2.le;have b1:=s2.le;have b2:=s2.mono;have b3:=s2.stay;have b4:=s2.go;have b5:=l8 p2;have ct1:=s8 L s3.le;have c1:=s3.le;have c2:=s3.mono;have c3:=s3.stay;have c4:=s3.go;have c5:=s3.ne;exact⟨y,p3,rfl,s3.pi,by omega,by omega,fun h=>by omega,fun h=>by omega,by omega,by omega,fun h=>by omega⟩
theorem b1y{L:List l6}{p p':i6}{y:List d7}(g:Fwd L p p')(hy:y.length=1)(ht:D9 y+tl L (iN p)≤tl L (iN p')):Ok L 3 1 p y p':=by have ga:=g.le;have gb:=g.mono;have gc:=g.stay;have gd:=g.go;have ge:=l8 p';have gf:=g.pi.lt;have gt:=s8 L g.le;exact⟨g.pi,by omega,by omega,fun h=>by omega,fun h=>by omega,by omega,by omega,fun h=>by omega⟩
theorem b09{L:List l6}(hL:Tk L){m:Nat}(hE:∀q,PI L q→mu L q<m→∃x p',L6 d5 q 1=some ((x,p',()),())∧Ok L 3 1 q x p')(p0:i6):∀(n:Nat) (q:i6) (c:List d7) (a:Int),mu L q=n→PI L q→n<m→iN p0≤iN q→c.length≤10*(iN q-iN p0)+3*bn q→(bn q=0→D9 c+tl L (iN p0)≤tl L (iN q))→∃x p',jB d5 a q c=some ((x,p',()),())∧PI L p'∧iN q≤iN p'∧bn q≤bn p'∧(bn q=1→iN p'=iN q)∧x.length≤10*(iN p'-iN p0)+3*bn p'∧(bn p'=0→D9 x+tl L (iN p0)≤tl L (iN p')):=by
 intro n;have hs:=hL.small;have tn:=N7;have ln:([]:b36).length=0:=rfl
 induction n using Nat.strongRecOn with
 |_ n ih=>
 intro q c a hn h hm h0 hc hct;have hlt:=h.lt;have hb:=l8 q;have fin:∃x p',gJ d5 q c=some ((x,p',()),())∧PI L p'∧iN q≤iN p'∧bn q≤bn p'∧(bn q=1→iN p'=iN q)∧x.length≤10*(iN p'-iN p0)+3*bn p'∧(bn p'=0→D9 x+tl L (iN p0)≤tl L (iN p')):=by obtain⟨p1,g1,s1⟩:=Fa hL h [41];rw[b2j,lI,g1];have s1a:=s1.le;have s1b:=s1.mono;have s1c:=s1.stay;have s1d:=s1.go;have s1e:=l8 p1;have s1f:=s1.pi.lt;have s1t:=s8 L s1.le;exact⟨c,p1,rfl,s1.pi,by omega,by omega,fun h=>by omega,by omega,fun h=>by omega⟩
 rw[b1c,pI,Cw];by_cases cb:bn q=1
 ·rw[f7 cb];exact fin
 ·rw[d9 cb];simp only[d6,D6,f9];obtain⟨b,h1,h2⟩:=F4 h [41];rw[h1];cases b with
  |true=>exact fin
  |false=>
   simp only[d6,D6,f9];have body:∀q1,PI L q1→iN q≤iN q1→bn q≤bn q1→(bn q1=1∨iN q≤iN q1)→mu L q1≤n→∃x p',mD d5 a q1 c=some ((x,p',()),())∧PI L p'∧iN q≤iN p'∧bn q≤bn p'∧(bn q=1→iN p'=iN q)∧x.length≤10*(iN p'-iN p0)+3*bn p'∧(bn p'=0→D9 x+tl L (iN p0)≤tl L (iN p')):=by
    intro q1 hq1 k1 k2 k3 k4;obtain⟨x,p2,g2,s2⟩:=hE q1 hq1 (by omega);have s2a:=s2.le;have s2b:=s2.mono;have s2c:=s2.stay;have s2d:=s2.go;have s2e:=l8 p2;have s2f:=s2.pi.lt;have s2g:=s2.sz;have s2h:=s2.ne;have s2t:=s8 L s2.le;have s2x:=s2.tx;have hb1:=l8 q1;have hq1lt:=hq1.lt;have kt:=s8 L k1;have hz:c.length+x.length≤100000000:=(by omega);rw[b0y,nY,g2,d6,G9 (by decide) hz,d6];have hmu:mu L p2<n:=by unfold mu at hn⊢;rw[if_neg cb]at hn;split<;>omega
    obtain⟨x',p',r1,r2,r3,r4,r5,r6,r7⟩:=ih _ hmu p2 (c++x) (w64 (a+1)) rfl s2.pi (by omega) (by omega) (by rw[o0];omega) (fun h=>by rw[Lm];omega);exact⟨x',p',r1,r2,by omega,by omega,fun h=>by omega,r6,r7⟩
   cases decide (a>0)with
   |false=>exact body q h (i4 _) (i4 _) (by omega) (by omega)
   |true=>obtain⟨p1,g1,s1⟩:=I8 hL h [44];rw[f9,g1,d6];have s1a:=s1.le;have s1b:=s1.mono;have s1c:=s1.stay;have s1d:=s1.go;have s1e:=l8 p1;have s1f:=s1.pi.lt;have s1t:=s8 L s1.le;exact body p1 s1.pi (by omega) (by omega) (by omega) (by have:=Fi h s1 (by omega);omega)
theorem b2I{L:List l6}(hL:Tk L){m:Nat}(hE:∀q,PI L q→mu L q<m→∃x p',L6 d5 q 1=some ((x,p',()),())∧Ok L 3 1 q x p'){p:i6}(h:PI L p)(hm:mu L p=m):∃x p',CA d5 p=some ((x,p',()),())∧Ok L 3 1 p x p':=by
 have hs:=hL.small;have tn:=N7;have ln:([]:b36).length=0:=rfl;have hlt:=h.lt;have hb:=l8 p;obtain⟨t,ht,ht2⟩:=X4 h;rw[YW,sF,ht,Cw];by_cases cb:bn p=1
 ·rw[f7 cb];exact⟨_,p,rfl,h,i4 _,i4 _,fun _=>⟨rfl,by simp⟩,fun h=>by omega,by simp;omega,by simp,fun h=>by omega⟩
 rw[d9 cb];have hg:bn p=0:=(by omega);have eL:p.L.length=L.length:=(by rw[h.l]);have hQ2:t.Ks≠8→Fwd L p ⟨p.L,(if(w64 ((p.L.length:Int)-1))<(w64 (p.I+1))then(w64 ((p.L.length:Int)-1))else(w64 (p.I+1))),p.Js,p.F⟩∧t.Ds.length+tl L (iN p)≤tl L (iN (⟨p.L,(if(w64 ((p.L.length:Int)-1))<(w64 (p.I+1))then(w64 ((p.L.length:Int)-1))else(w64 (p.I+1))),p.Js,p.F⟩:i6)):=by intro hk;obtain⟨q1,q2,q3⟩:=EI hL h ht2 hk hg p.Js;rw[if_neg (by rw[q2,eL,wrap64 (by omega) (by omega)];omega)];have e2:iN ⟨p.L,w64 (p.I+1),p.Js,p.F⟩=iN p+1:=(by show(w64 (p.I+1)).toNat=_;rw[q2];rfl);refine⟨q1,?_⟩;rw[e2,MU ht2];omega
 have hQb:bn (⟨p.L,(if(w64 ((p.L.length:Int)-1))<(w64 (p.I+1))then(w64 ((p.L.length:Int)-1))else(w64 (p.I+1))),p.Js,p.F⟩:i6)=bn p:=rfl;have j0:Nd d5 p ((t,()),())=Nd d5 p ((t,()),()):=rfl;have j1:Pp d5 p ((t,()),())=Pp d5 p ((t,()),()):=rfl
 conv at j0=>rhs;rw[b1M,pY]
 conv at j1=>rhs;rw[b06,jH]
 simp only at j0 j1;generalize (⟨p.L,(if(w64 ((p.L.length:Int)-1))<(w64 (p.I+1))then(w64 ((p.L.length:Int)-1))else(w64 (p.I+1))),p.Js,p.F⟩:i6)=Q at*;have hQ:=fun hk=>(hQ2 hk).1;have hQt:=fun hk=>(hQ2 hk).2;have leaf:∀(k:Int) (s:b36) (n:Int),(s=[]∨s=t.Ds)→t.Ks≠8→∃y,F7 d5 k t s n []=some ((y,()),())∧Ok L 3 1 p y Q:=by intro k s n hst hk;obtain⟨y,g,hy,hyt⟩:=J2 k t s n [] (by simp) (K9 h ht2);have hq:=hQt hk;have hqm:=s8 L (hQ hk).le;refine⟨y,g,b1y (hQ hk) hy ?_⟩;rcases hst with rfl|rfl<;>omega
 have isK:∀{s:b36},E7 d5 p s=some ((true,()),())→t.Ks≠8:=by intro s hi;obtain⟨b,h1,h2⟩:=F4 h s;rw[h1]at hi;cases hi;obtain⟨_,t',q1,q2⟩:=h2 rfl;rw[ht2]at q1;cases q1;omega
 have end2:∃x p',FO d5 p=some ((x,p',()),())∧Ok L 3 1 p x p':=by obtain⟨p',g1,g2,g3⟩:=Iz h 5 (by decide);rw[a8f,eO,g1];have g2a:=g2.le;have g2b:=g2.mono;have g2c:=g2.stay;have g2d:=g2.go;have g2e:=l8 p';have g2f:=g2.pi.lt;have g2t:=s8 L g2.le;exact⟨_,p',rfl,g2.pi,by omega,by omega,fun _=>⟨by omega,by simp⟩,fun h=>by omega,by simp;omega,by simp,fun h=>by omega⟩
 have end0:∃x p',Nd d5 p ((t,()),())=some ((x,p',()),())∧Ok L 3 1 p x p':=by
  rw[j0];obtain⟨b,h1,h2⟩:=F4 h [109,97,107,101];rw[h1];cases b with
  |false=>exact end2
  |true=>have s0:=hQ (isK h1);obtain⟨t',p1,g1,s1,s1w,s1l⟩:=Lo hL s0.pi 2 (by decide);obtain⟨y,g2,hy,hyt⟩:=J2 19 t' t'.Ds 0 [] (by simp) s1l;obtain⟨z,g3,hz,hzt⟩:=J2 32 t [] 0 y (by rw[hy];simp) (K9 h ht2);obtain⟨p2,g4,s2⟩:=Dg hL s1.pi [40];obtain⟨p3,g5,s3⟩:=Fa hL s2.pi [41];simp only[I6]at hy;rw[d6,f9,g1,d6,g2,d6,g3,d6,g4,d6,g5];have s0a:=s0.le;have s0b:=s0.mono;have s0c:=s0.stay;have s0d:=s0.go;have s0e:=l8 Q;have s0f:=s0.pi.lt;have s0t:=s8 L s0.le;have s1a:=s1.le;have s1b:=s1.mono;have s1c:=s1.stay;have s1d:=s1.go;have s1e:=l8 p1;have s1f:=s1.pi.lt;have s1t:=s8 L s1.le;have s2a:=s2.le;have s2b:=s2.mono;have s2c:=s2.stay;have s2d:=s2.go;have s2e:=l8 p2;have s2f:=s2.pi.lt;have s2t:=s8 L s2.le;have s3a:=s3.le;have s3b:=s3.mono;have s3c:=s3.stay;have s3d:=s3.go;have s3e:=l8 p3;have s3f:=s3.pi.lt;have s3t:=s8 L s3.le;exact⟨z,p3,rfl,s3.pi,by omega,by omega,fun h=>by omega,fun h=>by omega,by omega,by omega,fun h=>by omega⟩
 have end1:∃x p',Pp d5 p ((t,()),())=some ((x,p',()),())∧Ok L 3 1 p x p':=by
  rw[j1];by_cases c1:t.Ks=1
  ·rw[f7 c1,f9];have s0:=hQ (by omega);have s0q:=hQt (by omega);have s0a:=s0.le;have s0b:=s0.mono;have s0c:=s0.stay;have s0d:=s0.go;have s0e:=l8 Q;have s0f:=s0.pi.lt;have s0t:=s8 L s0.le;obtain⟨p1,g1,s1⟩:=Dg hL s0.pi [40];have s1a:=s1.le;have s1b:=s1.mono;have s1c:=s1.stay;have s1d:=s1.go;have s1e:=l8 p1;have s1f:=s1.pi.lt;have s1t:=s8 L s1.le;have m0:=Fi h s0 hg;have m1:=Fi s0.pi s1 (by omega);obtain⟨x,p2,g2,r2,r3,r4,r5,r6,r6t⟩:=b09 hL hE Q _ p1 [] 0 rfl s1.pi (by omega) (by omega) (by simp) (fun h=>by omega);have r7:=r2.lt;have r8:=l8 p2;obtain⟨y,g3,hy,hyt⟩:=J2 27 t t.Ds 0 x (by omega) (K9 h ht2);rw[a0e,gU,g1,d6,g2,d6,g3];exact⟨y,p2,rfl,r2,by omega,by omega,fun h=>by omega,fun h=>by omega,by omega,by omega,fun h=>by omega⟩
  ·rw[d9 c1,f6];obtain⟨b,h1,h2⟩:=F4 h [40];rw[h1,d6];cases b with
   |true=>obtain⟨p1,g1,s1⟩:=Dg hL h [40];obtain⟨x,p2,g2,s2⟩:=hE p1 s1.pi (by have:=Fi h s1 hg;omega);obtain⟨p3,g3,s3⟩:=Fa hL s2.pi [41];rw[f9,g1,d6,g2,d6,g3];have s1a:=s1.le;have s1b:=s1.mono;have s1c:=s1.stay;have s1d:=s1.go;have s1e:=l8 p1;have s1f:=s1.pi.lt;have s1t:=s8 L s1.le;have s2a:=s2.le;have s2b:=s2.mono;have s2c:=s2.stay;have s2d:=s2.go;have s2e:=l8 p2;have s2f:=s2.pi.lt;have s2g:=s2.sz;have s2h:=s2.ne;have s2t:=s8 L s2.le;have s2x:=s2.tx;have s3a:=s3.le;have s3b:=s3.mono;have s3c:=s3.stay;have s3d:=s3.go;have s3e:=l8 p3;have s3f:=s3.pi.lt;have s3t:=s8 L s3.le;exact⟨x,p3,rfl,s3.pi,by omega,by omega,fun h=>by omega,fun h=>by omega,by omega,by omega,fun h=>by omega⟩
   |false=>
    rw[f6];obtain⟨b,h1,h2⟩:=F4 h [109,97,107,101];rw[h1,d6];cases b with
    |false=>exact end0
    |true=>
     have s0:=hQ (isK h1);have s0a:=s0.le;have s0b:=s0.mono;have s0c:=s0.stay;have s0d:=s0.go;have s0e:=l8 Q;have s0f:=s0.pi.lt;have s0t:=s8 L s0.le;obtain⟨b,h1,h2⟩:=F4 s0.pi [91];rw[f9,h1,d6];cases b with
     |false=>exact end0
     |true=>
      obtain⟨k,p1,g1,s1⟩:=eZ hL _ Q s0.pi rfl;have s1a:=s1.le;have s1b:=s1.mono;have s1c:=s1.stay;have s1d:=s1.go;have s1e:=l8 p1;have s1f:=s1.pi.lt;have s1g:=s1.sz;have s1h:=s1.ne;have s1t:=s8 L s1.le;have s1x:=s1.tx;obtain⟨p2,g2,s2⟩:=Dg hL s1.pi [40];have s2a:=s2.le;have s2b:=s2.mono;have s2c:=s2.stay;have s2d:=s2.go;have s2e:=l8 p2;have s2f:=s2.pi.lt;have s2t:=s8 L s2.le;have hm2:mu L p2<m:=by unfold mu at hm⊢;rw[if_neg cb]at hm;split<;>omega
      obtain⟨x,p3,g3,s3⟩:=hE p2 s2.pi hm2;have s3a:=s3.le;have s3b:=s3.mono;have s3c:=s3.stay;have s3d:=s3.go;have s3e:=l8 p3;have s3f:=s3.pi.lt;have s3g:=s3.sz;have s3h:=s3.ne;have s3t:=s8 L s3.le;have s3x:=s3.tx;obtain⟨y,g4,hy,hyt⟩:=Dt k x (by omega);obtain⟨z,g5,hz,hzt⟩:=J2 32 t [] 0 y (by omega) (K9 h ht2);obtain⟨p4,g6,s4⟩:=Fa hL s3.pi [41];have s4a:=s4.le;have s4b:=s4.mono;have s4c:=s4.stay;have s4d:=s4.go;have s4e:=l8 p4;have s4f:=s4.pi.lt;have s4t:=s8 L s4.le;rw[f9,g1,d6,g2,d6,g3,d6,g4,d6,g5,d6,g6];exact⟨z,p4,rfl,s4.pi,by omega,by omega,fun h=>by omega,fun h=>by omega,by omega,by omega,fun h=>by omega⟩
 simp only[d6,f6];by_cases c3:t.Ks=3
 ·obtain⟨y,g,o⟩:=leaf 21 [] t.Ns (.inl rfl) (by omega);rw[f7 c3,f9,g];exact⟨y,Q,rfl,o⟩
 by_cases c4:t.Ks=4
 ·obtain⟨y,g,o⟩:=leaf 22 [] t.Ns (.inl rfl) (by omega);rw[d9 c3,f6,f7 c4,f9,g];exact⟨y,Q,rfl,o⟩
 by_cases c5:t.Ks=5
 ·obtain⟨y,g,o⟩:=leaf 23 t.Ds 0 (.inr rfl) (by omega);rw[d9 c3,f6,d9 c4,f6,f7 c5,f9,g];exact⟨y,Q,rfl,o⟩
 rw[d9 c3,f6,d9 c4,f6,d9 c5,f6];obtain⟨b,h1,h2⟩:=F4 h [116,114,117,101];rw[h1,d6];cases b with
 |true=>obtain⟨y,g,o⟩:=leaf 24 [] 1 (.inl rfl) (isK h1);rw[f9,g];exact⟨y,Q,rfl,o⟩
 |false=>
 rw[f6];obtain⟨b,h1,h2⟩:=F4 h [102,97,108,115,101];rw[h1,d6];cases b with
 |true=>obtain⟨y,g,o⟩:=leaf 24 [] 0 (.inl rfl) (isK h1);rw[f9,g];exact⟨y,Q,rfl,o⟩
 |false=>
 rw[f6];obtain⟨b,h1,h2⟩:=F4 h [110,105,108];rw[h1,d6];cases b with
 |true=>obtain⟨y,g,o⟩:=leaf 25 [] 0 (.inl rfl) (isK h1);rw[f9,g];exact⟨y,Q,rfl,o⟩
 |false=>
 rw[f6];by_cases c1:t.Ks=1
 ·rw[f7 c1,f9];obtain⟨b,h1,h2⟩:=F4 (hQ (by omega)).pi [40];rw[h1,d6];cases b with
  |false=>obtain⟨y,g,o⟩:=leaf 26 t.Ds 0 (.inr rfl) (by omega);rw[D6,f9,g];exact⟨y,Q,rfl,o⟩
  |true=>exact end1
 ·rw[d9 c1,f6];exact end1
structure Lp(L:List l6)(i0:Nat)(q:i6)(x:List d7)(x':List d7)(p':i6):Prop where
 pi:PI L p'
 le:iN q≤iN p'
 mono:bn q≤bn p'
 stay:bn q=1→iN p'=iN q∧x'.length=x.length
 sz:x'.length≤10*(iN p'-i0)+3*bn p'
 ne:1≤x'.length
 tx:bn p'=0→D9 x'+tl L i0≤tl L (iN p')
theorem Cl{L:List l6}{p p':i6}(h:PI L p)(h':PI L p')(hb:bn p=0)(hg:bn p'=1∨iN p<iN p'):mu L p'<mu L p:=by have h2:=h'.lt;have h3:=h.lt;have h4:=l8 p';unfold mu;rw[if_neg (by omega:¬bn p=1)];split<;>omega
theorem a2x{L:List l6}(hL:Tk L){m:Nat}(hE:∀q,PI L q→mu L q<m→∃x p',L6 d5 q 1=some ((x,p',()),())∧Ok L 3 1 q x p')(i0:Nat):∀(n:Nat) (q:i6) (x:List d7),mu L q=n→PI L q→(bn q=1∨n<m)→i0≤iN q→1≤x.length→x.length≤10*(iN q-i0)+3*bn q→(bn q=0→D9 x+tl L i0≤tl L (iN q))→∃x' p',Qx d5 x q=some ((x',p',()),())∧Lp L i0 q x x' p':=by
 intro n;have hs:=hL.small;have tn:=N7;have ln:([]:b36).length=0:=rfl
 induction n using Nat.strongRecOn with
 |_ n ih=>
 intro q x hn h hm h0 hx1 hx hxt;have hlt:=h.lt;have hb:=l8 q;have fin:∃x' p',vK d5 x q=some ((x',p',()),())∧Lp L i0 q x x' p':=by rw[a7H,lF];exact⟨x,q,rfl,h,i4 _,i4 _,fun _=>⟨rfl,rfl⟩,hx,hx1,hxt⟩
 have body:bn q=0→∃x' p',dJ d5 x q=some ((x',p',()),())∧Lp L i0 q x x' p':=by
  intro hg;obtain⟨t,ht,ht2⟩:=X4 h;rw[a2C,Zx,ht];simp only[d6];by_cases c:t.Ds=([91]:b36)
  ·rw[f7 c,f9];obtain⟨p1,g1,s1⟩:=Dg hL h [91];have s1a:=s1.le;have s1b:=s1.mono;have s1c:=s1.stay;have s1d:=s1.go;have s1e:=l8 p1;have s1f:=s1.pi.lt;have s1t:=s8 L s1.le;have m1:=Fi h s1 hg;obtain⟨y,p2,g2,s2⟩:=hE p1 s1.pi (by omega);have s2a:=s2.le;have s2b:=s2.mono;have s2c:=s2.stay;have s2d:=s2.go;have s2e:=l8 p2;have s2f:=s2.pi.lt;have s2g:=s2.sz;have s2h:=s2.ne;have s2t:=s8 L s2.le;have s2x:=s2.tx;obtain⟨p3,g3,s3⟩:=Fa hL s2.pi [93];have s3a:=s3.le;have s3b:=s3.mono;have s3c:=s3.stay;have s3d:=s3.go;have s3e:=l8 p3;have s3f:=s3.pi.lt;have s3t:=s8 L s3.le;have hz:x.length+y.length≤50000000:=(by omega);obtain⟨z,g4,hz4,hz4t⟩:=Dt x y hz;have hz5:z.length≤50000000:=(by omega);obtain⟨w,g5,hw,hwt⟩:=J2 28 t [] 0 z hz5 (K9 h ht2);rw[g1,d6,g2,d6,g3,d6,g4,d6,g5,d6];have hlt3:=Cl h s3.pi hg (by omega);obtain⟨x',p',r,o⟩:=ih _ (by omega) p3 w rfl s3.pi (by omega) (by omega) (by omega) (by omega) (fun h=>by omega);have oa:=o.le;have ob:=o.mono;have oc:=o.stay;exact⟨x',p',r,o.pi,by omega,by omega,fun h=>by omega,o.sz,o.ne,o.tx⟩
  ·rw[d9 c,f6];obtain⟨p1,g1,s1⟩:=I8 hL h [46];have s1a:=s1.le;have s1b:=s1.mono;have s1c:=s1.stay;have s1d:=s1.go;have s1e:=l8 p1;have s1f:=s1.pi.lt;have s1t:=s8 L s1.le;obtain⟨t',p2,g2,s2,s2w,s2l⟩:=Lo hL s1.pi 1 (by decide);have s2a:=s2.le;have s2b:=s2.mono;have s2c:=s2.stay;have s2d:=s2.go;have s2e:=l8 p2;have s2f:=s2.pi.lt;have s2t:=s8 L s2.le;have hz:x.length≤50000000:=(by omega);obtain⟨w,g5,hw,hwt⟩:=J2 29 t t'.Ds 0 x hz (K9 h ht2);rw[g1,d6,g2,d6,g5,d6];have hlt3:=Cl h s2.pi hg (by omega);obtain⟨x',p',r,o⟩:=ih _ (by omega) p2 w rfl s2.pi (by omega) (by omega) (by omega) (by omega) (fun h=>by omega);have oa:=o.le;have ob:=o.mono;have oc:=o.stay;exact⟨x',p',r,o.pi,by omega,by omega,fun h=>by omega,o.sz,o.ne,o.tx⟩
 rw[b2T,nZ];obtain⟨b,h1,h2⟩:=F4 h [91];rw[h1,d6];cases b with
 |true=>exact body (h2 rfl).1
 |false=>
  obtain⟨b,h1,h2⟩:=F4 h [46];rw[f6,h1,d6];cases b with
  |true=>exact body (h2 rfl).1
  |false=>exact fin
theorem NI{L:List l6}{b c:Nat}{p p':i6}{x:List d7}(h:Ok L b c p x p')(d:Int):Ok L b c p x ⟨p'.L,p'.I,d,p'.F⟩:=⟨⟨h.pi.l,h.pi.i,h.pi.lt,h.pi.ln⟩,h.le,h.mono,h.stay,h.go,h.sz,h.ne,h.tx⟩
theorem a6g{L:List l6}(hL:Tk L){m:Nat}(hE:∀q,PI L q→mu L q<m→∃x p',L6 d5 q 1=some ((x,p',()),())∧Ok L 3 1 q x p')(hU:∀q,PI L q→mu L q<m→∃x p',Nh d5 q=some ((x,p',()),())∧Ok L 3 1 q x p'){p:i6}(h:PI L p)(hm:mu L p=m):∃x p',Nh d5 p=some ((x,p',()),())∧Ok L 3 1 p x p':=by
 have hs:=hL.small;have tn:=N7;have ln:([]:b36).length=0:=rfl;have hlt:=h.lt;have hb:=l8 p;obtain⟨t,ht,ht2⟩:=X4 h;have body:bn p=0→∃x p',oS d5 p ((t,()),())=some ((x,p',()),())∧Ok L 3 1 p x p':=by
  intro hg;rw[a1r,pB];obtain⟨p1,g1,s1⟩:=Dg hL h t.Ds;have s1a:=s1.le;have s1b:=s1.mono;have s1c:=s1.stay;have s1d:=s1.go;have s1e:=l8 p1;have s1f:=s1.pi.lt;have s1t:=s8 L s1.le;have m1:=Fi h s1 hg;obtain⟨x,p2,g2,s2⟩:=hU p1 s1.pi (by omega);have s2a:=s2.le;have s2b:=s2.mono;have s2c:=s2.stay;have s2d:=s2.go;have s2e:=l8 p2;have s2f:=s2.pi.lt;have s2g:=s2.sz;have s2h:=s2.ne;have s2t:=s8 L s2.le;have s2x:=s2.tx;have hz:x.length≤50000000:=(by omega);obtain⟨y,g3,hy,hyt⟩:=J2 30 t [] 12 x hz (K9 h ht2);obtain⟨z,g4,hz4,hz4t⟩:=J2 30 t [] 13 x hz (K9 h ht2);simp only;rw[g1,d6,g2,d6,g3,g4];cases decide (t.Ds=([45]:b36))with
  |true=>exact⟨y,_,rfl,NI (p':=p2) ⟨s2.pi,by omega,by omega,fun h=>by omega,fun h=>by omega,by omega,by omega,fun h=>by omega⟩ _⟩
  |false=>exact⟨z,_,rfl,NI (p':=p2) ⟨s2.pi,by omega,by omega,fun h=>by omega,fun h=>by omega,by omega,by omega,fun h=>by omega⟩ _⟩
 rw[a8P,sE,ht,d6];obtain⟨b,h1,h2⟩:=F4 h [45];rw[h1,d6];cases b with
 |true=>exact body (h2 rfl).1
 |false=>
  obtain⟨b,h1,h2⟩:=F4 h [33];rw[D6,f9,h1,d6];cases b with
  |true=>exact body (h2 rfl).1
  |false=>
   obtain⟨x,p1,g1,s1⟩:=b2I hL hE h hm;have s1a:=s1.le;have s1b:=s1.mono;have s1c:=s1.stay;have s1d:=s1.go;have s1e:=l8 p1;have s1f:=s1.pi.lt;have s1g:=s1.sz;have s1h:=s1.ne;have s1t:=s8 L s1.le;have s1x:=s1.tx;obtain⟨x',p',g2,o⟩:=a2x hL hE (iN p) _ p1 x rfl s1.pi (by
    by_cases c:bn p1=1
    ·exact .inl c
    ·right;have:=JD h s1 (by omega);omega) s1a s1h s1g s1x
   have oa:=o.le;have ob:=o.mono;have oc:=o.stay;have od:=o.sz;have oe:=o.ne;have ot:=o.tx;rw[D6,f9,b0s,mZ,g1,d6,g2];exact⟨x',p',rfl,o.pi,by omega,by omega,fun h=>by omega,fun h=>by omega,by omega,by omega,fun h=>by omega⟩
theorem b0z(lv:Nat)(h1:1≤lv)(h6:lv≤6):∃e:V9,zD d5 (lv:Int)=some e∧e.1.1.length=e.1.2.1.length∧e.1.1.length≤4:=by
 have:lv=1∨lv=2∨lv=3∨lv=4∨lv=5∨lv=6:=(by omega);rw[a2H,aV];rcases this with rfl|rfl|rfl|rfl|rfl|rfl
 all_goals exact⟨_,rfl,rfl,by decide⟩
theorem a7P{L:List l6}(hL:Tk L){m:Nat}(lv:Nat)(hlv:lv≤6)(e:V9)(he:e.1.1.length=e.1.2.1.length)(he4:e.1.1.length≤4)(hN:∀q,PI L q→mu L q<m→∃x p',L6 d5 q ((lv+1:Nat):Int)=some ((x,p',()),())∧Ok L 3 1 q x p')(i0:Nat):∀(n i:Nat) (x:List d7) (c:Bool) (q:i6),e.1.1.length-i=n→PI L q→(bn q=1∨mu L q<m)→i0≤iN q→1≤x.length→x.length≤10*(iN q-i0)+3*bn q→(bn q=0→D9 x+tl L i0≤tl L (iN q))→∃x' c' q',Ih d5 (lv:Int) x c e (i:Int) q=yE d5 (lv:Int) x' c' q' e∧Lp L i0 q x x' q'∧(c=true→q'=q∧c'=true)∧(c=false→c'=true→mu L q'<mu L q):=by
 intro n;have hs:=hL.small;have tn:=N7;have ln:([]:b36).length=0:=rfl
 induction n with
 |zero=>intro i x c q hi h hm h0 hx1 hx hxt;rw[RZ,Wv,d9 (by omega),f6];exact⟨x,c,q,rfl,⟨h,i4 _,i4 _,fun _=>⟨rfl,rfl⟩,hx,hx1,hxt⟩,fun hc=>⟨rfl,hc⟩,fun h1 h2=>by rw[h1]at h2;cases h2⟩
 |succ n ih=>
  intro i x c q hi h hm h0 hx1 hx hxt;have hlt:=h.lt;have hb:=l8 q;have e1:w64 ((i:Int)+1)=((i+1:Nat):Int):=(by rw[wrap64 (by omega) (by omega)];omega);have e2:w64 ((lv:Int)+1)=((lv+1:Nat):Int):=(by rw[wrap64 (by omega) (by omega)];omega);have hi1:i<e.1.1.length:=(by omega);have hi2:i<e.1.2.1.length:=(by omega);have skip:=ih (i+1) x c q (by omega) h hm h0 hx1 hx hxt;rw[RZ,Wv,f7 (by omega),f9,e1,e2];cases c with
  |true=>exact skip
  |false=>
   obtain⟨b,h1,h2⟩:=F4 h e.1.1[i];rw[D6,f9,l5 hi1,d6,E5,p9 hi1,d6,h1,d6];cases b with
   |false=>exact skip
   |true=>have hg:=(h2 rfl).1;obtain⟨t,ht,ht2⟩:=X4 h;obtain⟨p1,g1,s1⟩:=I8 hL h e.1.1[i];have s1a:=s1.le;have s1b:=s1.mono;have s1c:=s1.stay;have s1d:=s1.go;have s1e:=l8 p1;have s1f:=s1.pi.lt;have s1t:=s8 L s1.le;have m1:=Fi h s1 hg;obtain⟨y,p2,g2,s2⟩:=hN p1 s1.pi (by omega);have s2a:=s2.le;have s2b:=s2.mono;have s2c:=s2.stay;have s2d:=s2.go;have s2e:=l8 p2;have s2f:=s2.pi.lt;have s2g:=s2.sz;have s2h:=s2.ne;have s2t:=s8 L s2.le;have s2x:=s2.tx;have hz:x.length+y.length≤50000000:=(by omega);obtain⟨z,g4,hz4,hz4t⟩:=Dt x y hz;have hz5:z.length≤50000000:=(by omega);obtain⟨w,g5,hw,hwt⟩:=J2 31 t [] e.1.2.1[i] z hz5 (K9 h ht2);have hlt3:=Cl h s2.pi hg (by omega);obtain⟨x',c',q',r,o,k1,k2⟩:=ih (i+1) w true p2 (by omega) s2.pi (by omega) (by omega) (by omega) (by omega) (fun h=>by omega);rw[f9,ht,d6,d6,d6,g1,d6,g2,d6,l5 hi2,d6,p9 hi2,d6,g4,d6,g5,d6];have oa:=o.le;have ob:=o.mono;have oc:=o.stay;exact⟨x',c',q',r,⟨o.pi,by omega,by omega,fun h=>by omega,o.sz,o.ne,o.tx⟩,(fun h=>nomatch h),fun _ _=>by rw[(k1 rfl).1];exact hlt3⟩
theorem b0A{L:List l6}(hL:Tk L){m:Nat}(lv:Nat)(hlv:lv≤6)(e:V9)(he:e.1.1.length=e.1.2.1.length)(he4:e.1.1.length≤4)(hN:∀q,PI L q→mu L q<m→∃x p',L6 d5 q ((lv+1:Nat):Int)=some ((x,p',()),())∧Ok L 3 1 q x p')(i0:Nat):∀(n:Nat) (x:List d7) (q:i6),mu L q=n→PI L q→(bn q=1∨n<m)→i0≤iN q→1≤x.length→x.length≤10*(iN q-i0)+3*bn q→(bn q=0→D9 x+tl L i0≤tl L (iN q))→∃x' p',oB d5 (lv:Int) x true q e=some ((x',p',()),())∧Lp L i0 q x x' p':=by
 intro n
 induction n using Nat.strongRecOn with
 |_ n ih=>
 intro x q hn h hm h0 hx1 hx hxt;have hb:=l8 q;obtain⟨x1,c1,q1,r,o,_,k2⟩:=a7P hL lv hlv e he he4 hN i0 _ 0 x false q rfl h (by omega) h0 hx1 hx hxt;have fin:∃x' p',(some ((x1,q1,()),()):b3T)=some ((x',p',()),())∧Lp L i0 q x x' p':=⟨x1,q1,rfl,o⟩;rw[JU,Rt,f9,show Ih d5 (lv:Int) x false e 0 q=_ from r,a9z,dF];by_cases d3:(lv:Int)=3
 ·rw[f7 d3];exact fin
 by_cases d4:(lv:Int)=4
 ·rw[d9 d3,f7 d4];exact fin
 rw[d9 d3,d9 d4,f6,f6];cases c1 with
 |false=>rw[JU,Rt,f6,ZB,bL];exact fin
 |true=>
  have hlt:=k2 rfl rfl;have oa:=o.le;have ob:=o.mono;have oc:=o.stay;have hq1:=l8 q1;obtain⟨x',p',r',o'⟩:=ih (mu L q1) (by omega) x1 q1 rfl o.pi (by
   by_cases cq:bn q=1
   ·exact .inl (by omega)
   ·exact .inr (by omega)) (by omega) o.ne o.sz o.tx
  have pa:=o'.le;have pb:=o'.mono;have pc:=o'.stay;exact⟨x',p',r',o'.pi,by omega,by omega,fun h=>by omega,o'.sz,o'.ne,o'.tx⟩
theorem b2s{L:List l6}(hL:Tk L):∀(m:Nat) (p:i6),PI L p→mu L p=m→(∃x p',Nh d5 p=some ((x,p',()),())∧Ok L 3 1 p x p')∧∀lv:Nat,1≤lv→lv≤7→∃x p',L6 d5 p (lv:Int)=some ((x,p',()),())∧Ok L 3 1 p x p':=by
 intro m
 induction m using Nat.strongRecOn with
 |_ m ih=>
 intro p h hm;have hX:∀lv:Nat,1≤lv→lv≤7→∀q,PI L q→mu L q<m→∃x p',L6 d5 q (lv:Int)=some ((x,p',()),())∧Ok L 3 1 q x p':=fun lv a b q hq hl=>(ih _ hl q hq rfl).2 lv a b;have hU:=a6g hL (hX 1 (by omega) (by omega)) (fun q hq hl=>(ih _ hl q hq rfl).1) h hm;refine⟨hU,?_⟩;have key:∀j lv:Nat,7-lv=j→1≤lv→lv≤7→∃x p',L6 d5 p (lv:Int)=some ((x,p',()),())∧Ok L 3 1 p x p':=by
  intro j
  induction j with
  |zero=>intro lv hj h1 h7;obtain⟨x,p',g,o⟩:=hU;rw[NK,Rj,f7 (by omega),f9,g];exact⟨x,p',rfl,o⟩
  |succ j ihj=>
   intro lv hj h1 h7;have e2:w64 ((lv:Int)+1)=((lv+1:Nat):Int):=(by rw[wrap64 (by omega) (by omega)];omega);obtain⟨x,p1,g1,s1⟩:=ihj (lv+1) (by omega) (by omega) (by omega);have s1a:=s1.le;have s1b:=s1.mono;have s1c:=s1.stay;have s1d:=s1.go;have s1e:=l8 p1;have s1f:=s1.pi.lt;have s1g:=s1.sz;have s1h:=s1.ne;have s1t:=s8 L s1.le;have s1x:=s1.tx;obtain⟨e,he,he1,he2⟩:=b0z lv h1 (by omega);have hb:=l8 p;obtain⟨x',p',g2,o⟩:=b0A hL lv (by omega) e he1 he2 (hX (lv+1) (by omega) (by omega)) (iN p) _ x p1 rfl s1.pi (by
    by_cases c:bn p1=1
    ·exact .inl c
    ·right;have:=JD h s1 (by omega);omega) s1a s1h s1g s1x
   have oa:=o.le;have ob:=o.mono;have oc:=o.stay;have od:=o.sz;have oe:=o.ne;have ot:=o.tx;rw[NK,Rj,d9 (by omega),f6,e2,g1,d6,he,d6,g2];exact⟨x',p',rfl,o.pi,by omega,by omega,fun h=>by omega,fun h=>by omega,by omega,by omega,fun h=>by omega⟩
 exact fun lv=>key _ lv rfl
theorem Ig{L:List l6}(hL:Tk L){p:i6}(h:PI L p):∃x p',L6 d5 p 1=some ((x,p',()),())∧Ok L 3 1 p x p':=(b2s hL _ p h rfl).2 1 (by omega) (by omega)
theorem b28{L:List l6}(hL:Tk L){m:Nat}(hS:∀q,PI L q→mu L q<m→∃x p',Mf d5 q=some ((x,p',()),())∧Ok L 5 2 q x p')(t:RT5)(htl:pl t.1.1.Ls=0)(i0:Nat):∀(n:Nat) (q:i6) (c:List d7),mu L q=n→PI L q→(bn q=1∨n<m)→i0≤iN q→c.length≤10*(iN q-i0)+5*bn q→(bn q=0→D9 c+tl L i0≤tl L (iN q))→∃x p',tA d5 q t c=some ((x,p',()),())∧PI L p'∧iN q≤iN p'∧bn q≤bn p'∧(bn q=1→iN p'=iN q∧x.length=c.length+1)∧x.length≤10*(iN p'-i0)+5*bn p'+1∧1≤x.length∧(bn p'=0→D9 x+tl L i0≤tl L (iN p')):=by
 intro n;have hs:=hL.small;have tn:=N7;have ln:([]:b36).length=0:=rfl
 induction n using Nat.strongRecOn with
 |_ n ih=>
 intro q c hn h hm h0 hc hct;have hlt:=h.lt;have hb:=l8 q;have fin:∃x p',rO d5 q t c=some ((x,p',()),())∧PI L p'∧iN q≤iN p'∧bn q≤bn p'∧(bn q=1→iN p'=iN q∧x.length=c.length+1)∧x.length≤10*(iN p'-i0)+5*bn p'+1∧1≤x.length∧(bn p'=0→D9 x+tl L i0≤tl L (iN p')):=by have hz:c.length≤50000000:=(by omega);obtain⟨y,g0,hy,hyt⟩:=J2 6 t.1.1 [] 0 c hz htl;obtain⟨p1,g1,s1⟩:=Fa hL h [125];rw[a0l,kL,g0,d6,g1];have s1a:=s1.le;have s1b:=s1.mono;have s1c:=s1.stay;have s1d:=s1.go;have s1e:=l8 p1;have s1f:=s1.pi.lt;have s1t:=s8 L s1.le;exact⟨y,p1,rfl,s1.pi,by omega,by omega,fun h=>by omega,by omega,by omega,fun h=>by omega⟩
 rw[a4J,iY,Cw];by_cases cb:bn q=1
 ·rw[f7 cb];exact fin
 ·rw[d9 cb];simp only[d6,D6,f9];obtain⟨b,h1,h2⟩:=F4 h [125];rw[h1,d6];cases b with
  |true=>exact fin
  |false=>obtain⟨x,p1,g1,s1⟩:=hS q h (by omega);have s1a:=s1.le;have s1b:=s1.mono;have s1c:=s1.stay;have s1d:=s1.go;have s1e:=l8 p1;have s1f:=s1.pi.lt;have s1g:=s1.sz;have s1h:=s1.ne;have s1t:=s8 L s1.le;have s1x:=s1.tx;have hz:c.length+x.length≤100000000:=(by omega);rw[D6,f9,g1,d6,G9 (by decide) hz,d6];have hlt3:=Cl h s1.pi (by omega) (by omega);obtain⟨x',p',r,r1,r2,r3,r4,r5,r6,r7⟩:=ih _ (by omega) p1 (c++x) rfl s1.pi (by omega) (by omega) (by rw[o0];omega) (fun h=>by rw[Lm];omega);exact⟨x',p',r,r1,by omega,by omega,fun h=>by omega,r5,r6,r7⟩
theorem a3h{L:List l6}(hL:Tk L){m:Nat}(hS:∀q,PI L q→mu L q<m→∃x p',Mf d5 q=some ((x,p',()),())∧Ok L 5 2 q x p'){p:i6}(h:PI L p)(hm:mu L p=m):∃x p',Fb d5 p=some ((x,p',()),())∧Ok L 3 1 p x p':=by
 have hs:=hL.small;have tn:=N7;have ln:([]:b36).length=0:=rfl;have hlt:=h.lt;have hb:=l8 p;obtain⟨t,ht,ht2⟩:=X4 h;obtain⟨p1,g1,s1⟩:=Dg hL h [123];have s1a:=s1.le;have s1b:=s1.mono;have s1c:=s1.stay;have s1d:=s1.go;have s1e:=l8 p1;have s1f:=s1.pi.lt;have s1t:=s8 L s1.le;obtain⟨x,p',r,r1,r2,r3,r4,r5,r6,r7⟩:=b28 hL hS ((t,()),()) (K9 h ht2) (iN p1) _ p1 [] rfl s1.pi (by
  by_cases c:bn p1=1
  ·exact .inl c
  ·right;have:=Fi h s1 (by omega);omega) (i4 _) (by simp) (fun h=>by omega)
 have hb':=l8 p';simp only[I6]at r4;rw[a9e,nW,ht,d6,g1,d6];exact⟨x,p',r,r1,by omega,by omega,fun h=>by omega,fun h=>by omega,by omega,by omega,fun h=>by omega⟩
set_option maxHeartbeats 2000000 in
theorem a1b{L:List l6}(hL:Tk L){m:Nat}(hB:∀q,PI L q→mu L q<m→∃x p',Fb d5 q=some ((x,p',()),())∧Ok L 3 1 q x p'){p:i6}(h:PI L p)(hm:mu L p=m):∃x p',Mf d5 p=some ((x,p',()),())∧Ok L 5 2 p x p':=by
 have hs:=hL.small;have tn:=N7;have ln:([]:b36).length=0:=rfl;have hlt:=h.lt;have hb:=l8 p;obtain⟨t,ht,ht2⟩:=X4 h;rw[a4M,Zr,ht,d6];obtain⟨b,h1,h2⟩:=F4 h [118,97,114];rw[h1,d6];cases b with
 |true=>have hg:=(h2 rfl).1;obtain⟨p1,g1,s1⟩:=I8 hL h [118,97,114];obtain⟨t',p2,g2,s2,s2w,s2l⟩:=Lo hL s1.pi 1 (by decide);obtain⟨p3,g3,s3⟩:=I8 hL s2.pi [58];obtain⟨k,p4,g4,s4⟩:=eZ hL _ p3 s3.pi rfl;obtain⟨p5,g5,s5⟩:=I8 hL s4.pi [61];obtain⟨x,p6,g6,s6⟩:=Ig hL s5.pi;obtain⟨p7,g7,s7⟩:=I8 hL s6.pi [59];have s1a:=s1.le;have s1b:=s1.mono;have s1c:=s1.stay;have s1d:=s1.go;have s1e:=l8 p1;have s1f:=s1.pi.lt;have s1t:=s8 L s1.le;have s2a:=s2.le;have s2b:=s2.mono;have s2c:=s2.stay;have s2d:=s2.go;have s2e:=l8 p2;have s2f:=s2.pi.lt;have s2t:=s8 L s2.le;have s3a:=s3.le;have s3b:=s3.mono;have s3c:=s3.stay;have s3d:=s3.go;have s3e:=l8 p3;have s3f:=s3.pi.lt;have s3t:=s8 L s3.le;have s4a:=s4.le;have s4b:=s4.mono;have s4c:=s4.stay;have s4d:=s4.go;have s4e:=l8 p4;have s4f:=s4.pi.lt;have s4g:=s4.sz;have s4h:=s4.ne;have s4t:=s8 L s4.le;have s4x:=s4.tx;have s5a:=s5.le;have s5b:=s5.mono;have s5c:=s5.stay;have s5d:=s5.go;have s5e:=l8 p5;have s5f:=s5.pi.lt;have s5t:=s8 L s5.le;have s6a:=s6.le;have s6b:=s6.mono;have s6c:=s6.stay;have s6d:=s6.go;have s6e:=l8 p6;have s6f:=s6.pi.lt;have s6g:=s6.sz;have s6h:=s6.ne;have s6t:=s8 L s6.le;have s6x:=s6.tx;have s7a:=s7.le;have s7b:=s7.mono;have s7c:=s7.stay;have s7d:=s7.go;have s7e:=l8 p7;have s7f:=s7.pi.lt;have s7t:=s8 L s7.le;have hz:k.length+x.length≤50000000:=(by omega);obtain⟨y,k1,hy,hyt⟩:=Dt k x hz;have hz2:y.length≤50000000:=(by omega);obtain⟨z,k2,hz3,hz3t⟩:=J2 7 t t'.Ds 0 y hz2 (K9 h ht2);rw[f9,g1,d6,g2,d6,g3,d6,g4,d6,g5,d6,g6,d6,k1,d6,k2,d6,g7];exact⟨z,p7,rfl,s7.pi,by omega,by omega,fun h=>by omega,fun h=>by omega,by omega,by omega,fun h=>by omega⟩
 |false=>
 rw[f6];obtain⟨b,h1,h2⟩:=F4 h [105,102];rw[h1,d6];cases b with
 |true=>
  have hg:=(h2 rfl).1;obtain⟨p1,g1,s1⟩:=I8 hL h [105,102];have s1a:=s1.le;have s1b:=s1.mono;have s1c:=s1.stay;have s1d:=s1.go;have s1e:=l8 p1;have s1f:=s1.pi.lt;have s1t:=s8 L s1.le;obtain⟨x,p2,g2,s2⟩:=Ig hL s1.pi;have s2a:=s2.le;have s2b:=s2.mono;have s2c:=s2.stay;have s2d:=s2.go;have s2e:=l8 p2;have s2f:=s2.pi.lt;have s2g:=s2.sz;have s2h:=s2.ne;have s2t:=s8 L s2.le;have s2x:=s2.tx;obtain⟨y,p3,g3,s3⟩:=hB p2 s2.pi (by have:=Cl h s2.pi hg (by omega);omega);have s3a:=s3.le;have s3b:=s3.mono;have s3c:=s3.stay;have s3d:=s3.go;have s3e:=l8 p3;have s3f:=s3.pi.lt;have s3g:=s3.sz;have s3h:=s3.ne;have s3t:=s8 L s3.le;have s3x:=s3.tx;have hz:x.length+y.length≤50000000:=(by omega);obtain⟨z,k1,hz1,hz1t⟩:=Dt x y hz;obtain⟨b,h3,h4⟩:=F4 s3.pi [101,108,115,101];rw[f9,g1,d6,g2,d6,g3,d6,k1,d6,h3,d6];cases b with
  |true=>obtain⟨p4,g4,s4⟩:=I8 hL s3.pi [101,108,115,101];have s4a:=s4.le;have s4b:=s4.mono;have s4c:=s4.stay;have s4d:=s4.go;have s4e:=l8 p4;have s4f:=s4.pi.lt;have s4t:=s8 L s4.le;obtain⟨w,p5,g5,s5⟩:=hB p4 s4.pi (by have:=Cl h s4.pi hg (by omega);omega);have s5a:=s5.le;have s5b:=s5.mono;have s5c:=s5.stay;have s5d:=s5.go;have s5e:=l8 p5;have s5f:=s5.pi.lt;have s5g:=s5.sz;have s5h:=s5.ne;have s5t:=s8 L s5.le;have s5x:=s5.tx;have hz2:z.length+w.length≤50000000:=(by omega);obtain⟨u,k2,hu,hut⟩:=Dt z w hz2;have hz3:u.length≤50000000:=(by omega);obtain⟨v,k3,hv,hvt⟩:=J2 9 t [] 0 u hz3 (K9 h ht2);rw[f9,g4,d6,g5,d6,k2,d6,KQ,Sj,k3];exact⟨v,p5,rfl,s5.pi,by omega,by omega,fun h=>by omega,fun h=>by omega,by omega,by omega,fun h=>by omega⟩
  |false=>have hz3:z.length≤50000000:=(by omega);obtain⟨v,k3,hv,hvt⟩:=J2 9 t [] 0 z hz3 (K9 h ht2);rw[f6,KQ,Sj,k3];exact⟨v,p3,rfl,s3.pi,by omega,by omega,fun h=>by omega,fun h=>by omega,by omega,by omega,fun h=>by omega⟩
 |false=>
 rw[f6];obtain⟨b,h1,h2⟩:=F4 h [119,104,105,108,101];rw[h1,d6];cases b with
 |true=>have hg:=(h2 rfl).1;obtain⟨p1,g1,s1⟩:=I8 hL h [119,104,105,108,101];have s1a:=s1.le;have s1b:=s1.mono;have s1c:=s1.stay;have s1d:=s1.go;have s1e:=l8 p1;have s1f:=s1.pi.lt;have s1t:=s8 L s1.le;obtain⟨x,p2,g2,s2⟩:=Ig hL s1.pi;have s2a:=s2.le;have s2b:=s2.mono;have s2c:=s2.stay;have s2d:=s2.go;have s2e:=l8 p2;have s2f:=s2.pi.lt;have s2g:=s2.sz;have s2h:=s2.ne;have s2t:=s8 L s2.le;have s2x:=s2.tx;obtain⟨y,p3,g3,s3⟩:=hB p2 s2.pi (by have:=Cl h s2.pi hg (by omega);omega);have s3a:=s3.le;have s3b:=s3.mono;have s3c:=s3.stay;have s3d:=s3.go;have s3e:=l8 p3;have s3f:=s3.pi.lt;have s3g:=s3.sz;have s3h:=s3.ne;have s3t:=s8 L s3.le;have s3x:=s3.tx;have hz:x.length+y.length≤50000000:=(by omega);obtain⟨z,k1,hz1,hz1t⟩:=Dt x y hz;have hz3:z.length≤50000000:=(by omega);obtain⟨v,k3,hv,hvt⟩:=J2 10 t [] 0 z hz3 (K9 h ht2);rw[f9,g1,d6,g2,d6,g3,d6,k1,d6,k3];exact⟨v,p3,rfl,s3.pi,by omega,by omega,fun h=>by omega,fun h=>by omega,by omega,by omega,fun h=>by omega⟩
 |false=>
 rw[f6];obtain⟨b,h1,h2⟩:=F4 h [114,101,116,117,114,110];rw[h1,d6];cases b with
 |true=>
  have hg:=(h2 rfl).1;obtain⟨p1,g1,s1⟩:=I8 hL h [114,101,116,117,114,110];have s1a:=s1.le;have s1b:=s1.mono;have s1c:=s1.stay;have s1d:=s1.go;have s1e:=l8 p1;have s1f:=s1.pi.lt;have s1t:=s8 L s1.le;obtain⟨b,h3,h4⟩:=F4 s1.pi [59];rw[f9,g1,d6,h3,d6];cases b with
  |true=>obtain⟨v,k3,hv,hvt⟩:=J2 11 t [] 0 [] (by simp) (K9 h ht2);obtain⟨p2,g2,s2⟩:=I8 hL s1.pi [59];have s2a:=s2.le;have s2b:=s2.mono;have s2c:=s2.stay;have s2d:=s2.go;have s2e:=l8 p2;have s2f:=s2.pi.lt;have s2t:=s8 L s2.le;simp only[I6]at hv;rw[A4,f6,JK,Wn,k3,d6,g2];exact⟨v,p2,rfl,s2.pi,by omega,by omega,fun h=>by omega,fun h=>by omega,by omega,by omega,fun h=>by omega⟩
  |false=>obtain⟨x,p2,g2,s2⟩:=Ig hL s1.pi;have s2a:=s2.le;have s2b:=s2.mono;have s2c:=s2.stay;have s2d:=s2.go;have s2e:=l8 p2;have s2f:=s2.pi.lt;have s2g:=s2.sz;have s2h:=s2.ne;have s2t:=s8 L s2.le;have s2x:=s2.tx;obtain⟨p3,g3,s3⟩:=I8 hL s2.pi [59];have s3a:=s3.le;have s3b:=s3.mono;have s3c:=s3.stay;have s3d:=s3.go;have s3e:=l8 p3;have s3f:=s3.pi.lt;have s3t:=s8 L s3.le;have hz:x.length≤50000000:=(by omega);obtain⟨v,k3,hv,hvt⟩:=J2 11 t [] 0 x hz (K9 h ht2);rw[D6,f9,g2,d6,JK,Wn,k3,d6,g3];exact⟨v,p3,rfl,s3.pi,by omega,by omega,fun h=>by omega,fun h=>by omega,by omega,by omega,fun h=>by omega⟩
 |false=>
 rw[f6];obtain⟨b,h1,h2⟩:=F4 h [112,114,105,110,116];rw[h1,d6];cases b with
 |true=>have hg:=(h2 rfl).1;obtain⟨p1,g1,s1⟩:=I8 hL h [112,114,105,110,116];have s1a:=s1.le;have s1b:=s1.mono;have s1c:=s1.stay;have s1d:=s1.go;have s1e:=l8 p1;have s1f:=s1.pi.lt;have s1t:=s8 L s1.le;obtain⟨x,p2,g2,s2⟩:=Ig hL s1.pi;have s2a:=s2.le;have s2b:=s2.mono;have s2c:=s2.stay;have s2d:=s2.go;have s2e:=l8 p2;have s2f:=s2.pi.lt;have s2g:=s2.sz;have s2h:=s2.ne;have s2t:=s8 L s2.le;have s2x:=s2.tx;obtain⟨p3,g3,s3⟩:=I8 hL s2.pi [59];have s3a:=s3.le;have s3b:=s3.mono;have s3c:=s3.stay;have s3d:=s3.go;have s3e:=l8 p3;have s3f:=s3.pi.lt;have s3t:=s8 L s3.le;have hz:x.length≤50000000:=(by omega);obtain⟨v,k3,hv,hvt⟩:=J2 12 t [] 0 x hz (K9 h ht2);rw[f9,g1,d6,g2,d6,k3,d6,g3];exact⟨v,p3,rfl,s3.pi,by omega,by omega,fun h=>by omega,fun h=>by omega,by omega,by omega,fun h=>by omega⟩
 |false=>
 rw[f6];obtain⟨x,p1,g1,s1⟩:=Ig hL h;have s1a:=s1.le;have s1b:=s1.mono;have s1c:=s1.stay;have s1d:=s1.go;have s1e:=l8 p1;have s1f:=s1.pi.lt;have s1g:=s1.sz;have s1h:=s1.ne;have s1t:=s8 L s1.le;have s1x:=s1.tx;have hx0:0<x.length:=(by omega);have hx1:f5 x 0=some x[0]:=l5 (i:=0) hx0;have hz:x.length≤50000000:=(by omega);have j4:∀q,PI L q→iN p1≤iN q→bn p1≤bn q→(bn p1=1→iN q=iN p1)→∃x1 p',Qw d5 ((x,p1,()),()) q ((t,()),())=some ((x1,p',()),())∧Ok L 5 2 p x1 p':=by intro q hq e1 e2 e3;have e1t:=s8 L e1;obtain⟨v,k3,hv,hvt⟩:=J2 13 t [] 0 x hz (K9 h ht2);obtain⟨p3,g3,s3⟩:=I8 hL hq [59];have s3a:=s3.le;have s3b:=s3.mono;have s3c:=s3.stay;have s3d:=s3.go;have s3e:=l8 p3;have s3f:=s3.pi.lt;have s3t:=s8 L s3.le;simp only[b2P,fH];rw[k3,d6,g3];exact⟨v,p3,rfl,s3.pi,by omega,by omega,fun h=>by omega,fun h=>by omega,by omega,by omega,fun h=>by omega⟩
 have j3:∃x1 p',iX d5 ((x,p1,()),()) ((t,()),())=some ((x1,p',()),())∧Ok L 5 2 p x1 p':=by obtain⟨p2,g2,s2,s3⟩:=Iz s1.pi 5 (by decide);have s2a:=s2.le;have s2b:=s2.mono;have s2c:=s2.stay;have s2d:=s2.go;have s2e:=l8 p2;have s2f:=s2.pi.lt;have s2t:=s8 L s2.le;obtain⟨x1,p',q1,q2⟩:=j4 p2 s2.pi (by omega) (by omega) (fun h=>by omega);simp only[a7p,tH];rw[g2,d6];exact⟨x1,p',q1,q2⟩
 have j2:bn p1=0→∃x1 p',Ue d5 ((x,p1,()),()) ((t,()),())=some ((x1,p',()),())∧Ok L 5 2 p x1 p':=by intro hgood;obtain⟨p2,g2,s2⟩:=I8 hL s1.pi [61];have s2a:=s2.le;have s2b:=s2.mono;have s2c:=s2.stay;have s2d:=s2.go;have s2e:=l8 p2;have s2f:=s2.pi.lt;have s2t:=s8 L s2.le;obtain⟨y,p3,g3,s3⟩:=Ig hL s2.pi;have s3a:=s3.le;have s3b:=s3.mono;have s3c:=s3.stay;have s3d:=s3.go;have s3e:=l8 p3;have s3f:=s3.pi.lt;have s3g:=s3.sz;have s3h:=s3.ne;have s3t:=s8 L s3.le;have s3x:=s3.tx;have hz1:x.length+y.length≤50000000:=(by omega);obtain⟨z,k1,hz2,hz2t⟩:=Dt x y hz1;have hz3:z.length≤50000000:=(by omega);obtain⟨v,k3,hv,hvt⟩:=J2 8 t [] 0 z hz3 (K9 h ht2);obtain⟨p4,g4,s4⟩:=I8 hL s3.pi [59];have s4a:=s4.le;have s4b:=s4.mono;have s4c:=s4.stay;have s4d:=s4.go;have s4e:=l8 p4;have s4f:=s4.pi.lt;have s4t:=s8 L s4.le;simp only[a2R,nT];rw[g2,d6,g3,d6,k1,d6,k3,d6,g4];exact⟨v,p4,rfl,s4.pi,by omega,by omega,fun h=>by omega,fun h=>by omega,by omega,by omega,fun h=>by omega⟩
 have j5:∃x1 p',dB d5 ((x,p1,()),()) x[0] ((t,()),())=some ((x1,p',()),())∧Ok L 5 2 p x1 p':=by
  obtain⟨b,h3,h4⟩:=F4 s1.pi [61];obtain⟨b2,h5,h6⟩:=F4 s1.pi [59];have e:=j4 p1 s1.pi (i4 _) (i4 _) (fun _=>rfl);simp only[b1Q,rK];rw[h3,d6];cases b with
  |true=>exact j3
  |false=>
   rw[f6,h5,d6];cases b2 with
   |false=>exact e
   |true=>
    rw[f9];cases decide (x[0].Ks=27)with
    |true=>exact e
    |false=>exact j3
 obtain⟨b,h3,h4⟩:=F4 s1.pi [61];rw[g1,d6,hx1,d6,h3,d6];cases b with
 |false=>exact j5
 |true=>
  have hgood:=(h4 rfl).1;rw[f9];cases decide (x[0].Ks=26)with
  |true=>exact j2 hgood
  |false=>
   rw[f6];cases decide (x[0].Ks=28)with
   |true=>exact j2 hgood
   |false=>
    rw[f6];cases decide (x[0].Ks=29)with
    |true=>exact j2 hgood
    |false=>exact j5
theorem b0C{L:List l6}(hL:Tk L):∀(m:Nat) (p:i6),PI L p→mu L p=m→(∃x p',Mf d5 p=some ((x,p',()),())∧Ok L 5 2 p x p')∧∃x p',Fb d5 p=some ((x,p',()),())∧Ok L 3 1 p x p':=by
 intro m
 induction m using Nat.strongRecOn with
 |_ m ih=>
 intro p h hm;exact⟨a1b hL (fun q hq hl=>(ih _ hl q hq rfl).2) h hm,a3h hL (fun q hq hl=>(ih _ hl q hq rfl).1) h hm⟩
theorem a9G{L:List l6}(hL:Tk L){p:i6}(h:PI L p):∃x p',Fb d5 p=some ((x,p',()),())∧Ok L 3 1 p x p':=(b0C hL _ p h rfl).2
structure Lq(L:List l6)(i0 k b:Nat)(q:i6)(c:List d7)(x:List d7)(p':i6):Prop where
 pi:PI L p'
 le:iN q≤iN p'
 mono:bn q≤bn p'
 stay:bn q=1→iN p'=iN q∧x.length≤c.length+k
 sz:x.length≤10*(iN p'-i0)+8*bn p'+k
 ne:1≤x.length
 tx:bn p'=0→D9 x+tl L i0≤tl L (iN p')+b
theorem a75{L:List l6}(hL:Tk L)(t:RT5)(w:J9)(htl:pl t.1.1.Ls=0)(i0:Nat):∀(n:Nat) (q:i6) (c:List d7),mu L q=n→PI L q→i0≤iN q→c.length≤10*(iN q-i0)+4*bn q→(bn q=0→D9 c+tl L i0≤tl L (iN q))→∃x p',Zw d5 q t w c=some ((x,p',()),())∧Lq L i0 1 w.1.1.Ds.length q c x p':=by
 intro n;have hs:=hL.small;have tn:=N7;have ln:([]:b36).length=0:=rfl
 induction n using Nat.strongRecOn with
 |_ n ih=>
 intro q c hn h h0 hc hct;have hlt:=h.lt;have hb:=l8 q;have fin:∃x p',nN d5 q t w c=some ((x,p',()),())∧Lq L i0 1 w.1.1.Ds.length q c x p':=by have hz:c.length≤50000000:=(by omega);obtain⟨y,g0,hy,hyt⟩:=J2 2 t.1.1 w.1.1.Ds 0 c hz htl;obtain⟨p1,g1,s1⟩:=Fa hL h [125];rw[b3c,cO,g0,d6,g1];have s1a:=s1.le;have s1b:=s1.mono;have s1c:=s1.stay;have s1d:=s1.go;have s1e:=l8 p1;have s1f:=s1.pi.lt;have s1t:=s8 L s1.le;exact⟨y,p1,rfl,s1.pi,by omega,by omega,fun h=>by omega,by omega,by omega,fun h=>by omega⟩
 rw[a9A,dZ,Cw];by_cases cb:bn q=1
 ·rw[f7 cb];exact fin
 ·rw[d9 cb];simp only[d6,D6,f9];obtain⟨b,h1,h2⟩:=F4 h [125];rw[h1,d6];cases b with
  |true=>exact fin
  |false=>obtain⟨x,p1,g1,s1⟩:=UP hL h 3;have s1a:=s1.le;have s1b:=s1.mono;have s1c:=s1.stay;have s1d:=s1.go;have s1e:=l8 p1;have s1f:=s1.pi.lt;have s1g:=s1.sz;have s1h:=s1.ne;have s1t:=s8 L s1.le;have s1x:=s1.tx;obtain⟨p2,g2,s2⟩:=I8 hL s1.pi [59];have s2a:=s2.le;have s2b:=s2.mono;have s2c:=s2.stay;have s2d:=s2.go;have s2e:=l8 p2;have s2f:=s2.pi.lt;have s2t:=s8 L s2.le;have hz:c.length+x.length≤100000000:=(by omega);rw[D6,f9,g1,d6,g2,d6,G9 (by decide) hz,d6];have hlt3:=Cl h s2.pi (by omega) (by omega);obtain⟨x',p',r,o⟩:=ih _ (by omega) p2 (c++x) rfl s2.pi (by omega) (by rw[o0];omega) (fun h=>by rw[Lm];omega);have oa:=o.le;have ob:=o.mono;have oc:=o.stay;exact⟨x',p',r,o.pi,by omega,by omega,fun h=>by omega,o.sz,o.ne,o.tx⟩
theorem a8l{L:List l6}(hL:Tk L){p:i6}(h:PI L p):∃x p',DG d5 p=some ((x,p',()),())∧Ok L 9 1 p x p':=by have hs:=hL.small;have tn:=N7;have ln:([]:b36).length=0:=rfl;have hlt:=h.lt;have hb:=l8 p;obtain⟨t,ht,ht2⟩:=X4 h;obtain⟨p1,g1,s1⟩:=I8 hL h [114,101,99];obtain⟨w,p2,g2,s2,s2w,s2l⟩:=Lo hL s1.pi 2 (by decide);obtain⟨p3,g3,s3⟩:=Dg hL s2.pi [123];have s1a:=s1.le;have s1b:=s1.mono;have s1c:=s1.stay;have s1d:=s1.go;have s1e:=l8 p1;have s1f:=s1.pi.lt;have s1t:=s8 L s1.le;have s2a:=s2.le;have s2b:=s2.mono;have s2c:=s2.stay;have s2d:=s2.go;have s2e:=l8 p2;have s2f:=s2.pi.lt;have s2t:=s8 L s2.le;have s3a:=s3.le;have s3b:=s3.mono;have s3c:=s3.stay;have s3d:=s3.go;have s3e:=l8 p3;have s3f:=s3.pi.lt;have s3t:=s8 L s3.le;obtain⟨x,p',r,o⟩:=a75 hL ((t,()),()) ((w,p2,()),()) (K9 h ht2) (iN p3) _ p3 [] rfl s3.pi (i4 _) (by simp) (fun h=>by omega);have oa:=o.le;have ob:=o.mono;have oc:=o.stay;have od:=o.sz;have oe:=o.ne;have of:=l8 p';have ot:=o.tx;simp only at ot;simp only[I6]at oc;rw[a4A,aQ,ht,d6,g1,d6,g2,d6,g3,d6];exact⟨x,p',r,o.pi,by omega,by omega,fun h=>by omega,fun h=>by omega,by omega,by omega,fun h=>by omega⟩
theorem JV{L:List l6}(hL:Tk L)(a:Int)(t:RT5)(w:J9)(htl:pl t.1.1.Ls=0){q:i6}(h:PI L q)(e f:List d7)(he:e.length+f.length≤20000000):∃x p',gM d5 a q t w e f=some ((x,p',()),())∧∃y,Ok L 3 1 q y p'∧x.length=e.length+f.length+y.length+1∧D9 x=w.1.1.Ds.length+(D9 e+D9 f+D9 y):=by have hs:=hL.small;have tn:=N7;have ln:([]:b36).length=0:=rfl;have hlt:=h.lt;obtain⟨y,p1,g1,s1⟩:=a9G hL h;have s1a:=s1.le;have s1b:=s1.mono;have s1c:=s1.stay;have s1d:=s1.go;have s1e:=l8 p1;have s1f:=s1.pi.lt;have s1g:=s1.sz;have s1h:=s1.ne;have s1t:=s8 L s1.le;have s1x:=s1.tx;have hz1:e.length+f.length≤50000000:=(by omega);obtain⟨u,k1,hu,hut⟩:=Dt e f hz1;have hz2:u.length+y.length≤50000000:=(by omega);obtain⟨v,k2,hv,hvt⟩:=Dt u y hz2;have hz3:v.length≤50000000:=(by omega);obtain⟨z,k3,hz,hzt⟩:=J2 4 t.1.1 w.1.1.Ds a v hz3 htl;rw[a0y,lG,g1,d6,k1,d6,k2,d6,k3];exact⟨z,p1,rfl,y,s1,by omega,by omega⟩
set_option maxHeartbeats 2000000 in
theorem a0D{L:List l6}(hL:Tk L)(t:RT5)(w:J9)(htl:pl t.1.1.Ls=0)(i0:Nat):∀(n:Nat) (a:Int) (q:i6) (c:List d7),mu L q=n→PI L q→i0≤iN q→c.length≤10*(iN q-i0)+4*bn q→(bn q=0→D9 c+tl L i0≤tl L (iN q))→∃x p',sL d5 a q t w c=some ((x,p',()),())∧Lq L i0 9 w.1.1.Ds.length q c x p':=by
 intro n;have hs:=hL.small;have tn:=N7;have ln:([]:b36).length=0:=rfl
 induction n using Nat.strongRecOn with
 |_ n ih=>
 intro a q c hn h h0 hc hct;have hlt:=h.lt;have hb:=l8 q;have fin:∃x p',Zn d5 a q t w c=some ((x,p',()),())∧Lq L i0 9 w.1.1.Ds.length q c x p':=by
  obtain⟨p1,g1,s1⟩:=Fa hL h [41];have s1a:=s1.le;have s1b:=s1.mono;have s1c:=s1.stay;have s1d:=s1.go;have s1e:=l8 p1;have s1f:=s1.pi.lt;have s1t:=s8 L s1.le;obtain⟨b,h1,h2⟩:=F4 s1.pi [58];rw[a1V,cV,g1,d6,h1,d6];cases b with
  |true=>obtain⟨p2,g2,s2⟩:=I8 hL s1.pi [58];have s2a:=s2.le;have s2b:=s2.mono;have s2c:=s2.stay;have s2d:=s2.go;have s2e:=l8 p2;have s2f:=s2.pi.lt;have s2t:=s8 L s2.le;obtain⟨k,p3,g3,s3⟩:=eZ hL _ p2 s2.pi rfl;have s3a:=s3.le;have s3b:=s3.mono;have s3c:=s3.stay;have s3d:=s3.go;have s3e:=l8 p3;have s3f:=s3.pi.lt;have s3g:=s3.sz;have s3h:=s3.ne;have s3t:=s8 L s3.le;have s3x:=s3.tx;have hz:c.length+k.length≤20000000:=(by omega);obtain⟨x,p',g4,y,s4,hy,hyt⟩:=JV hL a t w htl s3.pi c k hz;have s4a:=s4.le;have s4b:=s4.mono;have s4c:=s4.stay;have s4d:=s4.go;have s4e:=l8 p';have s4f:=s4.pi.lt;have s4g:=s4.sz;have s4h:=s4.ne;have s4t:=s8 L s4.le;have s4x:=s4.tx;rw[f9,g2,d6,g3,d6];have hg:=(h2 rfl).1;exact⟨x,p',g4,s4.pi,by omega,by omega,fun h=>by omega,by omega,by omega,fun h=>by omega⟩
  |false=>have hz:c.length+ [(d7.mk 14 0 0 0 0 ([]:b36))].length≤20000000:=(by rw[y7];omega);obtain⟨x,p',g4,y,s4,hy,hyt⟩:=JV hL a t w htl s1.pi c [(d7.mk 14 0 0 0 0 ([]:b36))] hz;have s4a:=s4.le;have s4b:=s4.mono;have s4c:=s4.stay;have s4d:=s4.go;have s4e:=l8 p';have s4f:=s4.pi.lt;have s4g:=s4.sz;have s4h:=s4.ne;have s4t:=s8 L s4.le;have s4x:=s4.tx;rw[y7]at hy;rw[wY]at hyt;simp only at hyt;have pl0:pl 0=0:=if_pos (by decide);rw[f6];exact⟨x,p',g4,s4.pi,by omega,by omega,fun h=>by omega,by omega,by omega,fun h=>by omega⟩
 rw[b1p,oD,Cw];by_cases cb:bn q=1
 ·rw[f7 cb];exact fin
 ·rw[d9 cb];simp only[d6,D6,f9];obtain⟨b,h1,h2⟩:=F4 h [41];rw[h1,d6];cases b with
  |true=>exact fin
  |false=>
   have body:∀q1,PI L q1→iN q≤iN q1→bn q≤bn q1→∃x p',aF d5 a q1 t w c=some ((x,p',()),())∧Lq L i0 9 w.1.1.Ds.length q c x p':=by intro q1 hq1 k1 k2;obtain⟨x,p2,g2,s2⟩:=UP hL hq1 5;have s2a:=s2.le;have s2b:=s2.mono;have s2c:=s2.stay;have s2d:=s2.go;have s2e:=l8 p2;have s2f:=s2.pi.lt;have s2g:=s2.sz;have s2h:=s2.ne;have s2t:=s8 L s2.le;have s2x:=s2.tx;have hb1:=l8 q1;have hq1lt:=hq1.lt;have kt:=s8 L k1;have hz:c.length+x.length≤100000000:=(by omega);rw[a4I,gQ,g2,d6,G9 (by decide) hz,d6];have hlt3:=Cl h s2.pi (by omega) (by omega);obtain⟨x',p',r,o⟩:=ih _ (by omega) (w64 (a+1)) p2 (c++x) rfl s2.pi (by omega) (by rw[o0];omega) (fun h=>by rw[Lm];omega);have oa:=o.le;have ob:=o.mono;have oc:=o.stay;exact⟨x',p',r,o.pi,by omega,by omega,fun h=>by omega,o.sz,o.ne,o.tx⟩
   rw[D6,f9];cases decide (a>0)with
   |false=>exact body q h (i4 _) (i4 _)
   |true=>obtain⟨p1,g1,s1⟩:=I8 hL h [44];rw[f9,g1,d6];exact body p1 s1.pi s1.le s1.mono
theorem a3q{L:List l6}(hL:Tk L){p:i6}(h:PI L p):∃x p',EB d5 p=some ((x,p',()),())∧Ok L 17 9 p x p':=by have hs:=hL.small;have tn:=N7;have ln:([]:b36).length=0:=rfl;have hlt:=h.lt;have hb:=l8 p;obtain⟨t,ht,ht2⟩:=X4 h;obtain⟨p1,g1,s1⟩:=I8 hL h [102,110];obtain⟨w,p2,g2,s2,s2w,s2l⟩:=Lo hL s1.pi 1 (by decide);obtain⟨p3,g3,s3⟩:=Dg hL s2.pi [40];have s1a:=s1.le;have s1b:=s1.mono;have s1c:=s1.stay;have s1d:=s1.go;have s1e:=l8 p1;have s1f:=s1.pi.lt;have s1t:=s8 L s1.le;have s2a:=s2.le;have s2b:=s2.mono;have s2c:=s2.stay;have s2d:=s2.go;have s2e:=l8 p2;have s2f:=s2.pi.lt;have s2t:=s8 L s2.le;have s3a:=s3.le;have s3b:=s3.mono;have s3c:=s3.stay;have s3d:=s3.go;have s3e:=l8 p3;have s3f:=s3.pi.lt;have s3t:=s8 L s3.le;obtain⟨x,p',r,o⟩:=a0D hL ((t,()),()) ((w,p2,()),()) (K9 h ht2) (iN p3) _ 0 p3 [] rfl s3.pi (i4 _) (by simp) (fun h=>by omega);have oa:=o.le;have ob:=o.mono;have oc:=o.stay;have od:=o.sz;have oe:=o.ne;have of:=l8 p';have ot:=o.tx;simp only at ot;simp only[I6]at oc;rw[a4d,fN,ht,d6,g1,d6,g2,d6,g3,d6];exact⟨x,p',r,o.pi,by omega,by omega,fun h=>by omega,fun h=>by omega,by omega,by omega,fun h=>by omega⟩
theorem b2F{L:List l6}(hL:Tk L):∀(n:Nat) (q:i6) (c:List d7),mu L q=n→PI L q→c.length≤10*iN q+20*bn q→(bn q=0→D9 c≤tl L (iN q))→∃x p',jV d5 q c=some ((x,p',()),())∧PI L p'∧1≤x.length∧x.length≤10*iN p'+21∧(bn p'=0→D9 x≤tl L (iN p')):=by
 intro n;have hs:=hL.small;have tn:=N7;have ln:([]:b36).length=0:=rfl
 induction n using Nat.strongRecOn with
 |_ n ih=>
 intro q c hn h hc hct;have hlt:=h.lt;have hb:=l8 q;have fin:∃x p',Zg d5 q c=some ((x,p',()),())∧PI L p'∧1≤x.length∧x.length≤10*iN p'+21∧(bn p'=0→D9 x≤tl L (iN p')):=by have hz:c.length≤50000000:=(by omega);obtain⟨y,g0,hy,hyt⟩:=J2 1 (l6.mk 0 1 1 0 ([]:b36)) [] 0 c hz (if_pos (by decide));rw[b1N,iR,g0];exact⟨y,q,rfl,h,by omega,by omega,fun h=>by omega⟩
 have body:∀(p1:i6) (x:List d7),bn q=0→PI L p1→iN q≤iN p1→(bn p1=1∨iN q<iN p1)→x.length≤10*(iN p1-iN q)+20*bn p1→(bn p1=0→D9 x+tl L (iN q)≤tl L (iN p1))→∃x' p',Ul d5 p1 c x=some ((x',p',()),())∧PI L p'∧1≤x'.length∧x'.length≤10*iN p'+21∧(bn p'=0→D9 x'≤tl L (iN p')):=by intro p1 x hg hp k1 k2 k3 k4;have hb1:=l8 p1;have hl1:=hp.lt;have hz:c.length+x.length≤100000000:=(by omega);rw[a6t,mA,G9 (by decide) hz,d6];have hlt3:=Cl h hp hg k2;exact ih _ (by omega) p1 (c++x) rfl hp (by rw[o0];omega) (fun h=>by rw[Lm];have:=hct hg;have:=k4 h;omega)
 rw[a6X,fO,Cw];by_cases cb:bn q=1
 ·rw[f7 cb];exact fin
 ·have hg:bn q=0:=(by omega);obtain⟨t,ht,ht2⟩:=X4 h;rw[d9 cb];simp only[d6,D6,f9];rw[ht];simp only[d6];by_cases c8:t.Ks=8
  ·rw[f7 c8];exact fin
  rw[d9 c8,D6,f9];obtain⟨b,h1,h2⟩:=F4 h [114,101,99];rw[h1,d6];cases b with
  |true=>obtain⟨x,p1,g1,s1⟩:=a8l hL h;have s1a:=s1.le;have s1b:=s1.mono;have s1c:=s1.stay;have s1d:=s1.go;have s1e:=l8 p1;have s1f:=s1.pi.lt;have s1g:=s1.sz;have s1h:=s1.ne;have s1t:=s8 L s1.le;have s1x:=s1.tx;rw[f9,g1,d6];exact body p1 x hg s1.pi (by omega) (by omega) (by omega) s1x
  |false=>
   obtain⟨b,h1,h2⟩:=F4 h [102,110];rw[f6,h1,d6];cases b with
   |true=>obtain⟨x,p1,g1,s1⟩:=a3q hL h;have s1a:=s1.le;have s1b:=s1.mono;have s1c:=s1.stay;have s1d:=s1.go;have s1e:=l8 p1;have s1f:=s1.pi.lt;have s1g:=s1.sz;have s1h:=s1.ne;have s1t:=s8 L s1.le;have s1x:=s1.tx;rw[f9,g1,d6];exact body p1 x hg s1.pi (by omega) (by omega) (by omega) s1x
   |false=>obtain⟨p1,g1,s1,hb1⟩:=Iz h 5 (by decide);have s1a:=s1.le;have s1b:=s1.mono;have s1c:=s1.stay;have s1d:=s1.go;have s1e:=l8 p1;have s1f:=s1.pi.lt;have s1t:=s8 L s1.le;rw[f6,g1,d6];exact body p1 [] hg s1.pi (by omega) (by omega) (by simp) (fun h=>by omega)
theorem b0a{L:List l6}(x:List d7){p:i6}(h:PI L p):∃y f,zE d5 x p=some ((y,f,()),())∧(y=x∧bn p=0∨y=[]):=by
 obtain⟨t,ht,ht2⟩:=X4 h;have j0:∀q,bn p≤bn q→∃y f,dX d5 x q=some ((y,f,()),())∧(y=x∧bn p=0∨y=[]):=by
  intro q hpq;rw[a2j,eH,Cw];have hbq:=l8 q;by_cases c:bn q=1
  ·rw[f7 c];exact⟨_,_,rfl,.inr rfl⟩
  ·rw[d9 c];exact⟨_,_,rfl,.inl ⟨rfl,by omega⟩⟩
 rw[b03,nQ,ht];simp only[d6];cases decide (t.Ks=8)with
 |true=>exact j0 p (i4 _)
 |false=>obtain⟨p1,g1,s1,hb1⟩:=Iz h 5 (by decide);rw[D6,f9,g1];exact j0 p1 s1.mono
theorem b1A{s:b36}{L:List l6}{f:x8}(hT:tU d5 s=some ((L,f,()),()))(hL:f.Code=0→Tk L∧0<L.length∧∀t∈L,pl t.Ls=0):∃x f',oI d5 s=some ((x,f',()),())∧x.length≤10*L.length+21∧D9 x≤tl L L.length:=by
 rw[a64,lP,hT];simp only[d6];by_cases c:f.Code=0
 ·rw[f7 c];obtain⟨h1,h2,h3⟩:=hL c;obtain⟨x,p,g1,hp,hx,hx2,hx3⟩:=b2F h1 _ ⟨L,0,0,⟨0,0,0⟩⟩ [] rfl ⟨rfl,rfl,h2,h3⟩ (by simp) (fun _=>by rw[N7];exact D0 _);obtain⟨y,f',g2,hy⟩:=b0a x hp;have hlt:=hp.lt;rw[A4,f6,a4s,aJ,g1,d6,g2];refine⟨y,f',rfl,?_⟩;have hm:=s8 L (Nat.le_of_lt hlt);rcases hy with⟨rfl,hb⟩|rfl
  ·exact⟨by omega,by have:=hx3 hb;omega⟩
  ·exact⟨by simp,by rw[N7];omega⟩
 ·rw[d9 c];exact⟨_,_,rfl,by simp,by rw[N7];omega⟩
theorem U4{p:Prop} [Decidable p](h:p):okP p=some ():=if_pos h
theorem z8{i:Nat}(h:i≤1000000000000):w64 ((i:Int)+1)=((i+1:Nat):Int):=by rw[wrap64 (by omega) (by omega)];omega
theorem KT(s:b36)(hs:s.length≤65536):∀(m i:Nat) (c:Bool),s.length-i=m→i≤s.length→∃k:Nat,Cg d5 s (i:Int) c=some (((k:Int),()),())∧i≤k∧k≤s.length:=by
 intro m
 induction m with
 |zero=>intro i c hm hi;rw[MJ,Qb1,d9 (by omega),a5E,Qb4];exact⟨i,rfl,by omega,by omega⟩
 |succ m ih=>
  intro i c hm hi;have hil:i<s.length:=(by omega);have next:∀c',∃k:Nat,Cg d5 s ((i+1:Nat):Int) c'=some (((k:Int),()),())∧i≤k∧k≤s.length:=fun c'=>by obtain⟨k,h1,h2,h3⟩:=ih (i+1) c' (by omega) (by omega);exact⟨k,h1,by omega,h3⟩
  have j1:∀c',∃k:Nat,cH d5 s (i:Int) c' s[i]=some (((k:Int),()),())∧i≤k∧k≤s.length:=by
   intro c';rw[b0r,Qb2,z8 (by omega)];cases c' with
   |true=>exact next true
   |false=>
    rw[D6,f9];cases decide ((s[i].toNat:Int)=32)with
    |true=>exact next false
    |false=>
     rw[D6,f9];cases decide ((s[i].toNat:Int)=9)with
     |true=>exact next false
     |false=>
      rw[D6,f9];cases decide ((s[i].toNat:Int)=13)with
      |true=>exact next false
      |false=>
       rw[D6,f9];cases decide ((s[i].toNat:Int)=10)with
       |true=>exact next false
       |false=>exact⟨i,rfl,by omega,by omega⟩
  have j2:∀c',∃k:Nat,sN d5 s (i:Int) c' s[i]=some (((k:Int),()),())∧i≤k∧k≤s.length:=by
   intro c';rw[ZA,Qb3];cases decide ((s[i].toNat:Int)=10)with
   |true=>exact j1 false
   |false=>exact j1 c'
  rw[MJ,Qb1,f7 (by omega),f9,l5 hil,d6];cases decide ((s[i].toNat:Int)=35)with
  |true=>exact j2 true
  |false=>exact j2 c
theorem a13(s:b36)(n:Nat)(hn:n≤s.length)(hs:s.length≤65536):∀(m i:Nat) (c d:Int),n-i=m→0≤c→c≤i+1→i≤n→∃x y,Qb d5 s (n:Int) c d (i:Int)=some ((x,y,()),())∧0≤x∧x≤(n:Int)+1:=by
 intro m
 induction m with
 |zero=>intro i c d hm h0 h1 h2;rw[GP,Qb6,d9 (by omega),b2f,Qb7];exact⟨_,_,rfl,h0,by omega⟩
 |succ m ih=>
  intro i c d hm h0 h1 h2;have hil:i<s.length:=(by omega);have e1:w64 (c+1)=c+1:=wrap64 (by omega) (by omega);rw[GP,Qb6,f7 (by omega),f9,l5 hil,d6,z8 (by omega)];cases decide ((s[i].toNat:Int)=10)with
  |true=>exact ih (i+1) _ _ (by omega) (by omega) (by omega) (by omega)
  |false=>exact ih (i+1) _ _ (by omega) (by omega) (by omega) (by omega)
theorem zA(a:Int):∃k:Int,Gl d5 a=some ((k,()),())∧0≤k∧k≤3:=by
 have j2:∃k:Int,sY d5=some ((k,()),())∧0≤k∧k≤3:=⟨0,b1V,by omega,by omega⟩;have j0:∃k:Int,Ze d5 a=some ((k,()),())∧0≤k∧k≤3:=by
  rw[YV,Qb9];cases decide (a≥48)with
  |false=>exact j2
  |true=>
   rw[f9];cases decide (a≤57)with
   |false=>exact j2
   |true=>exact⟨3,rfl,by omega,by omega⟩
 have j1:∃k:Int,Th d5 a=some ((k,()),())∧0≤k∧k≤3:=by
  rw[a60,kT];cases decide (a≥65)with
  |false=>exact j0
  |true=>
   rw[f9];cases decide (a≤90)with
   |false=>exact j0
   |true=>exact⟨2,rfl,by omega,by omega⟩
 have j3:∃k:Int,(cond (decide (a=95)) (some ((1,()),())) ((Th d5 a)))=some ((k,()),())∧0≤k∧k≤3:=by
  cases decide (a=95)with
  |false=>exact j1
  |true=>exact⟨1,rfl,by omega,by omega⟩
 rw[a2o,Qb8];cases decide (a≥97)with
 |false=>exact j3
 |true=>
  rw[f9];cases decide (a≤122)with
  |false=>exact j3
  |true=>exact⟨1,rfl,by omega,by omega⟩
theorem KO(s:b36)(hs:s.length≤65536):∀(m i:Nat),s.length-i=m→i≤s.length→∃k:Nat,jO d5 s (i:Int)=some (((k:Int),()),())∧i≤k∧k≤s.length∧∀(h:i<s.length) (q:Int),Gl d5 (s[i].toNat:Int)=some ((q,()),())→0<q→i<k:=by
 intro m
 induction m with
 |zero=>intro i hm hi;rw[QY,Yf,d9 (by omega),JN,Tb];exact⟨i,rfl,by omega,by omega,fun h=>by omega⟩
 |succ m ih=>
  intro i hm hi;have hil:i<s.length:=(by omega);obtain⟨q,hq,hq0,_⟩:=zA (s[i].toNat:Int);rw[QY,Yf,f7 (by omega),f9,l5 hil,d6,hq,d6,z8 (by omega)];by_cases c:q>0
  ·rw[f7 c,f9];obtain⟨k,h1,h2,h3,_⟩:=ih (i+1) (by omega) (by omega);exact⟨k,h1,by omega,h3,fun _ _ _ _=>by omega⟩
  ·rw[d9 c,f6,JN,Tb];refine⟨i,rfl,by omega,by omega,fun _ q' h1 h2=>?_⟩;rw[hq]at h1;cases h1;omega
theorem a2l(a b:b36)(hb:b.length≤65536):∀(m i:Nat) (c:Int),b.length-i=m→∃x y,nX d5 a b c (i:Int)=some ((x,y,()),()):=by
 intro m
 induction m with
 |zero=>
  intro i c hm;rw[SB,Ux,d9 (by omega),f6,a2p,bX];cases decide ((a.length:Int)>(b.length:Int))with
  |false=>exact⟨_,_,rfl⟩
  |true=>rw[f9,b2m,bT,xOf,d6,d6];simp only;rw[b3d,lV,a1a,d6,d6];simp only;rw[YU,cU,b24];exact⟨_,_,rfl⟩
 |succ m ih=>intro i c hm;have hil:i<b.length:=(by omega);rw[SB,Ux,f7 (by omega),f9,l5 hil,d6,z8 (by omega)];exact ih (i+1) _ (by omega)
theorem a3G(a b:b36)(hb:b.length≤65536):∃x y,AP d5 a b=some ((x,y,()),()):=by
 have j5:∃x y,oW d5 a b=some ((x,y,()),()):=by rw[ZE,gA];exact a2l a b hb _ 0 0 rfl
 have j6:∀c,∃x y,kO d5 a b c=some ((x,y,()),()):=by
  intro c;rw[a3Y,rD];cases decide ((b.length:Int)>(c.length:Int))with
  |true=>exact⟨_,_,rfl⟩
  |false=>
   rw[f6];cases decide ((b.length:Int)=(c.length:Int))with
   |false=>exact j5
   |true=>
    rw[f9];cases(!(Op.bytesLess b c||decide (b=c)))with
    |true=>exact⟨_,_,rfl⟩
    |false=>exact j5
 rw[b3w,kU];cases decide ((a.length:Int)>(b.length:Int))with
 |true=>exact j6 _
 |false=>exact j6 _
theorem a3L(a b:b36)(hb:b.length≤65536):∀(m i:Nat),b.length-i=m→∃x y,Zp d5 a b (i:Int)=some ((x,y,()),()):=by
 intro m
 induction m with
 |zero=>intro i hm;rw[VN,Wy,d9 (by omega),f6];exact a3G a b hb
 |succ m ih=>
  intro i hm;have hil:i<b.length:=(by omega);rw[VN,Wy,f7 (by omega),f9,l5 hil,d6,d6,z8 (by omega)];cases decide ((b[i].toNat:Int)<48)with
  |true=>exact⟨_,_,rfl⟩
  |false=>
   rw[f6];cases decide ((b[i].toNat:Int)>57)with
   |true=>exact⟨_,_,rfl⟩
   |false=>exact ih (i+1) (by omega)
theorem a0t(a:b36)(ha:a.length≤65536):∃x y,DB d5 a=some ((x,y,()),()):=by
 have j2:∀b:b36,b.length≤65536→∃x y,Qr d5 a b=some ((x,y,()),()):=by
  intro b hb;have j1:∃x y,aM d5 a b=some ((x,y,()),()):=(by rw[a6P,rW];exact a3L a b hb _ 0 rfl);rw[b2U,eY];by_cases c:(b.length:Int)=0
  ·rw[f7 c];exact⟨_,_,rfl⟩
  ·have h0:0<b.length:=(by omega);rw[d9 c,f6,show f5 b 0=some b[0]from l5 (i:=0) h0,d6];cases decide ((b[0].toNat:Int)=48)with
   |false=>exact j1
   |true=>
    rw[f9];cases decide ((a.length:Int)>1)with
    |true=>exact⟨_,_,rfl⟩
    |false=>exact j1
 rw[b0m,eX];by_cases c:(a.length:Int)>0
 ·have h0:0<a.length:=(by omega);rw[f7 c,f9,show f5 a 0=some a[0]from l5 (i:=0) h0,d6];cases decide ((a[0].toNat:Int)=45)with
  |false=>exact j2 a ha
  |true=>rw[f9,U4 (show D2 1 (a.length:Int) (a.length:Int)from⟨by omega,by omega,O7 _⟩),d6];exact j2 _ (by rw[(Lf a 1 a.length ⟨by omega,by omega,O7 _⟩).1];omega)
 ·rw[d9 c];exact j2 a ha
def Hi(n i:Nat)(r:b33):Prop:=∃(bs:b36) (k:Int) (ok:Bool),r=some ((bs,k,ok,()),())∧(ok=true→∃kn:Nat,k=(kn:Int)∧i<kn∧kn≤n∧bs.length≤kn)
theorem Hi.mono{n i j:Nat}{r:b33}(h:Hi n j r)(hij:i≤j):Hi n i r:=by obtain⟨bs,k,ok,h1,h2⟩:=h;exact⟨bs,k,ok,h1,fun h=>by obtain⟨kn,e1,e2,e3,e4⟩:=h2 h;exact⟨kn,e1,by omega,e3,e4⟩⟩
theorem Bw(n i:Nat)(bs:b36)(k:Int):Hi n i (some ((bs,k,false,()),())):=⟨_,_,_,rfl,fun h=>nomatch h⟩
theorem TG(a:Int)(h0:0≤a)(h1:a<256):∃v,Ut d5 a=some ((v,()),()):=by
 have j2:∃v,kD d5=some ((v,()),()):=⟨_,a0K⟩;have j0:∃v,fY d5 a=some ((v,()),()):=by
  rw[a32,iO];cases decide (a≥65)with
  |false=>exact j2
  |true=>
   rw[f9];cases decide (a≤70)with
   |false=>exact j2
   |true=>exact⟨_,rfl⟩
 have j1:∃v,mQ d5 a=some ((v,()),()):=by
  rw[a7k,gK];cases decide (a≥97)with
  |false=>exact j0
  |true=>
   rw[f9];cases decide (a≤102)with
   |false=>exact j0
   |true=>exact⟨_,rfl⟩
 rw[b0E,nR];cases decide (a≥48)with
 |false=>exact j1
 |true=>
  rw[f9];cases decide (a≤57)with
  |false=>exact j1
  |true=>exact⟨_,rfl⟩
theorem b0O(n:Int):0≤IntKind.wrap .u8 n∧IntKind.wrap .u8 n<256:=by have:IntKind.wrap .u8 n=n%256:=rfl;omega
theorem JG{c:List Int}(h:∀x∈c,0≤x∧x<256):Qz c=some ():=if_pos h
theorem a6I{c:List Int}(h:∀x∈c,0≤x∧x<256)(y:Int)(hy:0≤y∧y<256):∀x∈c++[y],0≤x∧x<256:=by
 intro x hx;rcases A8.1 hx with hx|hx
 ·exact h x hx
 ·rw[N9.1 hx];exact hy
theorem Oi(x:UInt8):0≤(x.toNat:Int)∧(x.toNat:Int)<256:=by have:=x.toNat_lt;omega
theorem a5X(s:b36)(hs:s.length≤65536):∀(m i:Nat) (c:List Int),s.length-i=m→(∀x∈c,0≤x∧x<256)→c.length≤i→Hi s.length i (rM d5 s (i:Int) c):=by
 intro m
 induction m using Nat.strongRecOn with
 |_ m ih=>
 intro i c hm hc hl;rw[b1K,mR];by_cases ci:i<s.length
 ·have e1:=z8 (i:=i) (by omega);have go:∀(j:Nat) (y:Int),i≤j→j≤65600→0≤y∧y<256→Hi s.length i ((y9 1 c ([y]:List Int)).bind fun e=>Jf d5 s (j:Int) e):=by
   intro j y hij hj hy;have hz:c.length+ [y].length≤100000000:=(by rw[y7];omega);rw[G9 (by decide) hz,d6,a5u,Yz,z8 (by omega)];by_cases cj:s.length-(j+1)<m
   ·exact(ih _ cj (j+1) _ rfl (a6I hc y hy) (by rw[o0,y7];omega)).mono (by omega)
   ·omega
  rw[f7 (by omega),f9,l5 ci,d6,e1];cases decide ((s[i].toNat:Int)<32)with
  |true=>exact Bw _ _ _ _
  |false=>
  rw[f6];cases decide ((s[i].toNat:Int)>126)with
  |true=>exact Bw _ _ _ _
  |false=>
  rw[f6];cases decide ((s[i].toNat:Int)=34)with
  |true=>rw[f9,JG hc];exact⟨_,_,_,rfl,fun _=>⟨i+1,rfl,by omega,by omega,by unfold y6;rw[F9];omega⟩⟩
  |false=>
  rw[f6];cases decide ((s[i].toNat:Int)=92)with
  |false=>exact go i _ (i4 _) (by omega) (Oi _)
  |true=>
  rw[A4,f6];by_cases c1:i+1<s.length
  ·rw[d9 (by omega),f6,l5 c1,d6];have j1:Hi s.length i (bR d5 s (i:Int) c):=by rw[a3F,rA,e1,l5 c1,d6];exact go (i+1) _ (by omega) (by omega) (Oi _)
   cases decide ((s[i+1].toNat:Int)=34)with
   |true=>exact j1
   |false=>
   rw[f6];cases decide ((s[i+1].toNat:Int)=92)with
   |true=>exact j1
   |false=>
   rw[f6];cases decide ((s[i+1].toNat:Int)=110)with
   |true=>exact go (i+1) 10 (by omega) (by omega) (by decide)
   |false=>
   rw[f6];cases decide ((s[i+1].toNat:Int)=116)with
   |true=>exact go (i+1) 9 (by omega) (by omega) (by decide)
   |false=>
   rw[f6];cases decide ((s[i+1].toNat:Int)=120)with
   |false=>exact Bw _ _ _ _
   |true=>
    rw[f9];have e2:w64 (((i+1:Nat):Int)+1)=((i+2:Nat):Int):=z8 (by omega);have e3:w64 (((i+1:Nat):Int)+2)=((i+3:Nat):Int):=(by rw[wrap64 (by omega) (by omega)];omega);have e4:w64 ((1:Int)+1)=2:=rfl;have e5:w64 ((2:Int)+1)=3:=rfl;rw[uK,Pm,f7 (by decide),f9,e1,e2,e4];by_cases c2:i+2<s.length
    ·obtain⟨v,hv⟩:=TG (s[i+2].toNat:Int) (Oi _).1 (Oi _).2;rw[d9 (by omega),f6,l5 c2,d6,hv,d6];cases decide (v<0)with
     |true=>exact Bw _ _ _ _
     |false=>
     rw[f6,uK,Pm,f7 (by decide),f9,e1,e3,e5];by_cases c3:i+3<s.length
     ·obtain⟨u,hu⟩:=TG (s[i+3].toNat:Int) (Oi _).1 (Oi _).2;rw[d9 (by omega),f6,l5 c3,d6,hu,d6];cases decide (u<0)with
      |true=>exact Bw _ _ _ _
      |false=>
      rw[f6,uK,Pm,d9 (by decide),f6,a1s,oH,e1,e2,e3,l5 c2,d6,hv,d6,l5 c3,d6,hu,d6];exact go (i+3) _ (by omega) (by omega) (b0O _)
     ·rw[f7 (by omega)];exact Bw _ _ _ _
    ·rw[f7 (by omega)];exact Bw _ _ _ _
  ·rw[f7 (by omega)];exact Bw _ _ _ _
 ·rw[d9 (by omega),f6,a5I,dW];exact Bw _ _ _ _
theorem a7s(s:b36)(hs:s.length≤65536):Hi s.length 0 (FY d5 s):=by
 rw[a2e,dC];by_cases c:(s.length:Int)=0
 ·rw[f7 c];exact Bw _ _ _ _
 ·have h0:0<s.length:=(by omega);rw[d9 c,f6,show f5 s 0=some s[0]from l5 (i:=0) h0,d6];cases decide ((s[0].toNat:Int)=34)with
  |false=>exact Bw _ _ _ _
  |true=>rw[A4,f6];exact(a5X s hs _ 1 [] rfl (fun x hx=>nomatch hx) (by simp)).mono (by omega)
def Am(n i:Nat)(r:b3X):Prop:=∃(t:l6) (k e:Int),r=some ((t,k,e,()),())∧(e=0→∃kn:Nat,k=(kn:Int)∧i<kn∧kn≤n∧t.Ds.length+i≤kn)
theorem Uv(n i:Nat)(t:l6)(k e:Int)(he:e≠0):Am n i (some ((t,k,e,()),())):=⟨_,_,_,rfl,fun h=>absurd h he⟩
theorem Jp(n i k:Nat)(t:l6)(h1:i<k)(h2:k≤n)(h3:t.Ds.length+i≤k):Am n i (some ((t,(k:Int),0,()),())):=⟨_,_,_,rfl,fun _=>⟨k,rfl,h1,h2,h3⟩⟩
theorem yI(s:b36)(hs:s.length≤65536)(i b c d:Nat)(hbc:b≤c)(hc:c≤s.length)(hd:i<d)(hd2:d≤s.length)(e f:Int):Am s.length i (lA d5 s (b:Int) (c:Int) (((d:Int),()),()) e f):=by
 have hcut:D2 (b:Int) (c:Int) (s.length:Int):=⟨by omega,by omega,by omega⟩;obtain⟨x,y,h1⟩:=a0t (y8 s (b:Int) (c:Int)) (by rw[(Lf s b c hcut).1];omega);rw[b3E,bG,U4 hcut,d6,h1,d6];cases decide (y=0)with
 |false=>exact Uv _ _ _ _ _ (by decide)
 |true=>
  rw[A4,f6];cases decide (x>e)with
  |true=>exact Uv _ _ _ _ _ (by decide)
  |false=>exact Jp _ _ _ _ hd hd2 (by simp;omega)
theorem a6d(s:b36)(hs:s.length≤65536)(i c d:Nat)(hc:c≤s.length)(hd:i<d)(hd2:d≤s.length)(e f:Int):∀(m b:Nat),c-b=m→b≤c→Am s.length i (aY d5 s (b:Int) (c:Int) (((d:Int),()),()) e f):=by
 intro m
 induction m with
 |zero=>intro b hm hb;rw[WZ,Sp,wrap64 (by omega) (by omega),d9 (by omega)];exact yI s hs i b c d hb hc hd hd2 e f
 |succ m ih=>
  intro b hm hb;rw[WZ,Sp,wrap64 (n:=(c:Int)-1) (by omega) (by omega)];by_cases c1:(b:Int)<(c:Int)-1
  ·have hbl:b<s.length:=(by omega);rw[f7 c1,f9,l5 hbl,d6,z8 (by omega)];cases decide ((s[b].toNat:Int)=48)with
   |true=>exact ih (b+1) (by omega) (by omega)
   |false=>exact yI s hs i b c d hb hc hd hd2 e f
  ·rw[d9 c1];exact yI s hs i b c d hb hc hd hd2 e f
theorem a6m(s:b36)(hs:s.length≤65536)(i:Nat)(hi:i<s.length)(hk:Gl d5 (s[i].toNat:Int)=some ((3,()),())):∀(m c:Nat),s.length-c=m→i≤c→c≤s.length→Am s.length i (kH d5 s (i:Int) (c:Int)):=by
 intro m;have j1:∀c:Nat,i<c→c≤s.length→Am s.length i (lH d5 s (i:Int) (c:Int)):=by
  intro c hic hcl;obtain⟨k,g1,g2,g3,g4⟩:=KO s hs _ c rfl hcl;have j3:∀e f:Int,Am s.length i (bI d5 s (i:Int) (c:Int) (((k:Int),()),()) e f):=by intro e f;rw[a6J,cT];exact a6d s hs i c k hcl (by omega) g3 e f _ i rfl (by omega)
  have j4:Am s.length i (rH d5 s (i:Int) (c:Int) (((k:Int),()),())):=by
   rw[b0f,pS];simp only;cases decide ((k:Int)=(c:Int))with
   |false=>exact Uv _ _ _ _ _ (by decide)
   |true=>exact j3 _ _
  rw[a8k,lX,WQ,Ro,g1,d6,z8 (by omega)];by_cases ck:k=c+1
  ·have hcl2:c<s.length:=(by omega);rw[f7 (by simp only;omega),f9,l5 hcl2,d6];cases decide ((s[c].toNat:Int)=105)with
   |true=>exact j3 _ _
   |false=>exact j4
  ·rw[d9 (by simp only;omega)];exact j4
 induction m with
 |zero=>intro c hm hic hcl;rw[PQ,Uz,d9 (by omega)];exact j1 c (by omega) hcl
 |succ m ih=>
  intro c hm hic hcl;have hc:c<s.length:=(by omega);obtain⟨q,hq,_⟩:=zA (s[c].toNat:Int);rw[PQ,Uz,f7 (by omega),f9,l5 hc,d6,hq,d6,z8 (by omega)];by_cases c3:q=3
  ·rw[f7 c3];exact ih (c+1) (by omega) (by omega) (by omega)
  ·rw[d9 c3];refine j1 c ?_ hcl;by_cases e:i=c
   ·subst e;rw[hk]at hq;cases hq;exact absurd rfl c3
   ·omega
theorem a5Y(a:b36)(W:List (b36))(hW:W.length≤1000)(hd:W=([([114,101,99]:b36),([102,110]:b36),([118,97,114]:b36),([105,102]:b36),([101,108,115,101]:b36),([119,104,105,108,101]:b36),([114,101,116,117,114,110]:b36),([112,114,105,110,116]:b36),([116,114,117,101]:b36),([102,97,108,115,101]:b36),([110,105,108]:b36),([109,97,107,101]:b36),([105,110,116]:b36),([98,111,111,108]:b36),([115,116,114]:b36),([99,111,109,112]:b36)]:List (b36))):∀(m i:Nat),W.length-i=m→∃b,kM d5 a (i:Int)=some ((b,()),()):=by
 intro m
 induction m with
 |zero=>intro i hm;rw[JO,Tn,←hd,d9 (by omega),ZS,gO];exact⟨_,rfl⟩
 |succ m ih=>
  intro i hm;have hi:i<W.length:=(by omega);have e:=ih (i+1) (by omega);rw[JO,Tn,←hd,f7 (by omega),f9,l5 hi,d6,E5,p9 hi,d6,z8 (by omega)];cases decide (W[i]=a)with
  |true=>exact⟨_,rfl⟩
  |false=>exact e
theorem b0T(a:b36):∃b,DF d5 a=some ((b,()),()):=by rw[b2C,eR];exact a5Y a _ (by decide) rfl _ 0 rfl
theorem b2B(s:b36)(hs:s.length≤65536)(i:Nat)(hi:i<s.length)(G:b36)(hG:G.length≤1000)(hd:G=([43,45,42,47,37,60,62,33,61,40,41,123,125,91,93,44,59,58,46]:b36)):∀(m c:Nat),G.length-c=m→Am s.length i (oY d5 s (i:Int) (c:Int)):=by
 intro m
 induction m with
 |zero=>intro c hm;rw[IF,Ri,←hd,d9 (by omega),b1W,lK];exact Uv _ _ _ _ _ (by decide)
 |succ m ih=>
  intro c hm;have hc:c<G.length:=(by omega);have e:=ih (c+1) (by omega);rw[IF,Ri,←hd,f7 (by omega),f9,l5 hi,d6,l5 hc,d6,z8 (by omega)];cases decide ((s[i].toNat:Int)=(G[c].toNat:Int))with
  |false=>exact e
  |true=>rw[f9,U4 (show D2 (c:Int) ((c+1:Nat):Int) (G.length:Int)from⟨by omega,by omega,by omega⟩),d6,z8 (by omega)];have hl:=(Lf G (c:Int) ((c+1:Nat):Int) ⟨by omega,by omega,by omega⟩).1;exact Jp _ _ _ _ (by omega) (by omega) (by simp only;omega)
theorem a35(s:b36)(hs:s.length≤65536)(i:Nat)(hi:i<s.length)(V:List (b36))(hV:V.length≤1000)(hV2:∀v∈V,v.length≤2)(hd:V=([([38,38]:b36),([124,124]:b36),([61,61]:b36),([33,61]:b36),([60,61]:b36),([62,61]:b36)]:List (b36))):∀(m c:Nat),V.length-c=m→Am s.length i (Sq d5 s (i:Int) (c:Int)):=by
 have e2:w64 ((i:Int)+2)=((i+2:Nat):Int):=(by rw[wrap64 (by omega) (by omega)];omega);intro m
 induction m with
 |zero=>intro c hm;rw[GM,Sc,←hd,d9 (by omega),f6,a63,lU];exact b2B s hs i hi _ (by decide) rfl _ 0 rfl
 |succ m ih=>
  intro c hm;have hc:c<V.length:=(by omega);have e:=ih (c+1) (by omega);rw[GM,Sc,←hd,f7 (by omega),f9,e2,z8 (i:=c) (by omega)];by_cases c2:((i+2:Nat):Int)≤(s.length:Int)
  ·rw[f7 c2,f9,U4 (show D2 (i:Int) ((i+2:Nat):Int) (s.length:Int)from⟨by omega,by omega,c2⟩),d6,l5 hc,d6,E5,p9 hc,d6];cases decide (y8 s (i:Int) ((i+2:Nat):Int)=V[c])with
   |false=>exact e
   |true=>rw[f9,d6,d6];have hl:=hV2 _ (B0 hc);exact Jp _ _ _ _ (by omega) (by omega) (by simp only;omega)
  ·rw[d9 c2];exact e
theorem IL(s:b36)(hs:s.length≤65536)(i:Nat)(hi:i<s.length):Am s.length i (Yu d5 s (i:Int)):=by
 obtain⟨q,hq,hq0,hq3⟩:=zA (s[i].toNat:Int);have j0:0<q→Am s.length i (Zz d5 s (i:Int)):=by
  intro hp;obtain⟨k,g1,g2,g3,g4⟩:=KO s hs _ i rfl (by omega);have hik:=g4 hi q hq hp;have hcut:D2 (i:Int) (k:Int) (s.length:Int):=⟨by omega,by omega,by omega⟩;obtain⟨b,hb⟩:=b0T (y8 s (i:Int) (k:Int));rw[a9T,qY,WQ,Ro,g1,d6,U4 hcut,d6,l5 hi,d6,hq,d6];have hcl:=(Lf s (i:Int) (k:Int) hcut).1;cases decide (q=2)with
  |true=>exact Jp _ _ _ _ hik g3 (by simp only;omega)
  |false=>
   rw[f6,hb,d6];cases b with
   |true=>exact Jp _ _ _ _ hik g3 (by simp only;omega)
   |false=>exact Jp _ _ _ _ hik g3 (by simp only;omega)
 rw[a2u,mO,l5 hi,d6,hq,d6];by_cases c1:q=1
 ·rw[f7 c1];exact j0 (by omega)
 by_cases c2:q=2
 ·rw[d9 c1,f6,f7 c2];exact j0 (by omega)
 rw[d9 c1,f6,d9 c2,f6];by_cases c3:q=3
 ·rw[f7 c3,f9,a1E,bP];subst c3;obtain⟨t,k,e,h1,h2⟩:=a6m s hs i hi hq _ i rfl (i4 _) (by omega);rw[h1];exact⟨t,k,e,rfl,h2⟩
 rw[d9 c3,f6,d6];cases decide ((s[i].toNat:Int)=34)with
 |false=>exact a35 s hs i hi _ (by decide) (by decide) rfl _ 0 rfl
 |true=>
  have hcut:D2 (i:Int) (s.length:Int) (s.length:Int):=⟨by omega,by omega,O7 _⟩;have hcl:=(Lf s (i:Int) (s.length:Int) hcut).1;obtain⟨bs,k,ok,h1,h2⟩:=a7s (y8 s (i:Int) (s.length:Int)) (by rw[hcl];omega);rw[f9,U4 hcut,d6,h1,d6];cases ok with
  |false=>exact Uv _ _ _ _ _ (by decide)
  |true=>obtain⟨kn,rfl,e1,e2,e4⟩:=h2 rfl;have e3:w64 ((i:Int)+(kn:Int))=((i+kn:Nat):Int):=(by rw[wrap64 (by omega) (by omega)];omega);simp only[A4,f6,e3];exact Jp _ _ _ _ (by omega) (by omega) (by simp only;omega)
def ts(l:List l6):Nat:=(l.map fun t=>t.Ds.length).sum
theorem LN(l:List l6)(t:l6):ts (l++[t])=ts l+t.Ds.length:=by unfold ts;rw[G0,Yx];simp
theorem a3u(l:List l6):tl l l.length=ts l:=by unfold tl ts;rw[List.take_length]
def tln(L:List l6):Prop:=∀t∈L,pl t.Ls=0
theorem PE{L:List l6}(h:tln L)(t:l6)(ht:pl t.Ls=0):tln (L++[t]):=fun x hx=>by
 rcases A8.1 hx with h1|h1
 ·exact h x h1
 ·rw[N9.1 h1];exact ht
theorem b2h(s:b36)(hs:s.length≤65536):∀(m b c:Nat) (d e:Int) (l:List l6),s.length-b=m→b≤s.length→c≤b→l.length≤b→ts l≤b→0≤d→d≤c+1→tln l→∃L f,tX d5 s (b:Int) (c:Int) d e l=some ((L,f,()),())∧(f.Code=0→Tk L∧0<L.length∧tln L)∧L.length≤s.length+1∧ts L≤s.length:=by
 intro m
 induction m using Nat.strongRecOn with
 |_ m ih=>
 intro b c d e l hm hb hcb hl hlt hd0 hd1 hln;have hcut:D2 (c:Int) (s.length:Int) (s.length:Int):=⟨by omega,by omega,O7 _⟩;have hcl:=(Lf s (c:Int) (s.length:Int) hcut).1;have e0:w64 ((b:Int)-(c:Int))=((b-c:Nat):Int):=(by rw[wrap64 (by omega) (by omega)];omega);obtain⟨x,y,hp,x0,x1⟩:=a13 (y8 s (c:Int) (s.length:Int)) (b-c) (by rw[hcl];omega) (by rw[hcl];omega) _ 0 1 1 rfl (by omega) (by omega) (by omega);have j1:∀d e:Int,0≤d→d≤b+1→∃L f,iV d5 s (b:Int) d e l=some ((L,f,()),())∧(f.Code=0→Tk L∧0<L.length∧tln L)∧L.length≤s.length+1∧ts L≤s.length:=by
  intro d e hd0 hd1;have hpl:pl d=0:=if_pos ⟨hd0,by omega⟩;rw[a0a,aR];by_cases cb:(b:Int)≥(s.length:Int)
  ·have hz:l.length+ [(l6.mk 8 d e 0 ([]:b36))].length≤100000000:=(by rw[y7];omega);rw[f7 cb,f9,G9 (by decide) hz];refine⟨_,_,rfl,fun _=>⟨⟨fun i t hi hi2=>?_,?_⟩,?_,PE hln _ hpl⟩,?_,by rw[LN];simp;omega⟩
   ·rw[o0,y7]at hi2;have:i=l.length:=(by omega);subst this;rw[Fq (i4 _),Nat.sub_self]at hi;cases hi;rfl
   all_goals rw[o0,y7];omega
  ·have hbl:b<s.length:=(by omega);obtain⟨t,k,er,h1,h2⟩:=IL s hs b hbl;rw[d9 cb,f6,h1,d6];by_cases ce:er=0
   ·obtain⟨kn,rfl,k1,k2,k3⟩:=h2 ce;have hz:l.length+ [(l6.mk t.Ks d e t.Ns t.Ds)].length≤100000000:=(by rw[y7];omega);obtain⟨j,g1,g2,g3⟩:=KT s hs _ kn false rfl k2;rw[f7 ce,A4,f6,G9 (by decide) hz,d6,NH,Qb0];simp only;rw[g1,d6];exact ih _ (by omega) j b d e _ rfl g3 (by omega) (by rw[o0,y7];omega) (by rw[LN];simp only;omega) hd0 (by omega) (PE hln _ hpl)
   ·rw[d9 ce];exact⟨_,_,rfl,fun h=>absurd h ce,by simp,by unfold ts;simp⟩
 rw[a61,eS,U4 hcut,d6,e0,a6y,Qb5,show Qb d5 (y8 s (c:Int) (s.length:Int)) ((b-c:Nat):Int) 1 1 0=_ from hp,d6];have e9:w64 (d+w64 (x-1))=d+x-1:=(by rw[wrap64 (n:=x-1) (by omega) (by omega),wrap64 (by omega) (by omega)];omega);by_cases cx:x>1
 ·rw[f7 cx];exact j1 _ _ (by show 0≤w64 (d+w64 (x-1));rw[e9];omega) (by show w64 (d+w64 (x-1))≤_;rw[e9];omega)
 ·rw[d9 cx];exact j1 _ _ hd0 (by omega)
theorem a3v(s:b36):∃L f,tU d5 s=some ((L,f,()),())∧(f.Code=0→Tk L∧0<L.length∧tln L)∧L.length≤s.length+1∧ts L≤s.length:=by
 rw[a5q,sC];by_cases c:(s.length:Int)>65536
 ·rw[f7 c];exact⟨_,_,rfl,fun h=>absurd h (by decide),by simp,by unfold ts;simp⟩
 ·have hs:s.length≤65536:=(by omega);obtain⟨k,g1,g2,g3⟩:=KT s hs _ 0 false rfl (D0 _);rw[d9 c,f6,NH,Qb0,show Cg d5 s 0 false=_ from g1,d6];exact b2h s hs _ k 0 1 1 [] rfl g3 (D0 _) (D0 _) (by unfold ts;simp) (by omega) (by omega) (fun t ht=>nomatch ht)
theorem b3K(s:b36):∃x f,oI d5 s=some ((x,f,()),())∧x.length≤10*s.length+31∧D9 x≤s.length:=by obtain⟨L,f,h1,h2,h3,h4⟩:=a3v s;obtain⟨x,f',g1,g2,g3⟩:=b1A h1 h2;rw[a3u]at g3;exact⟨x,f',g1,by omega,by omega⟩
theorem TD{x:List d7}{n:d7}(h:n∈x):n.Ds.length+pl n.Ls≤D9 x:=by
 induction x with
 |nil=>exact nomatch h
 |cons a l ih=>
  rw[wY];rcases F8.1 h with rfl|h
  ·omega
  ·have:=ih h;omega
end
section
inductive WFo(l:List d7):Nat→Nat→Prop
 |nil(i:Nat):WFo l i i
 |cons(i k j:Nat)(x:d7)(hx:l[i]? =some x)(hs:x.Cs=(k:Int)-(i+1))(hk:i+1≤k)(kids:WFo l (i+1) k)(rest:WFo l k j):WFo l i j
theorem WFo.le{l:List d7}{i j:Nat}(h:WFo l i j):i≤j:=by
 induction h with
 |nil=>exact i4 _
 |cons i k j x hx hs hk _ _ _ ih=>omega
theorem WFo.inside{l:List d7}{i j:Nat}(h:WFo l i j):∀p,i≤p→p<j→∃(x:d7) (k:Nat),l[p]? =some x∧x.Cs=(k:Int)-(p+1)∧p+1≤k∧WFo l (p+1) k∧k≤j:=by
 induction h with
 |nil=>intro p h1 h2;omega
 |cons i k j x hx hs hk kids rest ih1 ih2=>
  intro p h1 h2;have hkj:=rest.le;by_cases e:p=i
  ·subst e;exact⟨x,k,hx,hs,hk,kids,hkj⟩
  ·by_cases e2:p<k
   ·obtain⟨y,q,g1,g2,g3,g4,g5⟩:=ih1 p (by omega) e2;exact⟨y,q,g1,g2,g3,g4,by omega⟩
   ·exact ih2 p (by omega) h2
inductive Kc(l:List d7):Nat→Nat→List Nat→Prop
 |nil(i:Nat):Kc l i i []
 |cons(i k j:Nat)(x:d7)(ks:List Nat)(hx:l[i]? =some x)(hs:x.Cs=(k:Int)-(i+1))(hk:i+1≤k)(kids:WFo l (i+1) k)(rest:Kc l k j ks):Kc l i j (i::ks)
theorem WFo.kc{l:List d7}{i j:Nat}(h:WFo l i j):∃ks,Kc l i j ks:=by
 induction h with
 |nil i=>exact⟨[],.nil i⟩
 |cons i k j x hx hs hk kids rest ih1 ih2=>obtain⟨ks,h⟩:=ih2;exact⟨i::ks,.cons i k j x ks hx hs hk kids h⟩
theorem Kc.le{l:List d7}{i j:Nat}{ks:List Nat}(h:Kc l i j ks):i+ks.length≤j:=by
 induction h with
 |nil=>simp
 |cons i k j x ks hx hs hk _ _ ih=>rw[C9];omega
theorem Kc.mem{l:List d7}{i j:Nat}{ks:List Nat}(h:Kc l i j ks):∀p∈ks,i≤p∧p<j∧∃(x:d7) (k:Nat),l[p]? =some x∧x.Cs=(k:Int)-(p+1)∧p+1≤k∧k≤j∧WFo l (p+1) k:=by
 induction h with
 |nil=>intro p hp;exact absurd hp (List.not_mem_nil)
 |cons i k j x ks hx hs hk kids rest ih=>
  have:=rest.le;intro p hp;rcases F8.1 hp with rfl|hp
  ·exact⟨i4 _,by omega,x,k,hx,hs,hk,by omega,kids⟩
  ·obtain⟨h1,h2,h3⟩:=ih p hp;exact⟨by omega,h2,h3⟩
section
variable{l:List d7}(hl:l.length≤100000000)
include hl
theorem a8W{a:Nat}{x:d7}{st:Nat}(hs:x.Cs=(st:Int)-(a+1))(hst:st≤l.length)(ha:a<l.length):∀(n k:Nat),l.length-k=n→a<k→k≤l.length→(∀k:Nat,a<k→k≤l.length→∃r:Int,Pe d5 l (k:Int)=some ((r,()),())∧(r= -1∨∃(y:d7) (q:Nat),l[k]? =some y∧y.Cs=(q:Int)-(k+1)∧k+1≤q∧q≤l.length∧r=(q:Int)∧WFo l (k+1) q))→∃r:Int,nM d5 l (a:Int) x (k:Int)=some ((r,()),())∧(r= -1∨r=(st:Int)∧WFo l k st):=by
 have w1:w64 (w64 ((a:Int)+1)+x.Cs)=(st:Int):=(by rw[hs,wrap64 (n:=(a:Int)+1) (by omega) (by omega),wrap64 (by omega) (by omega)];omega);intro n
 induction n using Nat.strongRecOn with
 |_ n ih=>
 intro k hn hak hk IH;rw[IJ,Vu,f7 (by omega),f9,w1];by_cases c:(k:Int)<(st:Int)
 ·rw[f7 c,f9];obtain⟨r,g1,g2⟩:=IH k hak hk;rw[g1,d6];rcases g2 with rfl|⟨y,q,q1,q2,q3,q4,rfl,q6⟩
  ·refine⟨-1,?_,.inl rfl⟩;simp only;rw[IJ,Vu,d9 (by omega),f6,LJ,Tt,w1,d9 (by omega)];rfl
  ·obtain⟨r,k1,k2⟩:=ih _ (by omega) q rfl (by omega) q4 IH;simp only;refine⟨r,k1,?_⟩;rcases k2 with rfl|⟨rfl,k3⟩
   ·exact .inl rfl
   ·exact .inr ⟨rfl,.cons k q st y q1 q2 q3 q6 k3⟩
 ·rw[d9 c,f6,LJ,Tt,w1];by_cases e:(k:Int)=(st:Int)
  ·rw[f7 e];have:k=st:=(by omega);subst this;exact⟨_,rfl,.inr ⟨rfl,.nil _⟩⟩
  ·rw[d9 e];exact⟨_,rfl,.inl rfl⟩
theorem a1M:∀(n a:Nat),l.length-a=n→a≤l.length→∃r:Int,Pe d5 l (a:Int)=some ((r,()),())∧(r= -1∨∃(y:d7) (q:Nat),l[a]? =some y∧y.Cs=(q:Int)-(a+1)∧a+1≤q∧q≤l.length∧r=(q:Int)∧WFo l (a+1) q):=by
 intro n
 induction n using Nat.strongRecOn with
 |_ n ih=>
 intro a hn ha;rw[a4V,dL];by_cases c:(a:Int)≥(l.length:Int)
 ·rw[f7 c];exact⟨_,rfl,.inl rfl⟩
 have hal:a<l.length:=(by omega);have e0:w64 (w64 ((l.length:Int)-1)-(a:Int))=(l.length:Int)-1-a:=(by rw[wrap64 (n:=(l.length:Int)-1) (by omega) (by omega),wrap64 (by omega) (by omega)]);have e1:w64 ((a:Int)+1)=((a+1:Nat):Int):=(by rw[wrap64 (by omega) (by omega)];omega);rw[d9 c,f6,l5 hal,d6];by_cases c1:l[a].Cs<0
 ·rw[f7 c1];exact⟨_,rfl,.inl rfl⟩
 rw[d9 c1,f6,d6,e0];by_cases c2:l[a].Cs>(l.length:Int)-1-a
 ·rw[f7 c2];exact⟨_,rfl,.inl rfl⟩
 rw[d9 c2,f6,d6,e1];have hs:l[a].Cs=((a+1+l[a].Cs.toNat:Nat):Int)-(a+1):=(by omega);obtain⟨r,g1,g2⟩:=a8W hl hs (by omega) hal _ (a+1) rfl (by omega) (by omega) (fun k h1 h2=>ih _ (by omega) k rfl h2);refine⟨r,g1,?_⟩;rcases g2 with h|⟨h,w⟩
 ·exact .inl h
 ·exact .inr ⟨l[a],_,p9 hal,hs,by omega,by omega,h,w⟩
theorem PH:∃b,fJ d5 l=some ((b,()),())∧(b=true→∃x,l[0]? =some x∧x.Cs=(l.length:Int)-1∧1≤l.length∧WFo l 1 l.length):=by
 rw[a5Q,lC];by_cases c:(l.length:Int)>0
 ·obtain⟨r,g1,g2⟩:=a1M hl _ 0 rfl (D0 _);rw[f7 c,f9,show Pe d5 l 0=_ from g1];refine⟨_,rfl,fun h=>?_⟩;have h:=E3 h;simp only at h;rcases g2 with h2|⟨y,q,q1,q2,q3,q4,q5,q6⟩
  ·omega
  ·have:q=l.length:=(by omega);subst this;exact⟨y,q1,by omega,by omega,q6⟩
 ·rw[d9 c];exact⟨_,rfl,fun h=>nomatch h⟩
theorem a04{b:Nat}{x:d7}{st:Nat}(hx:l[b]? =some x)(hs:x.Cs=(st:Int)-(b+1))(hst:st≤l.length){c:Nat}{ks:List Nat}(h:Kc l c st ks):∀d:List Int,d.length+ks.length≤l.length→fV d5 l (b:Int) (c:Int) d=some ((d++ks.map (fun(k:Nat)=>(k:Int)),()),()):=by
 have hbl:b<l.length:=(l3.1 hx).1;have hxe:l[b]=x:=(l3.1 hx).2;have w1:w64 (w64 ((b:Int)+1)+x.Cs)=(st:Int):=by rw[hs,wrap64 (n:=(b:Int)+1) (by omega) (by omega),wrap64 (by omega) (by omega)];omega
 induction h with
 |nil c=>intro d hd;rw[XS,Uo,l5 hbl,d6,hxe,w1,d9 (by omega),f6,b1w,kF,List.map_nil,J6]
 |cons c k j y ks hy hys hk kids rest ih=>intro d hd;have hkj:=rest.le;have hcl:c<l.length:=(by omega);have hye:l[c]=y:=(l3.1 hy).2;have e1:w64 (w64 ((c:Int)+1)+y.Cs)=(k:Int):=(by rw[hys,wrap64 (n:=(c:Int)+1) (by omega) (by omega),wrap64 (by omega) (by omega)];omega);rw[C9]at hd;have hz:d.length+ [(c:Int)].length≤100000000:=(by rw[y7];omega);have:=ih hs hst w1 (d++[(c:Int)]) (by rw[o0,y7];omega);rw[XS,Uo,l5 hbl,d6,hxe,w1,f7 (by omega),f9,G9 (by decide) hz,d6,l5 hcl,d6,hye,e1,this,List.map_cons,G7];rfl
theorem N5{b:Nat}{x:d7}{st:Nat}(hx:l[b]? =some x)(hs:x.Cs=(st:Int)-(b+1))(hst:st≤l.length){ks:List Nat}(h:Kc l (b+1) st ks):J7 d5 l (b:Int)=some ((ks.map (fun(k:Nat)=>(k:Int)),()),()):=by have:=h.le;have e1:w64 ((b:Int)+1)=((b+1:Nat):Int):=(by rw[wrap64 (by omega) (by omega)];omega);rw[a5M,iU,e1,a04 hl hx hs hst h [] (by rw[I6];omega),O0]
end
end
section
def sk0(k:Int):Int:=if k=6 then 98 else if k=5 then 112 else if k=3 then 102 else if k=2 then 100 else if k=4 then 100 else 45
def sk1(k:Int):Int:=if 7≤k∧k≤13 then 115 else sk0 k
def sk2(k:Int):Int:=if 21≤k∧k≤32 then 101 else sk1 k
def F6(k:Int):Int:=if k=14 then 48 else if 15≤k∧k≤20 then 116 else sk2 k
theorem yJ{α:Type}(k a b:Int)(x y:α):cond (decide (k≥a)) (cond (decide (k≤b)) x y) y=if a≤k∧k≤b then x else y:=by
 by_cases c:k≥a
 ·rw[f7 c,f9];by_cases d:k≤b
  ·rw[f7 d,if_pos ⟨c,d⟩];rfl
  ·rw[d9 d,if_neg (fun h=>d h.2)];rfl
 ·rw[d9 c,if_neg (fun h=>c h.1)];rfl
theorem a40(x:d7):DJ d5 x=some ((F6 x.Ks,()),()):=by
 generalize hk:x.Ks=k;have j0:oX d5 x=some ((sk0 k,()),()):=by
  unfold sk0;rw[a8F,lW,a8m,qH,hk];simp only[Bool.cond_eq_ite,decide_eq_true_eq]
  repeat' split
  all_goals first|rfl|contradiction
 have j1:sO d5 x=some ((sk1 k,()),()):=by unfold sk1;rw[a5p,dV,hk,j0,yJ];split<;>rfl
 have j2:lQ d5 x=some ((sk2 k,()),()):=by unfold sk2;rw[a8V,lO,hk,j1,yJ];split<;>rfl
 unfold F6;rw[a5r,cQ,hk,j2,yJ];by_cases c:k=14
 ·rw[f7 c,if_pos c];rfl
 ·rw[d9 c,if_neg c,f6];split<;>rfl
theorem a86(k:Int):0≤F6 k∧F6 k<256:=by
 unfold F6 sk2 sk1 sk0
 repeat' split
 all_goals omega
theorem PY:∀{a b:List Int},(∀x∈a,0≤x∧x<256)→(∀x∈b,0≤x∧x<256)→y6 a=y6 b→a=b
 | [],[],_,_,_=>rfl
 | [],_::_,_,_,h=>by cases h
 |_::_,[],_,_,h=>by cases h
 |x::a,y::b,ha,hb,h=>by
  unfold y6 at h;rw[List.map_cons,List.map_cons]at h;injection h with h1 h2
  have hx:=ha x G8;have hy:=hb y G8;have e:x=y:=by have:=congrArg UInt8.toNat h1;rw[UInt8.toNat_ofNat',UInt8.toNat_ofNat']at this;omega
  rw[e,PY (fun z hz=>ha z (I0 _ hz)) (fun z hz=>hb z (I0 _ hz)) h2]
theorem AZ{x:Int}(h:0≤x∧x<256):((UInt8.ofNat x.toNat).toNat:Int)=x:=by rw[UInt8.toNat_ofNat'];omega
theorem a1A(S:List Int)(hS:∀x∈S,0≤x∧x<256)(hl:S.length≤100000000)(c:Int):∀(n i:Nat),S.length-i=n→∃b,aW d5 (y6 S) c (i:Int)=some ((b,()),())∧(b=true→∀s∈S.drop i,s=c):=by
 have hbl:(y6 S).length=S.length:=(by unfold y6;rw[F9]);intro n
 induction n with
 |zero=>intro i hn;rw[ID,Wg,hbl,d9 (by omega),f6,a28,fG,N1 (by omega)];exact⟨_,rfl,fun _ s hs=>nomatch hs⟩
 |succ n ih=>
  intro i hn;have hi:i<S.length:=(by omega);have hi2:i<(y6 S).length:=(by omega);have e1:w64 ((i:Int)+1)=((i+1:Nat):Int):=(by rw[wrap64 (by omega) (by omega)];omega);have e2:((y6 S)[i].toNat:Int)=S[i]:=by have:(y6 S)[i]=UInt8.ofNat S[i].toNat:=(by simp only[y6,List.getElem_map]);rw[this];exact AZ (hS _ (B0 hi))
  obtain⟨b,h1,h2⟩:=ih (i+1) (by omega);rw[ID,Wg,hbl,f7 (by omega),f9,l5 hi2,d6,e1,e2,L4 hi];by_cases h:S[i]=c
  ·rw[f7 h,A4,f6];refine⟨b,h1,fun hb s hs=>?_⟩;rcases F8.1 hs with rfl|hs
   ·exact h
   ·exact h2 hb s hs
  ·rw[d9 h];exact⟨_,rfl,fun h=>nomatch h⟩
theorem VD(S:List Int)(hS:∀x∈S,0≤x∧x<256)(hl:S.length≤100000000)(c:Int):∃b,Lv d5 (y6 S) c=some ((b,()),())∧(b=true→∀s∈S,s=c):=by rw[a8Q,cE];exact a1A S hS hl c _ 0 rfl
structure Fam(k num:Int)(i:Nat)(S:List Int)(fk:Int):Prop where
 k1:k=1→i=0∧∀s∈S,s=100
 k2:k=2→∀s∈S,s=102
 k3:k=3∨k=5∨k=20→S=[116]
 k4:k=4→∃(P:List Int) (t:Int),S=P++[t,98]∧num=P.length∧(∀s∈P,s=112)∧(t=116∨t=48)
 k6:k=6→∀s∈S,s=115
 k7:k=7→S=[116,101]
 k8:k=8→S=[101,101]∧(fk=26∨fk=28∨fk=29)
 k9:k=9→S=[101,98]∨S=[101,98,98]
 k10:k=10→S=[101,98]
 k11:k=11→S=[]∨S=[101]
 k12:k=12∨k=29∨k=30→S=[101]
 k13:k=13→S=[101]∧fk=27
 k27:k=27→∀s∈S,s=101
 k28:k=28∨k=31→S=[101,101]
 k32:k=32→S=[116]∧fk=19∨S=[116,101]∧fk=20
 kr:(k<1∨(14≤k∧k≤19)∨(21≤k∧k≤26)∨33≤k)→S=[]∧14≤k∧k≤26
theorem a1J{S:List Int}(hS:∀x∈S,0≤x∧x<256)(T:List Int)(hT:∀x∈T,0≤x∧x<256){t:b36}(ht:t=y6 T):decide (y6 S=t)=decide (S=T):=by
 by_cases h:S=T
 ·subst h;rw[ht,f7 rfl,f7 rfl]
 ·rw[d9 h,d9 (fun e=>h (PY hS hT (by rw[e,ht])))]
def kd(l:List d7)(i:Nat):Int:=match l[i]? with|some x=>x.Ks|none=>0
theorem s9{l:List d7}{i:Nat}{x:d7}(h:l[i]? =some x):kd l i=x.Ks:=by unfold kd;rw[h]
def fkd(l:List d7):List Nat→Int
 | []=>0
 |k::_=>kd l k
def F2(l:List d7)(ks:List Nat):List Int:=ks.map fun k=>F6 (kd l k)
theorem EQ(l:List d7)(ks:List Nat):∀x∈F2 l ks,0≤x∧x<256:=by intro x hx;obtain⟨k,_,rfl⟩:=List.mem_map.1 hx;exact a86 _
theorem ME{l:List d7}{i:Nat}{x:d7}(hx:l[i]? =some x)(hl:l.length≤100000000){S:List Int}(hS:∀y∈S,0≤y∧y<256)(hSl:S.length≤100000000)(d:d7)(fk:Int)(hd:S=[]∨d.Ks=fk):∃b,cC d5 l (i:Int) S d=some ((b,()),())∧(b=true→Fam x.Ks x.Ns i S fk):=by
 have hil:i<l.length:=(l3.1 hx).1;have hxe:l[i]=x:=(l3.1 hx).2;have o:=VD S hS hSl;have bl:(y6 S).length=S.length:=(by unfold y6;rw[F9]);have t1:∀(T:List Int) (t:b36),t=y6 T→(∀y∈T,0≤y∧y<256)→decide (y6 S=t)=decide (S=T):=fun T t e h=>a1J hS T h e;have r116:=t1 [116] [116] rfl (by decide);have r116e:=t1 [116,101] [116,101] rfl (by decide);have ree:=t1 [101,101] [101,101] rfl (by decide);have reb:=t1 [101,98] [101,98] rfl (by decide);have rebb:=t1 [101,98,98] [101,98,98] rfl (by decide);have re:=t1 [101] [101] rfl (by decide);have rn:=t1 [] [] rfl (by decide);rw[a5V,mV,l5 hil,d6,hxe,r116,r116e,ree,reb,rebb,re,rn];by_cases h1:x.Ks=1
 ·rw[f7 h1,f9];by_cases hi0:(i:Int)=0
  ·obtain⟨b,g1,g2⟩:=o 100;rw[f7 hi0,f9,g1];exact⟨b,rfl,fun hb=>by constructor<;>intro h<;>first|(exfalso;omega)|exact⟨by omega,g2 hb⟩⟩
  ·rw[d9 hi0];exact⟨_,rfl,fun h=>nomatch h⟩
 by_cases h2:x.Ks=2
 ·obtain⟨b,g1,g2⟩:=o 102;rw[d9 h1,f6,f7 h2,f9,g1];exact⟨b,rfl,fun hb=>by constructor<;>intro h<;>first|(exfalso;omega)|exact g2 hb⟩
 rw[d9 h1,f6,d9 h2,f6];have c3:∀{r:Option RT0},x.Ks=3∨x.Ks=5∨x.Ks=20→r=some (((decide (S=[116])),()),())→∃b,r=some ((b,()),())∧(b=true→Fam x.Ks x.Ns i S fk):=by
  intro r hk hr;refine⟨_,hr,fun hb=>?_⟩;have key:=E3 hb
  constructor<;>intro h<;>first|(exfalso;omega)|exact key
 by_cases h3:x.Ks=3
 ·rw[f7 h3];exact c3 (.inl h3) rfl
 by_cases h5:x.Ks=5
 ·rw[d9 h3,f6,f7 h5];exact c3 (.inr (.inl h5)) rfl
 by_cases h20:x.Ks=20
 ·rw[d9 h3,f6,d9 h5,f6,f7 h20];exact c3 (.inr (.inr h20)) rfl
 rw[d9 h3,f6,d9 h5,f6,d9 h20,f6];by_cases h4:x.Ks=4
 ·rw[f7 h4,f9,bl];by_cases c2:(S.length:Int)≥2
  ·have e2:w64 ((S.length:Int)-2)=((S.length-2:Nat):Int):=(by rw[wrap64 (by omega) (by omega)];omega);have e1:w64 ((S.length:Int)-1)=((S.length-1:Nat):Int):=(by rw[wrap64 (by omega) (by omega)];omega);rw[f7 c2,f9,d6,e2,e1];by_cases cn:((S.length-2:Nat):Int)=x.Ns
   ·have hcut:D2 (0:Int) ((S.length-2:Nat):Int) (S.length:Int):=⟨by omega,by omega,by omega⟩;have hcl:y8 (y6 S) (0:Int) ((S.length-2:Nat):Int)=y6 (S.take (S.length-2)):=by unfold y8 y6;rw[List.map_take];simp
    have hT:∀y∈S.take (S.length-2),0≤y∧y<256:=fun y hy=>hS y (List.mem_of_mem_take hy);obtain⟨b,g1,g2⟩:=VD (S.take (S.length-2)) hT (by rw[List.length_take];omega) 112;have i1:S.length-2<S.length:=(by omega);have i2:S.length-1<S.length:=(by omega);have v1:f5 (y6 S) ((S.length-2:Nat):Int)=some (UInt8.ofNat (S[S.length-2]).toNat):=by rw[l5 (by rw[bl];exact i1)];simp[y6]
    have v2:f5 (y6 S) ((S.length-1:Nat):Int)=some (UInt8.ofNat (S[S.length-1]).toNat):=by rw[l5 (by rw[bl];exact i2)];simp[y6]
    have u1:=AZ (hS _ (B0 i1));have u2:=AZ (hS _ (B0 i2));have hsp:S=S.take (S.length-2)++[S[S.length-2],S[S.length-1]]:=by
     conv=>lhs;rw[←List.take_append_drop (S.length-2) S]
     congr 1;rw[L4 i1];congr 1;have:S.length-2+1=S.length-1:=(by omega);rw[this,L4 i2];congr 1;exact N1 (by omega)
    have fin:∀{r:Option RT0} (t:Int),S[S.length-2]=t→(t=116∨t=48)→b=true→r=some (((decide (S[S.length-1]=98)),()),())→∃b,r=some ((b,()),())∧(b=true→Fam x.Ks x.Ns i S fk):=by
     intro r t ht ht2 hb hr;refine⟨_,hr,fun hb2=>?_⟩;have k2:=E3 hb2;have key:∃(P:List Int) (t:Int),S=P++[t,98]∧x.Ns=P.length∧(∀s∈P,s=112)∧(t=116∨t=48):=by refine⟨S.take (S.length-2),t,?_,by rw[List.length_take];omega,g2 hb,ht2⟩;rw[k2,ht]at hsp;exact hsp
     constructor<;>intro h<;>first|(exfalso;omega)|exact key
    rw[f7 cn,f9,U4 hcut,d6,hcl,g1,d6];cases b with
    |false=>exact⟨_,rfl,fun h=>nomatch h⟩
    |true=>
     rw[f9,v1,d6,u1,v2,d6,d6,u2];by_cases z1:S[S.length-2]=116
     ·rw[f7 z1];exact fin 116 z1 (.inl rfl) rfl rfl
     ·rw[d9 z1,f6,u1];by_cases z2:S[S.length-2]=48
      ·rw[f7 z2];exact fin 48 z2 (.inr rfl) rfl rfl
      ·rw[d9 z2];exact⟨_,rfl,fun h=>nomatch h⟩
   ·rw[d9 cn];exact⟨_,rfl,fun h=>nomatch h⟩
  ·rw[d9 c2];exact⟨_,rfl,fun h=>nomatch h⟩
 rw[d9 h4,f6];by_cases h6:x.Ks=6
 ·obtain⟨b,g1,g2⟩:=o 115;rw[f7 h6,f9,g1];exact⟨b,rfl,fun hb=>by constructor<;>intro h<;>first|(exfalso;omega)|exact g2 hb⟩
 rw[d9 h6,f6];by_cases h7:x.Ks=7
 ·rw[f7 h7,f9];exact⟨_,rfl,fun hb=>by have key:=E3 hb;constructor<;>intro h<;>first|(exfalso;omega)|exact key⟩
 rw[d9 h7,f6];by_cases h8:x.Ks=8
 ·rw[f7 h8,f9];by_cases hs:S=[101,101]
  ·rw[f7 hs,f9];have hd2:d.Ks=fk:=by
                 rcases hd with h|h
                 ·rw[hs]at h;cases h
                 ·exact h
   have fin:∀{r:Option RT0} {b:Bool},r=some ((b,()),())→(b=true→fk=26∨fk=28∨fk=29)→∃b,r=some ((b,()),())∧(b=true→Fam x.Ks x.Ns i S fk):=by
    intro r b hr hb;refine⟨b,hr,fun h=>?_⟩;have key:=hb h
    constructor<;>intro h<;>first|(exfalso;omega)|exact⟨hs,key⟩
   by_cases d1:d.Ks=26
   ·rw[f7 d1];exact fin rfl (fun _=>by omega)
   ·rw[d9 d1,f6];by_cases d2:d.Ks=28
    ·rw[f7 d2];exact fin rfl (fun _=>by omega)
    ·rw[d9 d2,f6];exact fin rfl (fun h=>by have:=E3 h;omega)
  ·rw[d9 hs];exact⟨_,rfl,fun h=>nomatch h⟩
 rw[d9 h8,f6];by_cases h9:x.Ks=9
 ·rw[f7 h9,f9];by_cases hs:S=[101,98]
  ·rw[f7 hs];exact⟨_,rfl,fun hb=>by constructor<;>intro h<;>first|(exfalso;omega)|exact .inl hs⟩
  ·rw[d9 hs];exact⟨_,rfl,fun hb=>by have key:=E3 hb;constructor<;>intro h<;>first|(exfalso;omega)|exact .inr key⟩
 rw[d9 h9,f6];by_cases h10:x.Ks=10
 ·rw[f7 h10,f9];exact⟨_,rfl,fun hb=>by have key:=E3 hb;constructor<;>intro h<;>first|(exfalso;omega)|exact key⟩
 rw[d9 h10,f6];by_cases h11:x.Ks=11
 ·rw[f7 h11,f9];by_cases hs:S=[]
  ·rw[f7 hs];exact⟨_,rfl,fun hb=>by constructor<;>intro h<;>first|(exfalso;omega)|exact .inl hs⟩
  ·rw[d9 hs];exact⟨_,rfl,fun hb=>by have key:=E3 hb;constructor<;>intro h<;>first|(exfalso;omega)|exact .inr key⟩
 rw[d9 h11,f6];have c12:∀{r:Option RT0},x.Ks=12∨x.Ks=29∨x.Ks=30→r=some (((decide (S=[101])),()),())→∃b,r=some ((b,()),())∧(b=true→Fam x.Ks x.Ns i S fk):=by
  intro r hk hr;refine⟨_,hr,fun hb=>?_⟩;have key:=E3 hb
  constructor<;>intro h<;>first|(exfalso;omega)|exact key
 by_cases h12:x.Ks=12
 ·rw[f7 h12];exact c12 (.inl h12) rfl
 by_cases h29:x.Ks=29
 ·rw[d9 h12,f6,f7 h29];exact c12 (.inr (.inl h29)) rfl
 by_cases h30:x.Ks=30
 ·rw[d9 h12,f6,d9 h29,f6,f7 h30];exact c12 (.inr (.inr h30)) rfl
 rw[d9 h12,f6,d9 h29,f6,d9 h30,f6];by_cases h13:x.Ks=13
 ·rw[f7 h13,f9];by_cases hs:S=[101]
  ·have hd2:d.Ks=fk:=by
                 rcases hd with h|h
                 ·rw[hs]at h;cases h
                 ·exact h
   rw[f7 hs];exact⟨_,rfl,fun hb=>by have key:=E3 hb;constructor<;>intro h<;>first|(exfalso;omega)|exact⟨hs,by omega⟩⟩
  ·rw[d9 hs];exact⟨_,rfl,fun h=>nomatch h⟩
 rw[d9 h13,f6];by_cases h27:x.Ks=27
 ·obtain⟨b,g1,g2⟩:=o 101;rw[f7 h27,f9,g1];exact⟨b,rfl,fun hb=>by constructor<;>intro h<;>first|(exfalso;omega)|exact g2 hb⟩
 rw[d9 h27,f6];have c28:∀{r:Option RT0},x.Ks=28∨x.Ks=31→r=some (((decide (S=[101,101])),()),())→∃b,r=some ((b,()),())∧(b=true→Fam x.Ks x.Ns i S fk):=by
  intro r hk hr;refine⟨_,hr,fun hb=>?_⟩;have key:=E3 hb
  constructor<;>intro h<;>first|(exfalso;omega)|exact key
 by_cases h28:x.Ks=28
 ·rw[f7 h28];exact c28 (.inl h28) rfl
 by_cases h31:x.Ks=31
 ·rw[d9 h28,f6,f7 h31];exact c28 (.inr h31) rfl
 rw[d9 h28,f6,d9 h31,f6];by_cases h32:x.Ks=32
 ·rw[f7 h32,f9];have fin:∀{r:Option RT0} {b:Bool},r=some ((b,()),())→(b=true→S=[116]∧fk=19∨S=[116,101]∧fk=20)→∃b,r=some ((b,()),())∧(b=true→Fam x.Ks x.Ns i S fk):=by
   intro r b hr hb;refine⟨b,hr,fun h=>?_⟩;have key:=hb h
   constructor<;>intro h<;>first|(exfalso;omega)|exact key
  have two:∃b,(cond (decide (S=[116,101])) (some (((decide (d.Ks=20)),()),())) (some ((false,()),())):Option RT0)=some ((b,()),())∧(b=true→Fam x.Ks x.Ns i S fk):=by
   by_cases hs:S=[116,101]
   ·have hd2:d.Ks=fk:=by
                  rcases hd with h|h
                  ·rw[hs]at h;cases h
                  ·exact h
    rw[f7 hs];exact fin rfl (fun h=>.inr ⟨hs,by have:=E3 h;omega⟩)
   ·rw[d9 hs];exact⟨_,rfl,fun h=>nomatch h⟩
  by_cases hs:S=[116]
  ·have hd2:d.Ks=fk:=by
                 rcases hd with h|h
                 ·rw[hs]at h;cases h
                 ·exact h
   rw[f7 hs,f9];by_cases d1:d.Ks=19
   ·rw[f7 d1];exact fin rfl (fun _=>.inl ⟨hs,by omega⟩)
   ·rw[d9 d1];exact two
  ·rw[d9 hs];exact two
 rw[d9 h32,f6];by_cases hs:S=[]
 ·rw[f7 hs,f9,d6,d6];by_cases c14:x.Ks≥14
  ·rw[f7 c14];exact⟨_,rfl,fun hb=>by have key:=E3 hb;constructor<;>intro h<;>first|(exfalso;omega)|exact⟨hs,by omega,key⟩⟩
  ·rw[d9 c14];exact⟨_,rfl,fun h=>nomatch h⟩
 ·rw[d9 hs];exact⟨_,rfl,fun h=>nomatch h⟩
theorem b1Z{l:List d7}{i st:Nat}{x:d7}(hl:l.length≤100000000)(hx:l[i]? =some x)(hs:x.Cs=(st:Int)-(i+1))(hst:st≤l.length){ks:List Nat}(h:Kc l (i+1) st ks):∃b,zY d5 l (i:Int)=some ((b,()),())∧(b=true→Fam x.Ks x.Ns i (F2 l ks) (fkd l ks)):=by
 have hkl:=h.le;rw[b01,tG,N5 hl hx hs hst h,d6];generalize hI:ks.map (fun(k:Nat)=>(k:Int))=ksI;have hIl:ksI.length=ks.length:=(by rw[←hI,F9]);have get:∀(d:Nat) (hd:d<ks.length),∃y,l[ks[d]]? =some y∧f5 ksI (d:Int)=some ((ks[d]:Nat):Int)∧ksI[d]? =some ((ks[d]:Nat):Int)∧f5 l ((ks[d]:Nat):Int)=some y:=by
  intro d hd;obtain⟨_,_,y,q,hy,_⟩:=h.mem _ (B0 hd);have hyl:=(l3.1 hy).1;refine⟨y,hy,?_,?_,?_⟩
  ·rw[l5 (by rw[hIl];exact hd)];simp[←hI]
  ·simp[←hI,hd]
  ·rw[l5 hyl];exact(p9 hyl).symm.trans hy
 have loop:∀(n d:Nat),ks.length-d=n→d≤ks.length→Xt d5 l (i:Int) ((ksI,()),()) (d:Int) (F2 l (ks.take d))=DP d5 l (i:Int) ((ksI,()),()) (F2 l ks):=by
  intro n
  induction n with
  |zero=>intro d hn hd;rw[YO,Xb];simp only[hIl];rw[d9 (by omega),f6,List.take_of_length_le (by omega)]
  |succ n ih=>
   intro d hn hd;have hdl:d<ks.length:=(by omega);obtain⟨y,hy,g1,g2,g3⟩:=get d hdl;have e1:w64 ((d:Int)+1)=((d+1:Nat):Int):=(by rw[wrap64 (by omega) (by omega)];omega);have es:F2 l (ks.take d)++[F6 y.Ks]=F2 l (ks.take (d+1)):=by unfold F2;rw[List.take_add_one,p9 hdl,G0];simp[s9 hy]
   have hz:(F2 l (ks.take d)).length+ [F6 y.Ks].length≤100000000:=by unfold F2;rw[F9,List.length_take,y7];omega
   have:=ih (d+1) (by omega) (by omega);rw[YO,Xb];simp only[hIl];rw[f7 (by omega),f9,g1,d6,E5,g2,d6,g3,d6,a40,d6];simp only;rw[G9 (by decide) hz,d6,es,e1,this]
 have l0:=loop _ 0 rfl (D0 _);rw[List.take_zero]at l0;rw[show Xt d5 l (i:Int) ((ksI,()),()) 0 []=_ from l0,b3z,fT,JG (EQ l ks),d6];have hsl:(F2 l ks).length≤100000000:=(by unfold F2;rw[F9];omega);simp only[hIl];cases ks with
 |nil=>rw[d9 (by simp),f6];exact ME hx hl (EQ l []) hsl _ _ (.inl rfl)
 |cons k ks=>obtain⟨y,hy,g1,g2,g3⟩:=get 0 (by simp);rw[f7 (by simp),f9,show f5 ksI 0=_ from g1,d6,show ksI[Int.toNat 0]? =_ from g2,d6,g3,d6];exact ME hx hl (EQ l (k::ks)) hsl _ _ (.inr (s9 hy).symm)
structure Fld(x:d7):Prop where
 n21:x.Ks=21→0≤x.Ns
 n22:x.Ks=22→0≤x.Ns∧x.Ns<8388608
 n24:x.Ks=24→x.Ns=0∨x.Ns=1
 n30:x.Ks=30→x.Ns=12∨x.Ns=13
 n31:x.Ks=31→1≤x.Ns∧x.Ns≤11∨x.Ns=14∨x.Ns=15
theorem HI(s:b36)(hs:s.length≤65536)(k:Int):∃b,pU d5 s k=some ((b,()),()):=by
 rw[ZU,bY];by_cases c:(s.length:Int)=0
 ·rw[f7 c];exact⟨_,rfl⟩
 have h0:0<s.length:=(by omega);have j0:∃b,Zb d5 s k=some ((b,()),()):=by
  obtain⟨t,n,e,h1,h2⟩:=IL s hs 0 h0;rw[b14,Za,show Yu d5 s 0=_ from h1,d6];cases decide (e=0)with
  |false=>exact⟨_,rfl⟩
  |true=>
   rw[f9];cases decide (n=(s.length:Int))with
   |false=>exact⟨_,rfl⟩
   |true=>exact⟨_,rfl⟩
 rw[d9 c,f6,show f5 s 0=some s[0]from l5 (i:=0) h0,d6,d6];cases decide ((s[0].toNat:Int)≥48)with
 |false=>exact j0
 |true=>
  rw[f9];cases decide ((s[0].toNat:Int)≤57)with
  |false=>exact j0
  |true=>exact⟨_,rfl⟩
theorem b2D(x:d7)(hs:x.Ds.length≤65536):∃b,DQ d5 x=some ((b,()),())∧(b=true→Fld x):=by
 obtain⟨bg,hg⟩:=HI x.Ds hs 2;obtain⟨bn',hn⟩:=HI x.Ds hs 1;have hG:yF d5 x.Ds=some ((bg,()),()):=(by rw[a5v,bW,hg];rfl);have hN:bZ d5 x.Ds=some ((bn',()),()):=(by rw[a6U,Zt,hn];rfl);have triv:∀{r:Option RT0} {b:Bool},r=some ((b,()),())→(x.Ks<21∨x.Ks=23∨25≤x.Ks∧x.Ks≤29∨32≤x.Ks)→∃b,r=some ((b,()),())∧(b=true→Fld x):=by
  intro r b hr hk;refine⟨b,hr,fun _=>?_⟩
  constructor<;>intro h<;>(exfalso;omega)
 have j0:(x.Ks=2∨x.Ks=19)→∃b,nS d5 x=some ((b,()),())∧(b=true→Fld x):=by
  intro hk;rw[b2S,kE,hG,d6];cases bg with
  |true=>exact triv rfl (by omega)
  |false=>exact triv rfl (by omega)
 have j1:(x.Ks=3∨x.Ks=5∨x.Ks=7∨x.Ks=26∨x.Ks=27∨x.Ks=29)→∃b,Gw d5 x=some ((b,()),())∧(b=true→Fld x):=by
  intro hk;rw[b2u,rN,hN,d6];cases bn' with
  |true=>exact triv rfl (by omega)
  |false=>exact triv rfl (by omega)
 rw[b19,pJ];by_cases h2:x.Ks=2
 ·rw[f7 h2];exact j0 (.inl h2)
 rw[d9 h2,f6];by_cases h19:x.Ks=19
 ·rw[f7 h19];exact j0 (.inr h19)
 rw[d9 h19,f6];by_cases h3:x.Ks=3
 ·rw[f7 h3];exact j1 (by omega)
 rw[d9 h3,f6];by_cases h5:x.Ks=5
 ·rw[f7 h5];exact j1 (by omega)
 rw[d9 h5,f6];by_cases h7:x.Ks=7
 ·rw[f7 h7];exact j1 (by omega)
 rw[d9 h7,f6];by_cases h26:x.Ks=26
 ·rw[f7 h26];exact j1 (by omega)
 rw[d9 h26,f6];by_cases h27:x.Ks=27
 ·rw[f7 h27];exact j1 (by omega)
 rw[d9 h27,f6];by_cases h29:x.Ks=29
 ·rw[f7 h29];exact j1 (by omega)
 rw[d9 h29,f6];by_cases h4:x.Ks=4
 ·rw[f7 h4,f9,hN];exact triv rfl (by omega)
 rw[d9 h4,f6];by_cases h23:x.Ks=23
 ·rw[f7 h23];exact triv rfl (by omega)
 rw[d9 h23,f6];cases decide (x.Ds=([]:b36))with
 |false=>exact⟨_,rfl,fun h=>nomatch h⟩
 |true=>
 rw[A4,f6];by_cases h21:x.Ks=21
 ·rw[f7 h21];exact⟨_,rfl,fun hb=>by have key:=E3 hb;constructor<;>intro h<;>first|(exfalso;omega)|exact key⟩
 rw[d9 h21,f6];by_cases h22:x.Ks=22
 ·rw[f7 h22,f9];by_cases a:x.Ns≥0
  ·rw[f7 a];exact⟨_,rfl,fun hb=>by have key:=E3 hb;constructor<;>intro h<;>first|(exfalso;omega)|exact⟨a,key⟩⟩
  ·rw[d9 a];exact⟨_,rfl,fun h=>nomatch h⟩
 rw[d9 h22,f6];by_cases h24:x.Ks=24
 ·rw[f7 h24,f9];by_cases a:x.Ns=0
  ·rw[f7 a];exact⟨_,rfl,fun hb=>by constructor<;>intro h<;>first|(exfalso;omega)|exact .inl a⟩
  ·rw[d9 a];exact⟨_,rfl,fun hb=>by have key:=E3 hb;constructor<;>intro h<;>first|(exfalso;omega)|exact .inr key⟩
 rw[d9 h24,f6];by_cases h30:x.Ks=30
 ·rw[f7 h30,f9];by_cases a:x.Ns=12
  ·rw[f7 a];exact⟨_,rfl,fun hb=>by constructor<;>intro h<;>first|(exfalso;omega)|exact .inl a⟩
  ·rw[d9 a];exact⟨_,rfl,fun hb=>by have key:=E3 hb;constructor<;>intro h<;>first|(exfalso;omega)|exact .inr key⟩
 rw[d9 h30,f6];by_cases h31:x.Ks=31
 ·have fin:∀{r:Option RT0} {b:Bool},r=some ((b,()),())→(b=true→1≤x.Ns∧x.Ns≤11∨x.Ns=14∨x.Ns=15)→∃b,r=some ((b,()),())∧(b=true→Fld x):=by
   intro r b hr hb;refine⟨b,hr,fun h=>?_⟩;have key:=hb h
   constructor<;>intro h<;>first|(exfalso;omega)|exact key
  have two:∃b,(cond (decide (x.Ns=14)) (some ((true,()),())) (some (((decide (x.Ns=15)),()),())):Option RT0)=some ((b,()),())∧(b=true→Fld x):=by
   by_cases a:x.Ns=14
   ·rw[f7 a];exact fin rfl (fun _=>by omega)
   ·rw[d9 a];exact fin rfl (fun h=>by have:=E3 h;omega)
  rw[f7 h31,f9];by_cases a:x.Ns≥1
  ·rw[f7 a,f9];by_cases b:x.Ns≤11
   ·rw[f7 b];exact fin rfl (fun _=>by omega)
   ·rw[d9 b];exact two
  ·rw[d9 a];exact two
 rw[d9 h31,f6];exact triv rfl (by omega)
structure L9(l:List d7):Prop where
 root:∃x,l[0]? =some x∧x.Ks=1∧x.Cs=(l.length:Int)-1∧1≤l.length∧WFo l 1 l.length
 nd:∀(i:Nat) (x:d7),l[i]? =some x→∃(st:Nat) (ks:List Nat),x.Cs=(st:Int)-(i+1)∧i+1≤st∧st≤l.length∧WFo l (i+1) st∧Kc l (i+1) st ks∧Fam x.Ks x.Ns i (F2 l ks) (fkd l ks)∧Fld x
theorem ON{l:List d7}(hl:l.length≤100000000)(ht:∀n∈l,n.Ds.length≤65536):∃b,pE d5 l=some ((b,()),())∧(b=true→L9 l):=by
 obtain⟨b,h1,h2⟩:=PH hl;rw[a3k,kX,h1,d6];cases b with
 |false=>exact⟨_,rfl,fun h=>nomatch h⟩
 |true=>
  obtain⟨x,hx,hxs,h0,hw⟩:=h2 rfl;have hxe:l[0]=x:=(l3.1 hx).2;rw[A4,f6,show f5 l 0=some l[0]from l5 (i:=0) h0,d6,hxe];by_cases hk:x.Ks=1
  ·rw[f7 hk,A4,f6];have tree:∀(i:Nat) (x:d7),l[i]? =some x→∃(st:Nat) (ks:List Nat),x.Cs=(st:Int)-(i+1)∧i+1≤st∧st≤l.length∧WFo l (i+1) st∧Kc l (i+1) st ks:=by
    intro i y hy;have hil:=(l3.1 hy).1;by_cases e:i=0
    ·subst e;rw[hx]at hy;cases hy;obtain⟨ks,hks⟩:=hw.kc;exact⟨l.length,ks,by omega,by omega,i4 _,hw,hks⟩
    ·obtain⟨z,k,g1,g2,g3,g4,g5⟩:=hw.inside i (by omega) hil;rw[hy]at g1;cases g1;obtain⟨ks,hks⟩:=g4.kc;exact⟨k,ks,g2,g3,g5,g4,hks⟩
   have loop:∀(n i:Nat),l.length-i=n→∃b,kA d5 l (i:Int)=some ((b,()),())∧(b=true→∀(j:Nat) (x:d7),i≤j→l[j]? =some x→∃(st:Nat) (ks:List Nat),x.Cs=(st:Int)-(j+1)∧j+1≤st∧st≤l.length∧WFo l (j+1) st∧Kc l (j+1) st ks∧Fam x.Ks x.Ns j (F2 l ks) (fkd l ks)∧Fld x):=by
    intro n
    induction n with
    |zero=>intro i hi;rw[WC,Vr,d9 (by omega),f6,a9u,eV];exact⟨_,rfl,fun _ j y hj hy=>by have:=(l3.1 hy).1;omega⟩
    |succ n ih=>
     intro i hi;have hil:i<l.length:=(by omega);have e1:w64 ((i:Int)+1)=((i+1:Nat):Int):=(by rw[wrap64 (by omega) (by omega)];omega);have hy:l[i]? =some l[i]:=p9 hil;obtain⟨st,ks,t1,t2,t3,t4,t5⟩:=tree i _ hy;obtain⟨b1,f1,f2⟩:=b2D l[i] (ht _ (B0 hil));obtain⟨b2,g1,g2⟩:=b1Z hl hy t1 t3 t5;obtain⟨b3,k1,k2⟩:=ih (i+1) (by omega);rw[WC,Vr,f7 (by omega),f9,l5 hil,d6,f1,d6];cases b1 with
     |false=>exact⟨_,rfl,fun h=>nomatch h⟩
     |true=>
      rw[A4,f6,g1,d6];cases b2 with
      |false=>exact⟨_,rfl,fun h=>nomatch h⟩
      |true=>
       rw[A4,f6,e1];refine⟨b3,k1,fun hb j y hj hy2=>?_⟩;by_cases e:i=j
       ·subst e;rw[hy]at hy2;cases hy2;exact⟨st,ks,t1,t2,t3,t4,t5,g2 rfl,f2 rfl⟩
       ·exact k2 hb j y (by omega) hy2
   obtain⟨b,k1,k2⟩:=loop _ 0 rfl;exact⟨b,k1,fun hb=>⟨⟨x,hx,hk,hxs,h0,hw⟩,fun i y hy=>k2 hb i y (D0 _) hy⟩⟩
  ·rw[d9 hk];exact⟨_,rfl,fun h=>nomatch h⟩
theorem W5{α:Type}{b:Nat}{xs ys:List α}(hb:b≤1000)(h:xs.length+ys.length≤100000000000):y9 b xs ys=some (xs++ys):=by unfold y9;rw[if_pos];unfold M8 maxLen;have:=Nat.mul_le_mul h hb;omega
structure Z4(nr:Nat)(T:List o4):Prop where
 len:6+nr≤T.length
 base:∀i:Nat,i<6→T[i]? =some ⟨i,0⟩
 recs:∀i:Nat,i<nr→T[6+i]? =some ⟨6,i⟩
 lists:∀(i:Nat) (x:o4),6+nr≤i→T[i]? =some x→x.Ks=7∧1≤x.Of∧x.Of<T.length∧x.Of≠5
def D1(T:List o4)(t:Int):Prop:=1≤t∧t<T.length∧t≠5
theorem D1.ext{T T':List o4}{t:Int}(h:D1 T t)(hp:T<+:T'):D1 T' t:=by have:=hp.length_le;exact⟨h.1,by have:=h.2.1;omega,h.2.2⟩
def TKn(T:List o4)(t k:Int):Prop:=∃y,T[t.toNat]? =some y∧y.Ks=k
def TKd(T:List o4)(t K:Int):Prop:=(K=19→TKn T t 6)∧(K=20→TKn T t 7)
theorem TKn.ext{T T':List o4}{t k:Int}(h:TKn T t k)(hp:T<+:T'):TKn T' t k:=by obtain⟨y,h1,h2⟩:=h;obtain⟨r,rfl⟩:=hp;have:=(l3.1 h1).1;exact⟨y,by rw[Y9 this];exact h1,h2⟩
theorem TKd.ext{T T':List o4}{t K:Int}(h:TKd T t K)(hp:T<+:T'):TKd T' t K:=⟨fun hk=>(h.1 hk).ext hp,fun hk=>(h.2 hk).ext hp⟩
theorem a1w(T:List o4)(hT:T.length≤90000000000)(k:Int)(nr:Nat)(h:Z4 nr T)(hk:D1 T k):∃T' t,Jo d5 T k=some ((T',t,()),())∧Z4 nr T'∧D1 T' t∧T<+:T'∧T'.length≤T.length+1∧TKn T' t 7:=by
 have hz:([]:List o4).length+T.length≤100000000000:=(by rw[I6];omega);have h6:=h.len;rw[a1k,pZ,W5 (by decide) hz,d6,O0,d9 (by have:=hk.1;omega),f6,d9 (by have:=hk.2.1;omega),f6,d9 hk.2.2,f6];have loop:∀(n i:Nat),T.length-i=n→∃T' t,Vl d5 T k (i:Int) T=some ((T',t,()),())∧Z4 nr T'∧D1 T' t∧T<+:T'∧T'.length≤T.length+1∧TKn T' t 7:=by
  intro n
  induction n with
  |zero=>
   intro i hi;have hz:T.length+ [(o4.mk 7 k)].length≤100000000000:=(by rw[y7];omega);rw[NL,Sa,d9 (by omega),f6,a36,rX,W5 (by decide) hz];refine⟨_,_,rfl,⟨?_,fun i hi=>?_,fun i hi=>?_,fun i x hi hx=>?_⟩,⟨by omega,by rw[o0,y7];omega,by omega⟩,List.prefix_append _ _,by simp,⟨_,by rw[E5,Fq (i4 _),Nat.sub_self];rfl,rfl⟩⟩
   ·rw[o0];omega
   ·rw[Y9 (by omega)];exact h.base i hi
   ·rw[Y9 (by omega)];exact h.recs i hi
   ·by_cases c:i<T.length
    ·rw[Y9 c]at hx;obtain⟨a1,a2,a3,a4⟩:=h.lists i x hi hx;exact⟨a1,a2,by rw[o0];omega,a4⟩
    ·rw[Fq (by omega)]at hx;have:i-T.length=0:=by have:=(l3.1 hx).1;simpa using this
     rw[this]at hx;cases hx;exact⟨rfl,hk.1,by rw[o0];have:=hk.2.1;simp only;omega,hk.2.2⟩
  |succ n ih=>
   intro i hi;have hil:i<T.length:=(by omega);have e:=ih (i+1) (by omega);rw[NL,Sa,f7 (by omega),f9,l5 hil,d6,d6,z8 (by omega)];by_cases c7:T[i].Ks=7
   ·rw[f7 c7,f9];by_cases co:T[i].Of=k
    ·rw[f7 co];have hi6:6≤i:=by
      refine Nat.le_of_not_lt fun hlt=>?_;have:=h.base i hlt;rw[p9 hil]at this;injection this with this
      rw[this]at c7;simp only at c7;omega
     exact⟨T,i,rfl,h,⟨by omega,by omega,by omega⟩,M2 _,by omega,⟨_,by rw[E5];exact p9 hil,c7⟩⟩
    ·rw[d9 co];exact e
   ·rw[d9 c7];exact e
 exact loop _ 0 rfl
theorem a84(T:List o4)(recs:List (b36))(hr:recs.length≤90000000000)(x:d7)(hx:15≤x.Ks∧x.Ks≤19)(nr:Nat)(h:Z4 nr T):∃t,EE d5 T recs x=some ((t,()),())∧(t=0∨D1 T t∧(x.Ks=19→TKn T t 6)):=by
 have h6:=h.len;rw[a54,jD];by_cases c:x.Ks<19
 ·rw[f7 c,f9,wrap64 (n:=x.Ks) (by omega) (by omega),wrap64 (by omega) (by omega)];exact⟨_,rfl,.inr ⟨⟨by omega,by omega,by omega⟩,fun h=>by omega⟩⟩
 ·rw[d9 c,f6];have loop:∀(n i:Nat),recs.length-i=n→∃t,oQ d5 T recs (i:Int) x=some ((t,()),())∧(t=0∨D1 T t∧(x.Ks=19→TKn T t 6)):=by
   intro n
   induction n with
   |zero=>intro i hi;rw[GD,Wb,d9 (by omega),f6,a7S,nO];exact⟨_,rfl,.inl rfl⟩
   |succ n ih=>
    intro i hi;have hil:i<recs.length:=(by omega);have e:=ih (i+1) (by omega);have e6:w64 ((i:Int)+6)=((i+6:Nat):Int):=(by rw[wrap64 (by omega) (by omega)];omega);rw[GD,Wb,f7 (by omega),f9,l5 hil,d6,z8 (by omega),e6];cases decide (recs[i]=x.Ds)with
    |false=>exact e
    |true=>
     rw[f9];by_cases c6:((i+6:Nat):Int)<(T.length:Int)
     ·have hl6:i+6<T.length:=(by omega);rw[f7 c6,f9,l5 hl6,d6];by_cases ck:T[i+6].Ks=6
      ·rw[f7 ck];exact⟨_,rfl,.inr ⟨⟨by omega,by omega,by omega⟩,fun _=>⟨_,by rw[E5];exact p9 hl6,ck⟩⟩⟩
      ·rw[d9 ck];exact⟨_,rfl,.inl rfl⟩
     ·rw[d9 c6];exact⟨_,rfl,.inl rfl⟩
  exact loop _ 0 rfl
theorem a7T(x:d7)(hx:x.Ds.length≤65536):∃b,EG d5 [x]=some ((b,()),()):=by
 obtain⟨b,h1,_⟩:=PH (l:=[x]) (by simp);rw[a3d,pD,h1,d6];cases b with
 |false=>exact⟨_,rfl⟩
 |true=>
  rw[A4,f6,G9 (by decide) (by simp),d6];have ht:∀n∈([(d7.mk 1 0 0 (w64 (([x].length:Int)+2)) 0 ([]:b36)),(d7.mk 2 0 0 (w64 (([x].length:Int)+1)) 0 ([82]:b36)),(d7.mk 3 0 0 ([x].length:Int) 0 ([102]:b36))]:List d7)++[x],n.Ds.length≤65536:=by
   intro n hn;simp only[List.cons_append,O0,F8,List.not_mem_nil,or_false]at hn;rcases hn with rfl|rfl|rfl|rfl
   ·simp
   ·simp
   ·simp
   ·exact hx
  obtain⟨b,h3,_⟩:=ON (by simp) ht;rw[h3];exact⟨_,rfl⟩
theorem b2y(T:List o4)(hT:T.length≤90000000000)(recs:List (b36))(hr:recs.length≤90000000000)(x:d7)(hx:15≤x.Ks∧x.Ks≤19)(ht:x.Ds.length≤65536)(nr:Nat)(h:Z4 nr T):∃T' t,Qd d5 T recs [x]=some ((T',t,()),())∧(t=0∨D1 T t∧(x.Ks=19→TKn T t 6)):=by
 obtain⟨b,h1⟩:=a7T x ht;obtain⟨t,h2,h3⟩:=a84 T recs hr x hx nr h;have hz:([]:List o4).length+T.length≤100000000000:=(by rw[I6];omega);rw[a00,uE,W5 (by decide) hz,d6,h1,d6];cases b with
 |false=>exact⟨_,_,rfl,.inl rfl⟩
 |true=>
  rw[A4,f6,show f5 [x] (w64 (([x].length:Int)-1))=some x from rfl,d6,h2,d6];by_cases c:t=0
  ·rw[f7 c];exact⟨_,_,rfl,.inl rfl⟩
  ·have e0:w64 ((([x]:List d7).length:Int)-1)=0:=rfl;rw[d9 c,f6,a4w,pW,e0,d9 (by omega),f6,a0f,dS];exact⟨_,_,rfl,h3⟩
def x6(s:d8)(i:Nat)(m:i8):d8:=⟨⟨s.P.No,s.P.Ms.set i m,s.P.To,s.P.Rs,s.P.Hs,s.P.As,s.P.Ss,s.P.Vars,s.P.Ps⟩,s.Rs,s.F⟩
theorem Bz(s:d8)(hm:s.P.Ms.length≤90000000)(i:Nat)(hi:i<s.P.Ms.length)(m:i8):Gh d5 s (i:Int) m=some ((x6 s i m,()),()):=by have hz:([]:List i8).length+s.P.Ms.length≤100000000:=(by rw[I6];omega);rw[lJ,Ko,G9 (by decide) hz,d6,O0,l5 hi,d6,E5,p9 hi,d6];rfl
theorem OV:Vp d5=Gh d5:=by funext s i m;rw[b3l,dQ,lJ,Ko]
theorem FD:Pa d5=Gh d5:=by funext s i m;rw[a2V,aO,lJ,Ko]
theorem Pz:Fd d5=Gh d5:=by funext s i m;rw[a8U,Zh,lJ,Ko]
theorem LI:dT d5=Bh d5:=by funext s i m;rw[a7J,kB,qE,Li]
theorem BW:Vn d5=Bh d5:=by funext s i m;rw[b2k,fD,qE,Li]
theorem Mc:Hg d5=Bh d5:=by funext s i m;rw[a5s,sI,qE,Li]
theorem S5(s:d8):N6 d5 s=some ((!decide (s.F.Code=0),()),()):=a17 s
theorem X6(s:d8)(e:Int)(he:e≠0)(i:Nat)(hi:i<s.P.No.length):∃f:x8,Bh d5 s e (i:Int)=some (((⟨s.P,s.Rs,f⟩:d8),()),())∧f.Code≠0:=by
 rw[qE,Li,S5,d6];by_cases c:s.F.Code=0
 ·rw[f7 c,A4,D6,f9,l5 hi,d6,d6];exact⟨_,rfl,he⟩
 ·rw[d9 c];exact⟨s.F,rfl,c⟩
end
section
def gH(l:List d7)(T:List o4)(f:u9):Prop:=∃(k:Nat) (x:d7),f.Gs=(k:Int)∧l[k]? =some x∧x.Ks=4∧f.Es=x.Ns∧(f.By=0∨D1 T f.By)
def tot(s:d8):Nat:=s.P.To.length+s.P.Ps.length+s.P.Vars.length+s.P.Ss.length+s.P.Hs.length+s.P.Rs.length+s.P.As.length+s.Rs.length
structure RI(l:List d7)(nr B:Nat)(s:d8):Prop where
 nodes:s.P.No=l
 marks:s.P.Ms.length=l.length
 big:tot s≤B
 ty:Z4 nr s.P.To
 mt:∀m∈s.P.Ms,0≤m.Ts∧m.Ts<s.P.To.length
 fl:s.F.Code=0→∀f∈s.P.Hs,D1 s.P.To f.Ts
 rc:∀r∈s.P.Rs,0≤r.Us∧0≤r.Vs∧r.Us+r.Vs≤s.P.Hs.length
 fn:∀f∈s.P.As,gH l s.P.To f
 sl:s.F.Code=0→∀t∈s.P.Ss,D1 s.P.To t
theorem gH.ext{l:List d7}{T T':List o4}{f:u9}(h:gH l T f)(hp:T<+:T'):gH l T' f:=by
 obtain⟨k,x,h1,h2,h3,h4,h5⟩:=h;refine⟨k,x,h1,h2,h3,h4,?_⟩;rcases h5 with h5|h5
 ·exact .inl h5
 ·exact .inr (h5.ext hp)
theorem RI.more{l:List d7}{nr B B':Nat}{s:d8}(h:RI l nr B s)(hb:B≤B'):RI l nr B' s:=⟨h.nodes,h.marks,by have:=h.big;omega,h.ty,h.mt,h.fl,h.rc,h.fn,h.sl⟩
theorem RI.fault{l:List d7}{nr B:Nat}{s:d8}(h:RI l nr B s)(f:x8)(hf:f.Code=0→s.F.Code=0):RI l nr B ⟨s.P,s.Rs,f⟩:=⟨h.nodes,h.marks,h.big,h.ty,h.mt,fun c=>h.fl (hf c),h.rc,h.fn,fun c=>h.sl (hf c)⟩
theorem RI.types{l:List d7}{nr B:Nat}{s:d8}(h:RI l nr B s){T:List o4}(hT:Z4 nr T)(hp:s.P.To<+:T)(hl:T.length≤s.P.To.length+1):RI l nr (B+1) ⟨⟨s.P.No,s.P.Ms,T,s.P.Rs,s.P.Hs,s.P.As,s.P.Ss,s.P.Vars,s.P.Ps⟩,s.Rs,s.F⟩:=by
 have hlen:=hp.length_le;refine⟨h.nodes,h.marks,?_,hT,fun m hm=>?_,fun c f hf=>(h.fl c f hf).ext hp,h.rc,fun f hf=>(h.fn f hf).ext hp,fun c t ht=>(h.sl c t ht).ext hp⟩
 ·have:=h.big;unfold tot at this⊢;simp only;omega
 ·have:=h.mt m hm;exact⟨this.1,by simp only;omega⟩
theorem RI.mark{l:List d7}{nr B:Nat}{s:d8}(h:RI l nr B s)(i:Nat)(m:i8)(h0:0≤m.Ts)(h1:m.Ts<s.P.To.length):RI l nr B (x6 s i m):=by
 refine⟨h.nodes,by unfold x6;simp only[Dz];exact h.marks,h.big,h.ty,fun x hx=>?_,h.fl,h.rc,h.fn,h.sl⟩;rcases List.mem_or_eq_of_mem_set hx with hx|rfl
 ·exact h.mt x hx
 ·exact⟨h0,h1⟩
structure Ex(l:List d7)(s s':d8)(lo hi:Nat):Prop where
 types:s.P.To<+:s'.P.To
 marks:∀i:Nat,(i<lo∨hi≤i)→s'.P.Ms[i]? =s.P.Ms[i]?
 par:∀i:Nat,kd l i=5→s'.P.Ms[i]? =s.P.Ms[i]?
 recs:s'.P.Rs=s.P.Rs
 fields:s'.P.Hs=s.P.Hs
 fns:s'.P.As=s.P.As
 slots:s'.P.Ss=s.P.Ss
 vars:s'.P.Vars=s.P.Vars
 points:s'.P.Ps=s.P.Ps
 own:s'.Rs=s.Rs
 bad:s.F.Code≠0→s'.F.Code≠0
theorem Ex.refl(l:List d7)(s:d8)(lo hi:Nat):Ex l s s lo hi:=⟨M2 _,fun _ _=>rfl,fun _ _=>rfl,rfl,rfl,rfl,rfl,rfl,rfl,rfl,id⟩
theorem Ex.trans{l:List d7}{s s' s'':d8}{lo hi lo' hi' lo2 hi2:Nat}(h:Ex l s s' lo hi)(h':Ex l s' s'' lo' hi')(a:lo2≤lo)(b:hi≤hi2)(c:lo2≤lo')(d:hi'≤hi2):Ex l s s'' lo2 hi2:=
 ⟨h.types.trans h'.types,fun i hi=>(h'.marks i (by omega)).trans (h.marks i (by omega)),fun i hi=>(h'.par i hi).trans (h.par i hi),h'.recs.trans h.recs,h'.fields.trans h.fields,h'.fns.trans h.fns,h'.slots.trans h.slots,h'.vars.trans h.vars,h'.points.trans h.points,h'.own.trans h.own,fun hb=>h'.bad (h.bad hb)⟩
theorem Ex.fault(l:List d7)(s:d8)(f:x8)(hf:f.Code≠0)(lo hi:Nat):Ex l s ⟨s.P,s.Rs,f⟩ lo hi:=⟨M2 _,fun _ _=>rfl,fun _ _=>rfl,rfl,rfl,rfl,rfl,rfl,rfl,rfl,fun _=>hf⟩
theorem Ex.mark(l:List d7)(s:d8)(i:Nat)(m:i8)(lo hi:Nat)(h1:lo≤i)(h2:i<hi)(h5:kd l i≠5):Ex l s (x6 s i m) lo hi:=⟨M2 _,fun j hj=>by unfold x6;simp only;rw[Z0 (by omega)],fun j hj=>by unfold x6;simp only;rw[Z0 (fun e=>h5 (by rw[e];exact hj))],rfl,rfl,rfl,rfl,rfl,rfl,rfl,id⟩
theorem b1C{α:Type}{l:List α}{b:Nat}{x:α}(h:l[b]? =some x):y8 l (b:Int) ((b+1:Nat):Int)=[x]:=by have hb:=(l3.1 h).1;have hx:=(l3.1 h).2;unfold y8;rw[E5,L4 hb,hx];have:(((b+1:Nat):Int)-(b:Int)).toNat=1:=(by omega);rw[this];rfl
theorem G6{l:List d7}{ks:List Nat}{a:List Int}(h:F2 l ks=a):ks.length=a.length∧∀(i:Nat) (h1:i<ks.length) (h2:i<a.length),F6 (kd l ks[i])=a[i]:=by subst h;exact⟨by unfold F2;rw[F9],fun i h1 h2=>by simp[F2]⟩
theorem U9{k:Int}(h:F6 k=116):15≤k∧k≤20:=by
 unfold F6 sk2 sk1 sk0 at h
 repeat' split at h
 all_goals omega
theorem Kc.first{l:List d7}{i j:Nat}{k:Nat}{ks:List Nat}(h:Kc l i j (k::ks)):k=i∧∃(x:d7) (q:Nat),l[i]? =some x∧x.Cs=(q:Int)-(i+1)∧i+1≤q∧q≤j∧Kc l q j ks:=by
 cases h with
 |cons _ q _ x _ hx hs hk kids rest=>exact⟨rfl,x,q,hx,hs,hk,by have:=rest.le;omega,rest⟩
section
variable{l:List d7}(hM:L9 l)(hl:l.length≤30000)(htx:∀n∈l,n.Ds.length≤65536)
include hM hl htx
theorem AV(K:d8→Int→Option O2)(hK:∀a b,K a b=((f5 a.P.No b).bind fun c=>(cond (decide (c.Ks=14)) (some ((0,a,()),())) ((f5 a.P.No b).bind fun d=>(cond (decide (d.Ks=20)) (((K a (w64 (b+1)))).bind fun(e:O2)=>(((N6 d5 e.1.2.1)).bind fun(f:RT0)=>(cond f.1.1 (some ((0,e.1.2.1,()),())) (((Jo d5 e.1.2.1.P.To e.1.1)).bind fun(h:W4)=>(((Gh d5 (d8.mk (l7.mk e.1.2.1.P.No e.1.2.1.P.Ms h.1.1 e.1.2.1.P.Rs e.1.2.1.P.Hs e.1.2.1.P.As e.1.2.1.P.Ss e.1.2.1.P.Vars e.1.2.1.P.Ps) e.1.2.1.Rs e.1.2.1.F) b (i8.mk h.1.2.1 0 0))).bind fun(j:l9)=>(some ((h.1.2.1,j.1.1,()),()))))))) ((okP (D2 b (w64 (b+1)) (a.P.No.length:Int))).bind fun _=>(((Qd d5 a.P.To a.Rs (y8 a.P.No b (w64 (b+1))))).bind fun(k:W4)=>(cond (decide (k.1.2.1=0)) (((Bh d5 a 8 b)).bind fun(l:l9)=>(some ((0,l.1.1,()),()))) (((Gh d5 a b (i8.mk k.1.2.1 0 0))).bind fun(m:l9)=>(some ((k.1.2.1,m.1.1,()),()))))))))))):∀(n b:Nat) (x:d7) (st:Nat),l[b]? =some x→x.Cs=(st:Int)-(b+1)→st-b=n→(14≤x.Ks∧x.Ks≤20)→∀(s:d8) (nr B:Nat),RI l nr B s→B+(st-b)≤80000000000→∃t s',K s (b:Int)=some ((t,s',()),())∧RI l nr (B+(st-b)) s'∧Ex l s s' b st∧(t=0∨D1 s'.P.To t)∧(s'.F.Code=0→x.Ks=14∧t=0∨(x.Ks≠14∧TKd s'.P.To t x.Ks)∧D1 s'.P.To t):=by
 intro n
 induction n using Nat.strongRecOn with
 |_ n ih=>
 intro b x st hx hs hn hk s nr B hR hB;have hbl:=(l3.1 hx).1;have hxe:=(l3.1 hx).2;have hnd:=hR.nodes;have hmk:=hR.marks;have hbig:=hR.big;unfold tot at hbig;have h5:kd l b≠5:=(by rw[s9 hx];omega);have gx:f5 s.P.No (b:Int)=some x:=(by rw[hnd,l5 hbl,hxe]);obtain⟨st',ks,t1,t2,t3,t4,t5,t6,t7⟩:=hM.nd b x hx;have est:st'=st:=(by omega);subst est;rw[hK,gx,d6,d6];by_cases c14:x.Ks=14
 ·rw[f7 c14];exact⟨0,s,rfl,hR.more (by omega),Ex.refl _ _ _ _,.inl rfl,fun _=>.inl ⟨c14,rfl⟩⟩
 rw[d9 c14,f6];by_cases c20:x.Ks=20
 ·rw[f7 c20,f9,z8 (by omega)];obtain⟨e1,e2⟩:=G6 (t6.k3 (.inr (.inr c20)));obtain⟨k,ks,rfl⟩:∃k ks',ks=k::ks':=by
   cases ks with
   |nil=>simp at e1
   |cons k ks=>exact⟨k,ks,rfl⟩
  have hk1:=U9 (e2 0 (by simp) (by simp));obtain⟨rfl,y,q,hy,hys,hq1,hq2,_⟩:=t5.first
  rw[E4,s9 hy]at hk1;obtain⟨t,s1,g1,g2,g3,g4,g5⟩:=ih (q-(b+1)) (by omega) (b+1) y q hy hys rfl (by omega) s nr B hR (by omega);have hbig1:=g2.big;unfold tot at hbig1;rw[g1,d6,S5,d6];by_cases cb:s1.F.Code=0
  ·rw[f7 cb,A4,f6];have hT:D1 s1.P.To t:=by
    rcases g5 cb with⟨h,_⟩|⟨_,h⟩
    ·omega
    ·exact h
   obtain⟨T',t',k1,k2,k3,k4,k5,k6⟩:=a1w s1.P.To (by omega) t nr g2.ty hT;have hR2:=g2.types k2 k4 k5;have hm2:b<(⟨⟨s1.P.No,s1.P.Ms,T',s1.P.Rs,s1.P.Hs,s1.P.As,s1.P.Ss,s1.P.Vars,s1.P.Ps⟩,s1.Rs,s1.F⟩:d8).P.Ms.length:=by show b<s1.P.Ms.length;rw[g2.marks];exact hbl
   have hml:s1.P.Ms.length=l.length:=g2.marks;rw[k1,d6];simp only;rw[Bz _ (by simp only;omega) b hm2];refine⟨t',_,rfl,(hR2.mark b _ (by have:=k3.1;simp only;omega) k3.2.1).more (by omega),?_,.inr k3,fun _=>.inr ⟨⟨c14,fun h=>absurd h (by rw[c20];decide),fun _=>k6⟩,k3⟩⟩;have a1:Ex l s1 (⟨⟨s1.P.No,s1.P.Ms,T',s1.P.Rs,s1.P.Hs,s1.P.As,s1.P.Ss,s1.P.Vars,s1.P.Ps⟩,s1.Rs,s1.F⟩:d8) (b+1) q:=⟨k4,fun _ _=>rfl,fun _ _=>rfl,rfl,rfl,rfl,rfl,rfl,rfl,rfl,id⟩;exact(g3.trans a1 (i4 _) (i4 _) (i4 _) (i4 _)).trans (Ex.mark l _ b _ b (b+1) (i4 _) (by omega) h5) (by omega) hq2 (by omega) (by omega)
  ·rw[d9 cb];exact⟨0,s1,rfl,g2.more (by omega),g3.trans (Ex.refl l s1 (b+1) q) (by omega) hq2 (by omega) hq2,.inl rfl,fun h=>absurd h cb⟩
 ·have hcut:D2 (b:Int) ((b+1:Nat):Int) (s.P.No.length:Int):=(by rw[hnd];exact⟨by omega,by omega,by omega⟩);obtain⟨T',t,k1,k2⟩:=b2y s.P.To (by omega) s.Rs (by omega) x (by omega) (htx x (O6 hx)) nr hR.ty;rw[d9 c20,f6,z8 (by omega),U4 hcut,d6,hnd,b1C hx,k1,d6];by_cases c0:t=0
  ·obtain⟨f,f1,f2⟩:=X6 s 8 (by decide) b (by rw[hnd];exact hbl);rw[f7 c0,f9,f1];exact⟨0,_,rfl,(hR.fault f (fun h=>absurd h f2)).more (by omega),Ex.fault l s f f2 _ _,.inl rfl,fun h=>absurd h f2⟩
  ·have hT:D1 s.P.To t∧(x.Ks=19→TKn s.P.To t 6):=by
    rcases k2 with h|h
    ·exact absurd h c0
    ·exact h
   rw[d9 c0,f6];simp only;rw[Bz s (by omega) b (by omega)];exact⟨t,_,rfl,(hR.mark b _ (by have:=hT.1.1;simp only;omega) hT.1.2.1).more (by omega),Ex.mark l s b _ b st' (i4 _) (by omega) h5,.inr hT.1,fun _=>.inr ⟨⟨c14,hT.2,fun h=>absurd h c20⟩,hT.1⟩⟩
end
end
section
def i7(ks:List Nat):List Int:=ks.map fun(k:Nat)=>(k:Int)
theorem A1(ks:List Nat):(i7 ks).length=ks.length:=by unfold i7;rw[F9]
theorem A5{ks:List Nat}{i:Nat}(h:i<ks.length):f5 (i7 ks) (i:Int)=some ((ks[i]:Nat):Int):=by rw[l5 (by rw[A1];exact h)];simp[i7]
theorem B4{ks:List Nat}{i:Nat}(h:i<ks.length):(i7 ks)[i]? =some ((ks[i]:Nat):Int):=by simp[i7,h]
theorem aT(ks:List Nat)(i:Nat):y8 (i7 ks) (0:Int) (i:Int)=i7 (ks.take i):=by unfold y8 i7;rw[List.map_take];simp
theorem Kc.sorted{l:List d7}{i j:Nat}{ks:List Nat}(h:Kc l i j ks):ks.Pairwise (· < ·):=by
 induction h with
 |nil=>exact List.Pairwise.nil
 |cons i k j x ks hx hs hk kids rest ih=>exact List.Pairwise.cons (fun p hp=>by have:=(rest.mem p hp).1;omega) ih
theorem WI{l:List d7}(hM:L9 l)(hl:l.length≤30000)(k:Int):∃ts:List Nat,bQ d5 l k=some ((i7 ts,()),())∧ts.length≤l.length∧(∀p∈ts,∃x,l[p]? =some x∧x.Ks=k)∧ts.Pairwise (· < ·):=by
 obtain⟨x,hx,hk,hs,h0,hw⟩:=hM.root;obtain⟨ks,hks⟩:=hw.kc;have hkl:=hks.le;have hkids:=N5 (l:=l) (by omega) hx (st:=l.length) (by omega) (i4 _) hks;have loop:∀(n i:Nat),ks.length-i=n→Xv d5 l k ((i7 ks,()),()) (i:Int) (i7 ((ks.take i).filter fun p=>decide (kd l p=k)))=some ((i7 (ks.filter fun p=>decide (kd l p=k)),()),()):=by
  intro n
  induction n with
  |zero=>intro i hi;rw[YG,Uy];simp only[A1];rw[d9 (by omega),f6,b1E,oA,List.take_of_length_le (by omega)]
  |succ n ih=>
   intro i hi;have hil:i<ks.length:=(by omega);obtain⟨_,_,y,q,hy,_⟩:=hks.mem _ (B0 hil);have hyl:=(l3.1 hy).1;have hye:=(l3.1 hy).2;have g:=A5 hil;have ga:=B4 hil;have hfl:=List.length_filter_le (fun p=>decide (kd l p=k)) (ks.take i);rw[List.length_take]at hfl;have hz:(i7 ((ks.take i).filter fun p=>decide (kd l p=k))).length+ [((ks[i]:Nat):Int)].length≤100000000:=(by rw[A1,y7];omega);have e:=ih (i+1) (by omega);rw[List.take_add_one,p9 hil,List.filter_append]at e;rw[YG,Uy];simp only[A1];rw[f7 (by omega),f9,g,d6,E5,ga,d6,l5 hyl,hye,d6,z8 (by omega)];by_cases c:y.Ks=k
   ·have e1:i7 ((ks.take i).filter fun p=>decide (kd l p=k))++[((ks[i]:Nat):Int)]=i7 ((ks.take i).filter (fun p=>decide (kd l p=k))++(Option.toList (some ks[i])).filter fun p=>decide (kd l p=k)):=by simp[i7,s9 hy,c]
    rw[f7 c,f9,d6,d6,G9 (by decide) hz,d6,e1];exact e
   ·have e1:(ks.take i).filter (fun p=>decide (kd l p=k))++(Option.toList (some ks[i])).filter (fun p=>decide (kd l p=k))=(ks.take i).filter fun p=>decide (kd l p=k):=by simp[s9 hy,c]
    rw[e1]at e;rw[d9 c,f6];exact e
 rw[a9i,kW,show J7 d5 l 0=_ from hkids,d6];have l0:=loop _ 0 rfl;rw[List.take_zero]at l0;refine⟨_,l0,?_,fun p hp=>?_,hks.sorted.filter _⟩
 ·have:=List.length_filter_le (fun p=>decide (kd l p=k)) ks;omega
 ·obtain⟨h1,h2⟩:=List.mem_filter.1 hp;obtain⟨_,_,y,q,hy,_⟩:=hks.mem p h1;refine⟨y,hy,?_⟩;rw[←s9 hy];exact E3 h2
theorem iI{l:List d7}(ks:List Nat)(hk:∀p∈ks,p<l.length)(hkl:ks.length≤30000)(s:b36):∃b,Mg d5 l (i7 ks) s=some ((b,()),()):=by
 have loop:∀(n i:Nat),ks.length-i=n→∃b,Zl d5 l (i7 ks) s (i:Int)=some ((b,()),()):=by
  intro n
  induction n with
  |zero=>intro i hi;rw[RV,Xm,A1,d9 (by omega),f6,a88,iM];exact⟨_,rfl⟩
  |succ n ih=>
   intro i hi;have hil:i<ks.length:=(by omega);have hyl:=hk _ (B0 hil);have e:=ih (i+1) (by omega);rw[RV,Xm,A1,f7 (by omega),f9,A5 hil,d6,l5 hyl,d6,z8 (by omega)];cases decide (l[ks[i]].Ds=s)with
   |true=>exact⟨_,rfl⟩
   |false=>exact e
 rw[a0L,fZ];exact loop _ 0 rfl
theorem HR(s:b36):∃n:Int,lE d5 s=some ((n,()),())∧0≤n∧n≤8:=by
 have loop:∀(W:List (b36)) (hd:W=([([]:b36),([108,101,110]:b36),([116,101,120,116]:b36),([114,101]:b36),([105,109]:b36),([112,97,105,114]:b36),([99,104,114]:b36),([114,101,97,100]:b36),([114,97,110,100]:b36)]:List (b36))) (hW:W.length=9),∀(n i:Nat),W.length-i=n→∃n:Int,iD d5 s (i:Int)=some ((n,()),())∧0≤n∧n≤8:=by
  intro W hd hW n
  induction n with
  |zero=>intro i hi;rw[YH,Vd,←hd,d9 (by omega),f6,a4X,eK];exact⟨0,rfl,by omega,by omega⟩
  |succ n ih=>
   intro i hi;have hil:i<W.length:=(by omega);have e:=ih (i+1) (by omega);rw[YH,Vd,←hd,f7 (by omega),f9,l5 hil,d6,E5,p9 hil,d6,z8 (by omega)];cases decide (W[i]=s)with
   |true=>exact⟨_,rfl,by omega,by omega⟩
   |false=>exact e
 rw[a4C,jS];exact loop _ rfl rfl _ 0 rfl
theorem SW(s:d8)(hs:s.P.As.length≤100000000000)(name:b36):∃n:Int,sM d5 s name=some ((n,()),())∧ -1≤n∧n<s.P.As.length:=by
 have loop:∀(n i:Nat),s.P.As.length-i=n→∃n:Int,pO d5 name s (i:Int)=some ((n,()),())∧ -1≤n∧n<s.P.As.length:=by
  intro n
  induction n with
  |zero=>intro i hi;rw[LE,Xg,d9 (by omega),f6,a8i,uB];exact⟨-1,rfl,by omega,by omega⟩
  |succ n ih=>
   intro i hi;have hil:i<s.P.As.length:=(by omega);have e:=ih (i+1) (by omega);rw[LE,Xg,f7 (by omega),f9,l5 hil,d6,z8 (by omega)];cases decide (s.P.As[i].In=name)with
   |true=>exact⟨_,rfl,by omega,by omega⟩
   |false=>exact e
 rw[a2q,lT];exact loop _ 0 rfl
theorem a6w(n:Nat)(hn:n≤30000):∃T,DX d5 (n:Int)=some ((T,()),())∧Z4 (min n 100) T∧T.length=6+min n 100:=by
 have loop:∀(m i:Nat) (T:List o4),min n 100-i=m→i≤min n 100→Z4 i T→T.length=6+i→∃T',aZ d5 (n:Int) (i:Int) T=some ((T',()),())∧Z4 (min n 100) T'∧T'.length=6+min n 100:=by
  intro m
  induction m with
  |zero=>
   intro i T hi hle h hl;have:i=min n 100:=(by omega);rw[LW,Qu,b1m,cZ,←this];refine⟨T,?_,h,hl⟩;by_cases c:(i:Int)<(n:Int)
   ·rw[f7 c,d9 (by omega)];rfl
   ·rw[d9 c];rfl
  |succ m ih=>
   intro i T hi hle h hl;have hz:T.length+ [(o4.mk 6 (i:Int))].length≤100000000:=(by rw[y7];omega);rw[LW,Qu,f7 (by omega),f7 (by omega),f9,f9,G9 (by decide) hz,d6,z8 (by omega)];refine ih (i+1) _ (by omega) (by omega) ⟨?_,fun j hj=>?_,fun j hj=>?_,fun j x hj hx=>?_⟩ (by rw[o0,y7];omega)
   ·rw[o0,y7];omega
   ·rw[Y9 (by omega)];exact h.base j hj
   ·by_cases c:j<i
    ·rw[Y9 (by omega)];exact h.recs j c
    ·have:j=i:=(by omega);subst this;rw[Fq (by omega)];have:6+j-T.length=0:=(by omega);rw[this];rfl
   ·have:=(l3.1 hx).1;rw[o0,y7]at this;omega
 rw[a26,rS];refine loop _ 0 _ rfl (D0 _) ⟨by simp,fun i hi=>?_,fun i hi=>absurd hi (Nat.not_lt_zero _),fun i x hi hx=>?_⟩ rfl
 ·have:i=0∨i=1∨i=2∨i=3∨i=4∨i=5:=(by omega);rcases this with rfl|rfl|rfl|rfl|rfl|rfl<;>rfl
 ·have:=(l3.1 hx).1;simp at this;omega
section
variable{l:List d7}(hM:L9 l)(hl:l.length≤30000)(htx:∀n∈l,n.Ds.length≤65536)
include hM hl htx
theorem a3c(b:Nat)(x:d7)(st:Nat)(hx:l[b]? =some x)(hs:x.Cs=(st:Int)-(b+1))(hk:14≤x.Ks∧x.Ks≤20)(s:d8)(nr B:Nat)(hR:RI l nr B s)(hB:B+(st-b)≤80000000000):∃t s',qR d5 s (b:Int)=some ((t,s',()),())∧RI l nr (B+(st-b)) s'∧Ex l s s' b st∧(t=0∨D1 s'.P.To t)∧(s'.F.Code=0→x.Ks=14∧t=0∨(x.Ks≠14∧TKd s'.P.To t x.Ks)∧D1 s'.P.To t):=
 AV hM hl htx _ (fun a b=>by rw[a79,cJ,OV,BW]) _ b x st hx hs rfl hk s nr B hR hB
theorem VE(b:Nat)(x:d7)(st:Nat)(hx:l[b]? =some x)(hs:x.Cs=(st:Int)-(b+1))(hk:14≤x.Ks∧x.Ks≤20)(s:d8)(nr B:Nat)(hR:RI l nr B s)(hB:B+(st-b)≤80000000000):∃t s',Yr d5 s (b:Int)=some ((t,s',()),())∧RI l nr (B+(st-b)) s'∧Ex l s s' b st∧(t=0∨D1 s'.P.To t)∧(s'.F.Code=0→x.Ks=14∧t=0∨(x.Ks≠14∧TKd s'.P.To t x.Ks)∧D1 s'.P.To t):=
 AV hM hl htx _ (fun a b=>by rw[a1W,mG,FD,Mc]) _ b x st hx hs rfl hk s nr B hR hB
theorem SS(b:Nat)(x:d7)(st:Nat)(hx:l[b]? =some x)(hs:x.Cs=(st:Int)-(b+1))(hk:14≤x.Ks∧x.Ks≤20)(s:d8)(nr B:Nat)(hR:RI l nr B s)(hB:B+(st-b)≤80000000000):∃t s',Tc d5 s (b:Int)=some ((t,s',()),())∧RI l nr (B+(st-b)) s'∧Ex l s s' b st∧(t=0∨D1 s'.P.To t)∧(s'.F.Code=0→x.Ks=14∧t=0∨(x.Ks≠14∧TKd s'.P.To t x.Ks)∧D1 s'.P.To t):=
 AV hM hl htx _ (fun a b=>by rw[a1O,lD,Pz]) _ b x st hx hs rfl hk s nr B hR hB
end
end
end
end Go.Proofs.YtihbbcealnnpiaaGreatDoor
